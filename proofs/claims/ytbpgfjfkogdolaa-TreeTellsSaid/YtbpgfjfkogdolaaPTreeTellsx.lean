-- Printed by a program: the print with changes of this session (wip/printpatch.py).
import Derived.Test.YtbpgfjfkogdolaaPTreeTellsx0
import Derived.Test.YtbpgfjfkogdolaaPTreeTellsx1
import Derived.Test.YtbpgfjfkogdolaaPTreeTellsx2
import Derived.Test.YtbpgfjfkogdolaaPTreeTellsx3
import Derived.Test.YtbpgfjfkogdolaaPTreeTellsx4
import Derived.Test.YtbpgfjfkogdolaaPTreeTellsx5
namespace Go.Proofs.Ytbpgfjfkogdolaa.PTreeTells
open Go.Proofs.Ytbpgfjfkogdolaa.Fnv Go.Proofs.Ytbpgfjfkogdolaa.Ary
open Go.RowKit Go.Proofs.YtbpgfjfkogdolaaW.PrintWords Go.Proofs.YtbpgfjfkogdolaaW.PrintLast Go.Proofs.YtbpgfjfkogdolaaW.PrintMore
attribute [local go_sem] max2_int min2_int max_two min_two max_three min_three max_four min_four   -- for this text's walks alone
set_option linter.unusedVariables false
set_option linter.unusedSimpArgs false

end Go.Proofs.Ytbpgfjfkogdolaa.PTreeTells
