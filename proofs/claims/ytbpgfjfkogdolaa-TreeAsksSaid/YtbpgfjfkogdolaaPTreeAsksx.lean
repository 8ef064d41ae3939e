-- Printed by a program: the print with changes of this session (wip/printpatch.py).
import Derived.Test.YtbpgfjfkogdolaaPTreeAsksx0
import Derived.Test.YtbpgfjfkogdolaaPTreeAsksx1
import Derived.Test.YtbpgfjfkogdolaaPTreeAsksx2
import Derived.Test.YtbpgfjfkogdolaaPTreeAsksx3
import Derived.Test.YtbpgfjfkogdolaaPTreeAsksx4
import Derived.Test.YtbpgfjfkogdolaaPTreeAsksx5
import Derived.Test.YtbpgfjfkogdolaaPTreeAsksx13
namespace Go.Proofs.Ytbpgfjfkogdolaa.PTreeAsks
open Go.Proofs.Ytbpgfjfkogdolaa.Fnv Go.Proofs.Ytbpgfjfkogdolaa.Ary
open Go.RowKit Go.Proofs.YtbpgfjfkogdolaaW.PrintWords Go.Proofs.YtbpgfjfkogdolaaW.PrintLast Go.Proofs.YtbpgfjfkogdolaaW.PrintMore
attribute [local go_sem] max2_int min2_int max_two min_two max_three min_three max_four min_four   -- for this text's walks alone
set_option linter.unusedVariables false
set_option linter.unusedSimpArgs false

end Go.Proofs.Ytbpgfjfkogdolaa.PTreeAsks
