-- Printed by a program: the print with changes of this session (wip/printpatch.py).
import Derived.Test.YtdopeneehminaaaPGraphOncex0
import Derived.Test.YtdopeneehminaaaPGraphOncex1
import Derived.Test.YtdopeneehminaaaPGraphOncex2
import Derived.Test.YtdopeneehminaaaPGraphOncex3
import Derived.Test.YtdopeneehminaaaPGraphOncex4
import Derived.Test.YtdopeneehminaaaPGraphOncex5
namespace Go.Proofs.Ytdopeneehminaaa.PGraphOnce
open Go.Proofs.Ytdopeneehminaaa.Fnv Go.Proofs.Ytdopeneehminaaa.Ary Go.Proofs.Ytdopeneehminaaa.Ext
open Go.RowKit Go.Proofs.YtdopeneehminaaaW.PrintWords Go.Proofs.YtdopeneehminaaaW.PrintLast Go.Proofs.YtdopeneehminaaaW.PrintMore
attribute [local go_sem] max2_int min2_int max_two min_two max_three min_three max_four min_four   -- for this text's walks alone
set_option linter.unusedVariables false
set_option linter.unusedSimpArgs false

end Go.Proofs.Ytdopeneehminaaa.PGraphOnce
