-- Printed by a program: the print with changes of this session (wip/printpatch.py).
import Derived.Test.YtdopeneehminaaaPGraphPlaysx0
import Derived.Test.YtdopeneehminaaaPGraphPlaysx1
import Derived.Test.YtdopeneehminaaaPGraphPlaysx2
import Derived.Test.YtdopeneehminaaaPGraphPlaysx3
import Derived.Test.YtdopeneehminaaaPGraphPlaysx4
import Derived.Test.YtdopeneehminaaaPGraphPlaysx5
namespace Go.Proofs.Ytdopeneehminaaa.PGraphPlays
open Go.Proofs.Ytdopeneehminaaa.Fnv Go.Proofs.Ytdopeneehminaaa.Ary Go.Proofs.Ytdopeneehminaaa.Ext
open Go.RowKit Go.Proofs.YtdopeneehminaaaW.PrintWords Go.Proofs.YtdopeneehminaaaW.PrintLast Go.Proofs.YtdopeneehminaaaW.PrintMore
attribute [local go_sem] max2_int min2_int max_two min_two max_three min_three max_four min_four   -- for this text's walks alone
set_option linter.unusedVariables false
set_option linter.unusedSimpArgs false

end Go.Proofs.Ytdopeneehminaaa.PGraphPlays
