-- Printed by a program: the print with changes of this session (wip/printpatch.py).
import Derived.Test.YtdopeneehminaaaPGraphPlainx0
import Derived.Test.YtdopeneehminaaaPGraphPlainx1
import Derived.Test.YtdopeneehminaaaPGraphPlainx2
import Derived.Test.YtdopeneehminaaaPGraphPlainx3
import Derived.Test.YtdopeneehminaaaPGraphPlainx4
import Derived.Test.YtdopeneehminaaaPGraphPlainx5
namespace Go.Proofs.Ytdopeneehminaaa.PGraphPlain
open Go.Proofs.Ytdopeneehminaaa.Fnv Go.Proofs.Ytdopeneehminaaa.Ary Go.Proofs.Ytdopeneehminaaa.Ext
open Go.RowKit Go.Proofs.YtdopeneehminaaaW.PrintWords Go.Proofs.YtdopeneehminaaaW.PrintLast Go.Proofs.YtdopeneehminaaaW.PrintMore
attribute [local go_sem] max2_int min2_int max_two min_two max_three min_three max_four min_four   -- for this text's walks alone
set_option linter.unusedVariables false
set_option linter.unusedSimpArgs false

end Go.Proofs.Ytdopeneehminaaa.PGraphPlain
