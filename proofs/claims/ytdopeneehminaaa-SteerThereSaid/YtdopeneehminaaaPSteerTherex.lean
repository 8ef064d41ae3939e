-- Printed by a program: the print with changes of this session (wip/printpatch.py).
import Derived.Test.YtdopeneehminaaaPSteerTherex0
import Derived.Test.YtdopeneehminaaaPSteerTherex1
import Derived.Test.YtdopeneehminaaaPSteerTherex2
import Derived.Test.YtdopeneehminaaaPSteerTherex3
import Derived.Test.YtdopeneehminaaaPSteerTherex4
import Derived.Test.YtdopeneehminaaaPSteerTherex5
import Derived.Test.YtdopeneehminaaaPSteerTherex6
import Derived.Test.YtdopeneehminaaaPSteerTherex7
import Derived.Test.YtdopeneehminaaaPSteerTherex8
import Derived.Test.YtdopeneehminaaaPSteerTherex9
import Derived.Test.YtdopeneehminaaaPSteerTherex10
namespace Go.Proofs.Ytdopeneehminaaa.PSteerThere
open Go.Proofs.Ytdopeneehminaaa.Fnv Go.Proofs.Ytdopeneehminaaa.Ary Go.Proofs.Ytdopeneehminaaa.Ext
open Go.RowKit Go.Proofs.YtdopeneehminaaaW.PrintWords Go.Proofs.YtdopeneehminaaaW.PrintLast Go.Proofs.YtdopeneehminaaaW.PrintMore
attribute [local go_sem] max2_int min2_int max_two min_two max_three min_three max_four min_four   -- for this text's walks alone
set_option linter.unusedVariables false
set_option linter.unusedSimpArgs false

end Go.Proofs.Ytdopeneehminaaa.PSteerThere
