-- Printed by a program: the print with changes of this session (wip/printpatch.py).
import Derived.Test.YtdopeneehminaaaPSteerApartx0
import Derived.Test.YtdopeneehminaaaPSteerApartx1
import Derived.Test.YtdopeneehminaaaPSteerApartx2
import Derived.Test.YtdopeneehminaaaPSteerApartx3
import Derived.Test.YtdopeneehminaaaPSteerApartx4
import Derived.Test.YtdopeneehminaaaPSteerApartx5
import Derived.Test.YtdopeneehminaaaPSteerApartx6
import Derived.Test.YtdopeneehminaaaPSteerApartx7
import Derived.Test.YtdopeneehminaaaPSteerApartx8
import Derived.Test.YtdopeneehminaaaPSteerApartx9
namespace Go.Proofs.Ytdopeneehminaaa.PSteerApart
open Go.Proofs.Ytdopeneehminaaa.Fnv Go.Proofs.Ytdopeneehminaaa.Ext
open Go.RowKit Go.Proofs.YtdopeneehminaaaW.PrintWords Go.Proofs.YtdopeneehminaaaW.PrintLast Go.Proofs.YtdopeneehminaaaW.PrintMore
attribute [local go_sem] max2_int min2_int max_two min_two max_three min_three max_four min_four   -- for this text's walks alone
set_option linter.unusedVariables false
set_option linter.unusedSimpArgs false

end Go.Proofs.Ytdopeneehminaaa.PSteerApart
