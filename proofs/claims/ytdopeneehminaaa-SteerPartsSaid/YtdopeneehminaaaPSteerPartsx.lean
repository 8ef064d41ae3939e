-- Printed by a program: the print with changes of this session (wip/printpatch.py).
import Derived.Test.YtdopeneehminaaaPSteerPartsx0
import Derived.Test.YtdopeneehminaaaPSteerPartsx1
import Derived.Test.YtdopeneehminaaaPSteerPartsx2
import Derived.Test.YtdopeneehminaaaPSteerPartsx3
import Derived.Test.YtdopeneehminaaaPSteerPartsx4
import Derived.Test.YtdopeneehminaaaPSteerPartsx5
import Derived.Test.YtdopeneehminaaaPSteerPartsx6
import Derived.Test.YtdopeneehminaaaPSteerPartsx7
import Derived.Test.YtdopeneehminaaaPSteerPartsx8
import Derived.Test.YtdopeneehminaaaPSteerPartsx9
import Derived.Test.YtdopeneehminaaaPSteerPartsx10
namespace Go.Proofs.Ytdopeneehminaaa.PSteerParts
open Go.Proofs.Ytdopeneehminaaa.Ext
open Go.RowKit Go.Proofs.YtdopeneehminaaaW.PrintWords Go.Proofs.YtdopeneehminaaaW.PrintLast Go.Proofs.YtdopeneehminaaaW.PrintMore
attribute [local go_sem] max2_int min2_int max_two min_two max_three min_three max_four min_four   -- for this text's walks alone
set_option linter.unusedVariables false
set_option linter.unusedSimpArgs false

end Go.Proofs.Ytdopeneehminaaa.PSteerParts
