-- Printed by a program: the print with changes of this session (wip/printpatch.py).
import Derived.Test.YtdopeneehminaaaPSteerTellsx0
import Derived.Test.YtdopeneehminaaaPSteerTellsx1
import Derived.Test.YtdopeneehminaaaPSteerTellsx2
import Derived.Test.YtdopeneehminaaaPSteerTellsx3
import Derived.Test.YtdopeneehminaaaPSteerTellsx4
import Derived.Test.YtdopeneehminaaaPSteerTellsx5
import Derived.Test.YtdopeneehminaaaPSteerTellsx6
import Derived.Test.YtdopeneehminaaaPSteerTellsx7
import Derived.Test.YtdopeneehminaaaPSteerTellsx8
import Derived.Test.YtdopeneehminaaaPSteerTellsx9
import Derived.Test.YtdopeneehminaaaPSteerTellsx10
import Derived.Test.YtdopeneehminaaaPSteerTellsx11
import Derived.Test.YtdopeneehminaaaPSteerTellsx12
import Derived.Test.YtdopeneehminaaaPSteerTellsx13
import Derived.Test.YtdopeneehminaaaPSteerTellsx14
namespace Go.Proofs.Ytdopeneehminaaa.PSteerTells
open Go.Proofs.Ytdopeneehminaaa.Fnv Go.Proofs.Ytdopeneehminaaa.Ary Go.Proofs.Ytdopeneehminaaa.Ext
open Go.RowKit Go.Proofs.YtdopeneehminaaaW.PrintWords Go.Proofs.YtdopeneehminaaaW.PrintLast Go.Proofs.YtdopeneehminaaaW.PrintMore
attribute [local go_sem] max2_int min2_int max_two min_two max_three min_three max_four min_four   -- for this text's walks alone
set_option linter.unusedVariables false
set_option linter.unusedSimpArgs false

end Go.Proofs.Ytdopeneehminaaa.PSteerTells
