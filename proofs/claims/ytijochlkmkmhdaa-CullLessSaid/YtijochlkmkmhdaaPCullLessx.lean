-- Printed by a program: the print with changes of this session (wip/printpatch.py).
import Derived.Test.YtijochlkmkmhdaaPCullLessx0
import Derived.Test.YtijochlkmkmhdaaPCullLessx1
import Derived.Test.YtijochlkmkmhdaaPCullLessx2
import Derived.Test.YtijochlkmkmhdaaPCullLessx3
import Derived.Test.YtijochlkmkmhdaaPCullLessx4
import Derived.Test.YtijochlkmkmhdaaPCullLessx5
import Derived.Test.YtijochlkmkmhdaaPCullLessx6
namespace Go.Proofs.Ytijochlkmkmhdaa.PCullLess
open Go.Proofs.Ytijochlkmkmhdaa.Fnv Go.Proofs.Ytijochlkmkmhdaa.Ary
open Go.RowKit Go.Proofs.YtijochlkmkmhdaaW.PrintWords Go.Proofs.YtijochlkmkmhdaaW.PrintLast Go.Proofs.YtijochlkmkmhdaaW.PrintMore
attribute [local go_sem] max2_int min2_int max_two min_two max_three min_three max_four min_four   -- for this text's walks alone
set_option linter.unusedVariables false
set_option linter.unusedSimpArgs false

end Go.Proofs.Ytijochlkmkmhdaa.PCullLess
