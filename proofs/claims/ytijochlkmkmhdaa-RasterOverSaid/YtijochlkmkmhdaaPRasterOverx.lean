-- Printed by a program: the print with changes of this session (wip/printpatch.py).
import Derived.Test.YtijochlkmkmhdaaPRasterOverx0
import Derived.Test.YtijochlkmkmhdaaPRasterOverx1
import Derived.Test.YtijochlkmkmhdaaPRasterOverx2
import Derived.Test.YtijochlkmkmhdaaPRasterOverx3
import Derived.Test.YtijochlkmkmhdaaPRasterOverx4
import Derived.Test.YtijochlkmkmhdaaPRasterOverx5
import Derived.Test.YtijochlkmkmhdaaPRasterOverx6
namespace Go.Proofs.Ytijochlkmkmhdaa.PRasterOver
open Go.Proofs.Ytijochlkmkmhdaa.Fnv Go.Proofs.Ytijochlkmkmhdaa.Ary
open Go.RowKit Go.Proofs.YtijochlkmkmhdaaW.PrintWords Go.Proofs.YtijochlkmkmhdaaW.PrintLast Go.Proofs.YtijochlkmkmhdaaW.PrintMore
attribute [local go_sem] max2_int min2_int max_two min_two max_three min_three max_four min_four   -- for this text's walks alone
set_option linter.unusedVariables false
set_option linter.unusedSimpArgs false

end Go.Proofs.Ytijochlkmkmhdaa.PRasterOver
