-- Printed by a program: the print with changes of this session (wip/printpatch.py).
import Derived.Test.YtijochlkmkmhdaaPRasterMadex0
import Derived.Test.YtijochlkmkmhdaaPRasterMadex1
import Derived.Test.YtijochlkmkmhdaaPRasterMadex2
import Derived.Test.YtijochlkmkmhdaaPRasterMadex3
import Derived.Test.YtijochlkmkmhdaaPRasterMadex4
import Derived.Test.YtijochlkmkmhdaaPRasterMadex5
import Derived.Test.YtijochlkmkmhdaaPRasterMadex6
import Derived.Test.YtijochlkmkmhdaaPRasterMadex7
import Derived.Test.YtijochlkmkmhdaaPRasterMadex8
import Derived.Test.YtijochlkmkmhdaaPRasterMadex9
import Derived.Test.YtijochlkmkmhdaaPRasterMadex10
namespace Go.Proofs.Ytijochlkmkmhdaa.PRasterMade
open Go.Proofs.Ytijochlkmkmhdaa.Fnv
open Go.RowKit Go.Proofs.YtijochlkmkmhdaaW.PrintWords Go.Proofs.YtijochlkmkmhdaaW.PrintLast Go.Proofs.YtijochlkmkmhdaaW.PrintMore
attribute [local go_sem] max2_int min2_int max_two min_two max_three min_three max_four min_four   -- for this text's walks alone
set_option linter.unusedVariables false
set_option linter.unusedSimpArgs false

end Go.Proofs.Ytijochlkmkmhdaa.PRasterMade
