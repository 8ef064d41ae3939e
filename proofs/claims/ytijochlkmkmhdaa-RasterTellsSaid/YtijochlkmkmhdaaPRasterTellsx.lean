-- Printed by a program: the print with changes of this session (wip/printpatch.py).
import Derived.Test.YtijochlkmkmhdaaPRasterTellsx0
import Derived.Test.YtijochlkmkmhdaaPRasterTellsx1
import Derived.Test.YtijochlkmkmhdaaPRasterTellsx2
import Derived.Test.YtijochlkmkmhdaaPRasterTellsx3
import Derived.Test.YtijochlkmkmhdaaPRasterTellsx4
import Derived.Test.YtijochlkmkmhdaaPRasterTellsx5
import Derived.Test.YtijochlkmkmhdaaPRasterTellsx6
import Derived.Test.YtijochlkmkmhdaaPRasterTellsx7
import Derived.Test.YtijochlkmkmhdaaPRasterTellsx8
import Derived.Test.YtijochlkmkmhdaaPRasterTellsx9
namespace Go.Proofs.Ytijochlkmkmhdaa.PRasterTells
open Go.Proofs.Ytijochlkmkmhdaa.Fnv
open Go.RowKit Go.Proofs.YtijochlkmkmhdaaW.PrintWords Go.Proofs.YtijochlkmkmhdaaW.PrintLast Go.Proofs.YtijochlkmkmhdaaW.PrintMore
attribute [local go_sem] max2_int min2_int max_two min_two max_three min_three max_four min_four   -- for this text's walks alone
set_option linter.unusedVariables false
set_option linter.unusedSimpArgs false

end Go.Proofs.Ytijochlkmkmhdaa.PRasterTells
