-- Printed by a program: the print with changes of this session (wip/printpatch.py).
import Derived.Test.YtmpfboilodlfnaaPFlowMadex0
import Derived.Test.YtmpfboilodlfnaaPFlowMadex1
import Derived.Test.YtmpfboilodlfnaaPFlowMadex2
import Derived.Test.YtmpfboilodlfnaaPFlowMadex3
import Derived.Test.YtmpfboilodlfnaaPFlowMadex4
import Derived.Test.YtmpfboilodlfnaaPFlowMadex5
import Derived.Test.YtmpfboilodlfnaaPFlowMadex6
import Derived.Test.YtmpfboilodlfnaaPFlowMadex7
import Derived.Test.YtmpfboilodlfnaaPFlowMadex8
import Derived.Test.YtmpfboilodlfnaaPFlowMadex9
import Derived.Test.YtmpfboilodlfnaaPFlowMadex10
namespace Go.Proofs.Ytmpfboilodlfnaa.PFlowMade
open Go.Proofs.Ytmpfboilodlfnaa.Fnv Go.Proofs.Ytmpfboilodlfnaa.Ary
open Go.RowKit Go.Proofs.YtmpfboilodlfnaaW.PrintWords Go.Proofs.YtmpfboilodlfnaaW.PrintLast Go.Proofs.YtmpfboilodlfnaaW.PrintMore
attribute [local go_sem] max2_int min2_int max_two min_two max_three min_three max_four min_four   -- for this text's walks alone
set_option linter.unusedVariables false
set_option linter.unusedSimpArgs false

end Go.Proofs.Ytmpfboilodlfnaa.PFlowMade
