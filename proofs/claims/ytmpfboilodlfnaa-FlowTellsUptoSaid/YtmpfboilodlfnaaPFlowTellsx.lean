-- Printed by a program: the print with changes of this session (wip/printpatch.py).
import Derived.Test.YtmpfboilodlfnaaPFlowTellsx0
import Derived.Test.YtmpfboilodlfnaaPFlowTellsx1
import Derived.Test.YtmpfboilodlfnaaPFlowTellsx2
import Derived.Test.YtmpfboilodlfnaaPFlowTellsx3
import Derived.Test.YtmpfboilodlfnaaPFlowTellsx4
import Derived.Test.YtmpfboilodlfnaaPFlowTellsx5
import Derived.Test.YtmpfboilodlfnaaPFlowTellsx6
import Derived.Test.YtmpfboilodlfnaaPFlowTellsx7
import Derived.Test.YtmpfboilodlfnaaPFlowTellsx8
import Derived.Test.YtmpfboilodlfnaaPFlowTellsx9
import Derived.Test.YtmpfboilodlfnaaPFlowTellsx10
namespace Go.Proofs.Ytmpfboilodlfnaa.PFlowTells
open Go.Proofs.Ytmpfboilodlfnaa.Fnv Go.Proofs.Ytmpfboilodlfnaa.Ary
open Go.RowKit Go.Proofs.YtmpfboilodlfnaaW.PrintWords Go.Proofs.YtmpfboilodlfnaaW.PrintLast Go.Proofs.YtmpfboilodlfnaaW.PrintMore
attribute [local go_sem] max2_int min2_int max_two min_two max_three min_three max_four min_four   -- for this text's walks alone
set_option linter.unusedVariables false
set_option linter.unusedSimpArgs false

end Go.Proofs.Ytmpfboilodlfnaa.PFlowTells
