-- Printed by a program: the print with changes of this session (wip/printpatch.py).
import Derived.Test.YtfallkiaojefnaaPBonesPlayx0
import Derived.Test.YtfallkiaojefnaaPBonesPlayx1
import Derived.Test.YtfallkiaojefnaaPBonesPlayx2
import Derived.Test.YtfallkiaojefnaaPBonesPlayx3
import Derived.Test.YtfallkiaojefnaaPBonesPlayx4
import Derived.Test.YtfallkiaojefnaaPBonesPlayx5
import Derived.Test.YtfallkiaojefnaaPBonesPlayx6
import Derived.Test.YtfallkiaojefnaaPBonesPlayx7
import Derived.Test.YtfallkiaojefnaaPBonesPlayx8
import Derived.Test.YtfallkiaojefnaaPBonesPlayx9
import Derived.Test.YtfallkiaojefnaaPBonesPlayx10
import Derived.Test.YtfallkiaojefnaaPBonesPlayx11
namespace Go.Proofs.Ytfallkiaojefnaa.PBonesPlay
open Go.Proofs.Ytfallkiaojefnaa.Fnv Go.Proofs.Ytfallkiaojefnaa.Ary Go.Proofs.Ytfallkiaojefnaa.Ext
open Go.RowKit Go.Proofs.YtfallkiaojefnaaW.PrintWords Go.Proofs.YtfallkiaojefnaaW.PrintLast Go.Proofs.YtfallkiaojefnaaW.PrintMore
attribute [local go_sem] max2_int min2_int max_two min_two max_three min_three max_four min_four   -- for this text's walks alone
set_option linter.unusedVariables false
set_option linter.unusedSimpArgs false

end Go.Proofs.Ytfallkiaojefnaa.PBonesPlay
