-- Printed by a program: the print with changes of this session (wip/printpatch.py).
import Derived.Test.YtfallkiaojefnaaPBonesLongx0
import Derived.Test.YtfallkiaojefnaaPBonesLongx1
import Derived.Test.YtfallkiaojefnaaPBonesLongx2
import Derived.Test.YtfallkiaojefnaaPBonesLongx3
import Derived.Test.YtfallkiaojefnaaPBonesLongx4
import Derived.Test.YtfallkiaojefnaaPBonesLongx5
import Derived.Test.YtfallkiaojefnaaPBonesLongx6
import Derived.Test.YtfallkiaojefnaaPBonesLongx7
import Derived.Test.YtfallkiaojefnaaPBonesLongx8
import Derived.Test.YtfallkiaojefnaaPBonesLongx9
import Derived.Test.YtfallkiaojefnaaPBonesLongx10
import Derived.Test.YtfallkiaojefnaaPBonesLongx11
import Derived.Test.YtfallkiaojefnaaPBonesLongx12
import Derived.Test.YtfallkiaojefnaaPBonesLongx13
import Derived.Test.YtfallkiaojefnaaPBonesLongx14
import Derived.Test.YtfallkiaojefnaaPBonesLongx15
namespace Go.Proofs.Ytfallkiaojefnaa.PBonesLong
open Go.Proofs.Ytfallkiaojefnaa.Fnv Go.Proofs.Ytfallkiaojefnaa.Ary Go.Proofs.Ytfallkiaojefnaa.Ext
open Go.RowKit Go.Proofs.YtfallkiaojefnaaW.PrintWords Go.Proofs.YtfallkiaojefnaaW.PrintLast Go.Proofs.YtfallkiaojefnaaW.PrintMore
attribute [local go_sem] max2_int min2_int max_two min_two max_three min_three max_four min_four   -- for this text's walks alone
set_option linter.unusedVariables false
set_option linter.unusedSimpArgs false

end Go.Proofs.Ytfallkiaojefnaa.PBonesLong
