-- Printed by a program: the print with changes of this session (wip/printpatch.py).
import Derived.Test.YtfallkiaojefnaaPBonesBlendx0
import Derived.Test.YtfallkiaojefnaaPBonesBlendx1
import Derived.Test.YtfallkiaojefnaaPBonesBlendx2
import Derived.Test.YtfallkiaojefnaaPBonesBlendx3
import Derived.Test.YtfallkiaojefnaaPBonesBlendx4
import Derived.Test.YtfallkiaojefnaaPBonesBlendx5
import Derived.Test.YtfallkiaojefnaaPBonesBlendx6
import Derived.Test.YtfallkiaojefnaaPBonesBlendx7
import Derived.Test.YtfallkiaojefnaaPBonesBlendx8
import Derived.Test.YtfallkiaojefnaaPBonesBlendx9
import Derived.Test.YtfallkiaojefnaaPBonesBlendx10
import Derived.Test.YtfallkiaojefnaaPBonesBlendx11
import Derived.Test.YtfallkiaojefnaaPBonesBlendx12
import Derived.Test.YtfallkiaojefnaaPBonesBlendx13
import Derived.Test.YtfallkiaojefnaaPBonesBlendx14
import Derived.Test.YtfallkiaojefnaaPBonesBlendx15
import Derived.Test.YtfallkiaojefnaaPBonesBlendx16
import Derived.Test.YtfallkiaojefnaaPBonesBlendx17
namespace Go.Proofs.Ytfallkiaojefnaa.PBonesBlend
open Go.Proofs.Ytfallkiaojefnaa.Fnv Go.Proofs.Ytfallkiaojefnaa.Ary Go.Proofs.Ytfallkiaojefnaa.Ext
open Go.RowKit Go.Proofs.YtfallkiaojefnaaW.PrintWords Go.Proofs.YtfallkiaojefnaaW.PrintLast Go.Proofs.YtfallkiaojefnaaW.PrintMore
attribute [local go_sem] max2_int min2_int max_two min_two max_three min_three max_four min_four   -- for this text's walks alone
set_option linter.unusedVariables false
set_option linter.unusedSimpArgs false

end Go.Proofs.Ytfallkiaojefnaa.PBonesBlend
