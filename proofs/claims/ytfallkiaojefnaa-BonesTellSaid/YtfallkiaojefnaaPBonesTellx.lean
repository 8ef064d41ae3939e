-- Printed by a program: the print with changes of this session (wip/printpatch.py).
import Derived.Test.YtfallkiaojefnaaPBonesTellx0
import Derived.Test.YtfallkiaojefnaaPBonesTellx1
import Derived.Test.YtfallkiaojefnaaPBonesTellx2
import Derived.Test.YtfallkiaojefnaaPBonesTellx3
import Derived.Test.YtfallkiaojefnaaPBonesTellx4
import Derived.Test.YtfallkiaojefnaaPBonesTellx5
import Derived.Test.YtfallkiaojefnaaPBonesTellx6
import Derived.Test.YtfallkiaojefnaaPBonesTellx7
import Derived.Test.YtfallkiaojefnaaPBonesTellx8
import Derived.Test.YtfallkiaojefnaaPBonesTellx9
import Derived.Test.YtfallkiaojefnaaPBonesTellx10
import Derived.Test.YtfallkiaojefnaaPBonesTellx11
import Derived.Test.YtfallkiaojefnaaPBonesTellx12
import Derived.Test.YtfallkiaojefnaaPBonesTellx13
import Derived.Test.YtfallkiaojefnaaPBonesTellx14
import Derived.Test.YtfallkiaojefnaaPBonesTellx15
import Derived.Test.YtfallkiaojefnaaPBonesTellx16
import Derived.Test.YtfallkiaojefnaaPBonesTellx17
import Derived.Test.YtfallkiaojefnaaPBonesTellx18
import Derived.Test.YtfallkiaojefnaaPBonesTellx19
namespace Go.Proofs.Ytfallkiaojefnaa.PBonesTell
open Go.Proofs.Ytfallkiaojefnaa.Fnv Go.Proofs.Ytfallkiaojefnaa.Ary Go.Proofs.Ytfallkiaojefnaa.Ext
open Go.RowKit Go.Proofs.YtfallkiaojefnaaW.PrintWords Go.Proofs.YtfallkiaojefnaaW.PrintLast Go.Proofs.YtfallkiaojefnaaW.PrintMore
attribute [local go_sem] max2_int min2_int max_two min_two max_three min_three max_four min_four   -- for this text's walks alone
set_option linter.unusedVariables false
set_option linter.unusedSimpArgs false

end Go.Proofs.Ytfallkiaojefnaa.PBonesTell
