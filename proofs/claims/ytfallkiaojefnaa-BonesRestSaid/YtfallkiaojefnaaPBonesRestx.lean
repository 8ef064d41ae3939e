-- Printed by a program: the print with changes of this session (wip/printpatch.py).
import Derived.Test.YtfallkiaojefnaaPBonesRestx0
import Derived.Test.YtfallkiaojefnaaPBonesRestx1
import Derived.Test.YtfallkiaojefnaaPBonesRestx2
import Derived.Test.YtfallkiaojefnaaPBonesRestx3
import Derived.Test.YtfallkiaojefnaaPBonesRestx4
import Derived.Test.YtfallkiaojefnaaPBonesRestx5
import Derived.Test.YtfallkiaojefnaaPBonesRestx6
import Derived.Test.YtfallkiaojefnaaPBonesRestx7
import Derived.Test.YtfallkiaojefnaaPBonesRestx8
import Derived.Test.YtfallkiaojefnaaPBonesRestx9
import Derived.Test.YtfallkiaojefnaaPBonesRestx10
import Derived.Test.YtfallkiaojefnaaPBonesRestx11
import Derived.Test.YtfallkiaojefnaaPBonesRestx12
import Derived.Test.YtfallkiaojefnaaPBonesRestx13
import Derived.Test.YtfallkiaojefnaaPBonesRestx14
namespace Go.Proofs.Ytfallkiaojefnaa.PBonesRest
open Go.Proofs.Ytfallkiaojefnaa.Fnv Go.Proofs.Ytfallkiaojefnaa.Ary Go.Proofs.Ytfallkiaojefnaa.Ext
open Go.RowKit Go.Proofs.YtfallkiaojefnaaW.PrintWords Go.Proofs.YtfallkiaojefnaaW.PrintLast Go.Proofs.YtfallkiaojefnaaW.PrintMore
attribute [local go_sem] max2_int min2_int max_two min_two max_three min_three max_four min_four   -- for this text's walks alone
set_option linter.unusedVariables false
set_option linter.unusedSimpArgs false

end Go.Proofs.Ytfallkiaojefnaa.PBonesRest
