/- Numbers out of a source: tourref5's Below and Source.N. Under the conditions that stand at each. -/
import Derived.Test.YtfallkiaojefnaaPBonesTellx
namespace Go.Proofs.Ytfallkiaojefnaa.SrcBonesTell
open Go.RowKit Go.Proofs.YtfallkiaojefnaaW.PrintWords Go.Proofs.YtfallkiaojefnaaW.PrintLast Go.Proofs.YtfallkiaojefnaaW.PrintMore Go.Proofs.Ytfallkiaojefnaa.PBonesTell
set_option linter.unusedVariables false

theorem swrap_in {x : Int} (h0 : -9223372036854775808 ≤ x) (h1 : x ≤ 9223372036854775807) : wrap64 x = x := by
  unfold wrap64; omega
end Go.Proofs.Ytfallkiaojefnaa.SrcBonesTell
