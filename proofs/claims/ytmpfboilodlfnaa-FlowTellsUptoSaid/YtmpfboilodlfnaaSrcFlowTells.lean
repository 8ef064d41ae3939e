/- Numbers out of a source: tourref5's Below and Source.N. Under the conditions that stand at each. -/
import Derived.Test.YtmpfboilodlfnaaPFlowTellsx
namespace Go.Proofs.Ytmpfboilodlfnaa.SrcFlowTells
open Go.RowKit Go.Proofs.YtmpfboilodlfnaaW.PrintWords Go.Proofs.YtmpfboilodlfnaaW.PrintLast Go.Proofs.YtmpfboilodlfnaaW.PrintMore Go.Proofs.Ytmpfboilodlfnaa.PFlowTells
set_option linter.unusedVariables false

theorem swrap_in {x : Int} (h0 : -9223372036854775808 ≤ x) (h1 : x ≤ 9223372036854775807) : wrap64 x = x := by
  unfold wrap64; omega
end Go.Proofs.Ytmpfboilodlfnaa.SrcFlowTells
