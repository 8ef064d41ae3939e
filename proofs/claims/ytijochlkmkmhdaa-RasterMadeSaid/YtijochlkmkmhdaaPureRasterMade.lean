/- What the law RasterMade computes is true, whatever the numbers. Under no condition. -/
import Derived.Test.YtijochlkmkmhdaaTellsRasterMade
import Derived.Test.YtijochlkmkmhdaaThingsRasterMade
namespace Go.Proofs.Ytijochlkmkmhdaa.Pure
open Go.RowKit Go.Proofs.YtijochlkmkmhdaaW.PrintWords Go.Proofs.YtijochlkmkmhdaaW.PrintLast Go.Proofs.YtijochlkmkmhdaaW.PrintMore Go.Proofs.Ytijochlkmkmhdaa.PRasterMade Go.Proofs.Ytijochlkmkmhdaa.RasterRasterMade Go.Proofs.Ytijochlkmkmhdaa.PixelsRasterMade Go.Proofs.Ytijochlkmkmhdaa.TellsRasterMade Go.Proofs.Ytijochlkmkmhdaa.ThingsRasterMade
set_option linter.unusedVariables false

theorem RasterMade : tourlaw5_RasterMade.Pure := by
  intro l0 a1 a2 a3 a4 hl hl2 _ _ _ _ _
  refine Ev.rounds ?_
  obtain ⟨L, hL, h6, hok⟩ := things_ev l0 (by omega)
  obtain ⟨b1, e1, _⟩ := below_ok a1 20 (by omega)
  obtain ⟨b2, e2, _⟩ := below_ok a2 20 (by omega)
  obtain ⟨b3, e3, _⟩ := below_ok a3 20 (by omega)
  obtain ⟨b4, e4, _⟩ := below_ok a4 20 (by omega)
  unfold tourlaw5_RasterMade.f
  refine Ev.bind hL ?_
  simp only [e1, e2, e3, e4, Option.bind_some]
  refine Ev.bind (tells_ev L (by omega) (fun t ht => by have := fault_len (hok t ht); omega) _ _ _ _) ?_
  exact Ev.now _
end Go.Proofs.Ytijochlkmkmhdaa.Pure
