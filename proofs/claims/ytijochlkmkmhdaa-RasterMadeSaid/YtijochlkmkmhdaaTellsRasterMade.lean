/- The law RasterTells as the print has it answers true. -/
import Derived.Test.YtijochlkmkmhdaaPixelsRasterMade
namespace Go.Proofs.Ytijochlkmkmhdaa.TellsRasterMade
open Go.RowKit Go.Proofs.YtijochlkmkmhdaaW.PrintWords Go.Proofs.YtijochlkmkmhdaaW.PrintLast Go.Proofs.YtijochlkmkmhdaaW.PrintMore Go.Proofs.Ytijochlkmkmhdaa.PRasterMade Go.Proofs.Ytijochlkmkmhdaa.RasterRasterMade Go.Proofs.Ytijochlkmkmhdaa.PixelsRasterMade
set_option linter.unusedVariables false

theorem j3_ev (L : List Th) (hlen : ∀ t ∈ L, t.f3.length ≤ 9223372036854775807) (X Y W H : Int) : Ev (fun k => tourlaw5_RasterTells.j3 k L (wantV L X Y W H) X Y W H) true := by
  refine Ev.step (fun k => by rw [tourlaw5_RasterTells.j3]) ?_
  obtain ⟨h0, h1⟩ := picture_all L hlen X Y W H
  by_cases h : wantV L X Y W H = 0
  · obtain ⟨w, h', rfl, rfl, hA, hL, hok, hp⟩ := h0 h
    refine Ev.bind hp ?_
    refine Ev.bind (ac_ev X Y w h') ?_
    refine Ev.bind (af_ev X Y w h') ?_
    simp only [if_true, if_pos h]
    refine Ev.bind (pixels_ev L hL hok X Y w h' hA) ?_
    refine Ev.bind (equal_ev _ (by rw [grid_length]; have := WH_le hA; omega)) ?_
    exact Ev.now _
  · refine Ev.bind (h1 h) ?_
    refine Ev.bind (ac_ev X Y W H) ?_
    refine Ev.bind (af_ev X Y W H) ?_
    simp only [if_true, if_neg h]
    exact Ev.now _

theorem l0_ev' (L : List Th) (hl : L.length ≤ 9223372036854775807) (hlen : ∀ t ∈ L, t.f3.length ≤ 9223372036854775807) (X Y W H : Int) : ∀ n i : Nat, i + n = L.length → ∀ e : Int,
    (if firstF e (L.drop i) = 0 then areaV X Y W H else firstF e (L.drop i)) = wantV L X Y W H → Ev (fun k => tourlaw5_RasterTells.l0 k L e L L.length i X Y W H) true := by
  intro n
  induction n with
  | zero =>
    intro i hi e he
    refine Ev.step (fun k => by rw [tourlaw5_RasterTells.l0, if_neg (by omega)]) ?_
    rw [List.drop_eq_nil_of_le (by omega)] at he
    have he : (if e = 0 then areaV X Y W H else e) = wantV L X Y W H := he
    by_cases h : e = 0
    · rw [if_pos h] at he
      simp only [if_pos h]
      refine Ev.bind (af_ev X Y W H) ?_
      rw [he]
      exact j3_ev L hlen X Y W H
    · rw [if_neg h] at he
      simp only [if_neg h]
      rw [he]
      exact j3_ev L hlen X Y W H
  | succ n ih =>
    intro i hi e he
    refine Ev.step (fun k => by rw [tourlaw5_RasterTells.l0, if_pos (by omega), if_pos (by omega), if_pos (by omega), wrap_in (x := (i : Int) + 1) (by omega) (by omega)]) ?_
    rw [rdT L i (by omega)] at he
    have hmem : rd_T33 L i ∈ L := by
      have : rd_T33 L i = L[i]'(by omega) := by simp [rd_T33, show i < L.length by omega]
      rw [this]
      exact List.getElem_mem _
    generalize rd_T33 L i = t at *
    have h2 := ih (i + 1) (by omega)
    rw [show (((i + 1 : Nat) : Int)) = (i : Int) + 1 by omega] at h2
    have hf : firstF e (t :: L.drop (i + 1)) = firstF (if e = 0 then faultV t else e) (L.drop (i + 1)) := rfl
    rw [hf] at he
    by_cases h : e = 0
    · simp only [if_pos h] at he ⊢
      exact Ev.bind (tf_ev t (hlen t hmem)) (h2 _ he)
    · simp only [if_neg h] at he ⊢
      exact h2 _ he

theorem first_ev : Ev (fun k => raster_Picture.f k (([(⟨1, 0, 3, (List.replicate 2 z46)⟩ : Th)] : List Th)) 0 0 1 1) ([3], 0) := Ev.of (fun k => raster_Picture.mono _ _ _ _ _ k) (k := 60) (by decide +kernel)

theorem tells_ev (L : List Th) (hl : L.length ≤ 9223372036854775807) (hlen : ∀ t ∈ L, t.f3.length ≤ 9223372036854775807) (X Y W H : Int) : Ev (fun k => tourlaw5_RasterTells.f k L X Y W H) true := by
  unfold tourlaw5_RasterTells.f
  simp only [if_pos (show 2 ≤ 17592186044416 by omega)]
  refine Ev.bind first_ev ?_
  simp only [if_true]
  refine Ev.bind (equal_ev [3] (by simp)) ?_
  rw [Bool.not_true]
  refine Ev.step (f := fun k => tourlaw5_RasterTells.j1 k L (if (L.length : Int) > 400 then 2 else 0) X Y W H) (fun k => by rw [tourlaw5_RasterTells.j0, if_neg (by simp)]; split <;> rfl) ?_
  refine Ev.step (fun k => by rw [tourlaw5_RasterTells.j1]) ?_
  refine l0_ev' L hl hlen X Y W H L.length 0 (by omega) _ ?_
  rw [List.drop_zero]
  rfl

end Go.Proofs.Ytijochlkmkmhdaa.TellsRasterMade
