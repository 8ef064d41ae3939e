/- What is drawn last is seen where it is: the plain law of RasterOver. Under no condition but what stands at each. -/
import Derived.Test.YtijochlkmkmhdaaThingsRasterOver
namespace Go.Proofs.Ytijochlkmkmhdaa.OverLawRasterOver
open Go.RowKit Go.Proofs.YtijochlkmkmhdaaW.PrintWords Go.Proofs.YtijochlkmkmhdaaW.PrintLast Go.Proofs.YtijochlkmkmhdaaW.PrintMore Go.Proofs.Ytijochlkmkmhdaa.PRasterOver Go.Proofs.Ytijochlkmkmhdaa.RasterRasterOver Go.Proofs.Ytijochlkmkmhdaa.ThingsRasterOver
set_option linter.unusedVariables false
set_option linter.unusedSimpArgs false
theorem fault_colour {t : Th} (h : faultV t = 0) : 1 ≤ t.f2 := by
  unfold faultV at h
  split at h
  · split at h
    · rename_i h1 h2
      exact h2.2.1
    · omega
  · omega
theorem colour_two (x y : Int) : ∀ (L : List Th), (∀ t ∈ L, faultV t = 0) → (∀ c, colour L x y c = c) ∨ ∃ v, v ≠ 0 ∧ ∀ c, colour L x y c = v
  | [], _ => .inl fun _ => rfl
  | t :: L, h => by
    have e : ∀ c, colour (t :: L) x y c = colour L x y (if seenV t x y = true then t.f2 else c) := fun c => rfl
    rcases colour_two x y L (fun u hu => h u (by simp [hu])) with h1 | ⟨v, hv, h1⟩
    · by_cases hs : seenV t x y = true
      · exact .inr ⟨t.f2, by have := fault_colour (h t (by simp)); omega, fun c => by rw [e, h1, if_pos hs]⟩
      · exact .inl fun c => by rw [e, h1, if_neg hs]
    · exact .inr ⟨v, hv, fun c => by rw [e, h1]⟩
theorem colour_over (a b : List Th) (hb : ∀ t ∈ b, faultV t = 0) (x y : Int) : colour (a ++ b) x y 0 = if colour b x y 0 ≠ 0 then colour b x y 0 else colour a x y 0 := by
  have e : colour (a ++ b) x y 0 = colour b x y (colour a x y 0) := by unfold colour; rw [List.foldl_append]
  rw [e]
  rcases colour_two x y b hb with h1 | ⟨v, hv, h1⟩
  · rw [h1, h1, if_neg (by simp)]
  · rw [h1, h1, if_pos hv]
abbrev pic (L : List Th) : List Int := grid (-2) (-2) 16 16 fun x y => colour L x y 0
theorem pic_len (L : List Th) : (pic L).length = 256 := grid_length _ _ _ _ _
theorem pic_over (a b : List Th) (hb : ∀ t ∈ b, faultV t = 0) (i : Nat) (hi : i < 256) : ∃ p q r : Int, (pic a)[i]? = some p ∧ (pic b)[i]? = some q ∧ (pic (a ++ b))[i]? = some r ∧ r = if q ≠ 0 then q else p :=
  ⟨_, _, _, grid_get _ _ _ _ _ i hi, grid_get _ _ _ _ _ i hi, grid_get _ _ _ _ _ i hi, colour_over a b hb _ _⟩
/-- What the law's calls answer. -/
theorem over_calls (l more : List Int) (hl : l.length ≤ 9223372036854775807) (hm : more.length ≤ 9223372036854775807) : ∃ (a b : List Th) (P Q R : List Int) (kd ka kb kp kq kr : Nat), tourkeep5_draws.f kd = some true ∧ tourref5_Things.f ka l = some a ∧ tourref5_Things.f kb more = some b ∧ a.length ≤ 6 ∧ b.length ≤ 6 ∧
    raster_Picture.f kp a (-2) (-2) 16 16 = some (P, 0) ∧ raster_Picture.f kq b (-2) (-2) 16 16 = some (Q, 0) ∧ raster_Picture.f kr (a ++ b) (-2) (-2) 16 16 = some (R, 0) ∧ P.length = 256 ∧ Q.length = 256 ∧ R.length = 256 ∧
    ∀ i : Nat, i < 256 → ∃ p q r : Int, P[i]? = some p ∧ Q[i]? = some q ∧ R[i]? = some r ∧ r = if q ≠ 0 then q else p := by
  obtain ⟨a, ⟨ka, ha⟩, ha6, hao⟩ := things_ev l hl
  obtain ⟨b, ⟨kb, hb⟩, hb6, hbo⟩ := things_ev more hm
  have hA : okA (-2) (-2) 16 16 := by unfold okA; omega
  obtain ⟨kp, hp⟩ := picture_ev (-2) (-2) 16 16 hA a (by omega) hao
  obtain ⟨kq, hq⟩ := picture_ev (-2) (-2) 16 16 hA b (by omega) hbo
  obtain ⟨kr, hr⟩ := picture_ev (-2) (-2) 16 16 hA (a ++ b) (by simp; omega) (fun t ht => by rcases List.mem_append.mp ht with h | h; exact hao t h; exact hbo t h)
  exact ⟨a, b, pic a, pic b, pic (a ++ b), 60, ka, kb, kp, kq, kr, by decide +kernel, ha ka (Nat.le_refl _), hb kb (Nat.le_refl _), ha6, hb6, hp kp (Nat.le_refl _), hq kq (Nat.le_refl _), hr kr (Nat.le_refl _), pic_len a, pic_len b, pic_len (a ++ b), pic_over a b hbo⟩
end Go.Proofs.Ytijochlkmkmhdaa.OverLawRasterOver
