/- All of opposites, and the opposite of it: as any. Under the conditions that stand at each. -/
import Derived.Test.YtbpgfjfkogdolaaTreeRightTreeOpposite
namespace Go.Proofs.Ytbpgfjfkogdolaa.TreeOppTreeOpposite
open Go Go.RowKit Go.Proofs.YtbpgfjfkogdolaaW.PrintWords Go.Proofs.YtbpgfjfkogdolaaW.PrintLast Go.Proofs.YtbpgfjfkogdolaaW.PrintMore Go.Proofs.Ytbpgfjfkogdolaa.PTreeOpposite Go.Proofs.Ytbpgfjfkogdolaa.Fnv Go.Proofs.Ytbpgfjfkogdolaa.TreePlainTreeOpposite Go.Proofs.Ytbpgfjfkogdolaa.TreeEvTreeOpposite Go.Proofs.Ytbpgfjfkogdolaa.TreeTTreeOpposite Go.Proofs.Ytbpgfjfkogdolaa.TreeRightTreeOpposite Go.Proofs.Ytbpgfjfkogdolaa.TreeTopTreeOpposite
set_option linter.unusedVariables false
set_option linter.unusedSimpArgs false
def eB : ByteArray := ⟨#[]⟩
def notN (n : Nd) : Nd := ⟨5, eB, 0, [n]⟩
def anyN (a b : Nd) : Nd := ⟨4, eB, 0, [a, b]⟩
def allN (a b : Nd) : Nd := ⟨3, eB, 0, [a, b]⟩
def oppN (a b : Nd) : Nd := notN (allN (notN a) (notN b))
section
variable {σ : Type} (an : σ → ByteArray → Int × σ)
theorem T_not (d : Nat) (n : Nd) (h : Int) (μ : List Int) (s : σ) : T an (d + 1) (notN n) (h :: μ) s = (if (T an d n μ s).1 = 2 then 2 else 1 - (T an d n μ s).1, h :: (T an d n μ s).2.1, (T an d n μ s).2.2) := by
  show nodeT an (T an d) (szD d) (notN n) (h :: μ) s = _
  unfold nodeT
  rw [if_neg (by simp [notN]), if_pos (by rfl)]
  rfl
/-- Two kids one after the other: as all and any do. -/
def two (Tk : Nd → List Int → σ → Int × List Int × σ) (a b : Nd) (on : Int) (i : Int) (α β : List Int) (s : σ) : Int × List Int × σ :=
  if i ≤ 0 then
    if (Tk a α s).1 = 2 then (2, 0 :: ((Tk a α s).2.1 ++ zs β.length), (Tk a α s).2.2)
    else if (Tk a α s).1 = on then
      if (Tk b β (Tk a α s).2.2).1 = 2 then (2, 1 :: (zs α.length ++ (Tk b β (Tk a α s).2.2).2.1), (Tk b β (Tk a α s).2.2).2.2)
      else if (Tk b β (Tk a α s).2.2).1 = on then (on, zs (1 + (α.length + β.length)), (Tk b β (Tk a α s).2.2).2.2)
      else ((Tk b β (Tk a α s).2.2).1, zs (1 + (α.length + β.length)), (Tk b β (Tk a α s).2.2).2.2)
    else ((Tk a α s).1, zs (1 + (α.length + β.length)), (Tk a α s).2.2)
  else
    if (Tk b β s).1 = 2 then (2, 1 :: (zs α.length ++ (Tk b β s).2.1), (Tk b β s).2.2)
    else if (Tk b β s).1 = on then (on, zs (1 + (α.length + β.length)), (Tk b β s).2.2)
    else ((Tk b β s).1, zs (1 + (α.length + β.length)), (Tk b β s).2.2)
theorem kids_two (Tk : Nd → List Int → σ → Int × List Int × σ) (S : Nd → Nat) (a b : Nd) (kind i : Int) (hk : kind = 3 ∨ kind = 4) (hi : i ≤ 1) (α β : List Int) (ha : α.length = S a) (hb : β.length = S b) (s : σ) :
    kidsL Tk S kind i (i :: (α ++ β)).length 0 [a, b] (α ++ β) 0 s = two Tk a b (onV kind) i α β s := by
  have e1 : (α ++ β).take (S a) = α := by rw [← ha, List.take_left]
  have e2 : (α ++ β).drop (S a) = β := by rw [← ha, List.drop_left]
  have e3 : β.take (S b) = β := List.take_of_length_le (by omega)
  have e4 : (i :: (α ++ β)).length = 1 + (α.length + β.length) := by simp; omega
  rw [e4]
  unfold two
  simp only [kidsL, e1, e2, e3, if_pos hk]
  by_cases h0 : i ≤ 0
  · rw [if_pos (show (0 : Int) ≥ i from h0), if_pos h0, if_pos (show (0 : Int) + 1 ≥ i by omega)]
    simp [zs, ha, hb]
  · rw [if_neg (show ¬ (0 : Int) ≥ i from h0), if_neg h0, if_pos (show (0 : Int) + 1 ≥ i by omega)]
    simp [zs, ha, hb]
theorem T_any (d : Nat) (a b : Nd) (i : Int) (hi : i ≤ 1) (α β : List Int) (ha : α.length = szD d a) (hb : β.length = szD d b) (s : σ) : T an (d + 1) (anyN a b) (i :: (α ++ β)) s = two (T an d) a b 0 i α β s := by
  show nodeT an (T an d) (szD d) (anyN a b) (i :: (α ++ β)) s = _
  unfold nodeT
  rw [if_neg (by simp [anyN]), if_neg (by simp [anyN]), if_neg (by simp [anyN])]
  exact kids_two (T an d) (szD d) a b 4 i (.inr rfl) hi α β ha hb s
theorem T_all (d : Nat) (a b : Nd) (i : Int) (hi : i ≤ 1) (α β : List Int) (ha : α.length = szD d a) (hb : β.length = szD d b) (s : σ) : T an (d + 1) (allN a b) (i :: (α ++ β)) s = two (T an d) a b 1 i α β s := by
  show nodeT an (T an d) (szD d) (allN a b) (i :: (α ++ β)) s = _
  unfold nodeT
  rw [if_neg (by simp [allN]), if_neg (by simp [allN]), if_neg (by simp [allN])]
  exact kids_two (T an d) (szD d) a b 3 i (.inl rfl) hi α β ha hb s
theorem szD_not (d : Nat) (n : Nd) : szD (d + 1) (notN n) = 1 + szD d n := by simp [szD, notN]
/-- The two memories of one state. -/
def Same2 (d : Nat) (a b : Nd) (m n : List Int) : Prop := ∃ i α β, m = i :: (α ++ β) ∧ n = 0 :: i :: ((0 :: α) ++ (0 :: β)) ∧ Fit d a α ∧ Fit d b β ∧ 0 ≤ i ∧ i ≤ 1
theorem zs_cons (n : Nat) : (0 : Int) :: zs n = zs (1 + n) := by rw [Nat.add_comm]; rfl
theorem zs_app (m n : Nat) : zs m ++ zs n = zs (m + n) := by simp [zs]
theorem Same2.zeros (d : Nat) (a b : Nd) (hga : Good2 d a) (hgb : Good2 d b) (m n : Nat) (hm : m = 1 + (szD d a + szD d b)) (hn : n = 2 + ((1 + szD d a) + (1 + szD d b))) : Same2 d a b (zs m) (zs n) :=
  ⟨0, zs (szD d a), zs (szD d b), by rw [zs_app, zs_cons, hm], by rw [zs_cons, zs_cons, zs_app, zs_cons, zs_cons, hn]; congr 1; omega, Fit.zeros d a hga, Fit.zeros d b hgb, by omega, by omega⟩
theorem opp_step (d : Nat) (a b : Nd) (hga : Good2 d a) (hgb : Good2 d b) (m n : List Int) (s : σ) (h : Same2 d a b m n) :
    (T an (d + 1) (anyN a b) m s).1 = (T an (d + 3) (oppN a b) n s).1 ∧ (T an (d + 1) (anyN a b) m s).2.2 = (T an (d + 3) (oppN a b) n s).2.2 ∧ Same2 d a b (T an (d + 1) (anyN a b) m s).2.1 (T an (d + 3) (oppN a b) n s).2.1 := by
  obtain ⟨i, α, β, rfl, rfl, hfa, hfb, h0, h1⟩ := h
  have ha := Fit.len d a α hfa
  have hb := Fit.len d b β hfb
  have hra := T_res an d a hga α s
  have hrb := fun s => T_res an d b hgb β s
  have e1 : (0 :: α).length = szD (d + 1) (notN a) := by rw [szD_not]; simp; omega
  have e2 : (0 :: β).length = szD (d + 1) (notN b) := by rw [szD_not]; simp; omega
  have hα := T_fit an d a hga α s hfa
  have hβ := fun s => T_fit an d b hgb β s hfb
  have hz : Same2 d a b (zs (1 + (α.length + β.length))) (0 :: zs (1 + ((0 :: α).length + (0 :: β).length))) := by
    rw [zs_cons]
    exact Same2.zeros d a b hga hgb _ _ (by omega) (by simp; omega)
  rw [T_any an d a b i h1 α β ha hb, show oppN a b = notN (allN (notN a) (notN b)) from rfl, T_not, T_all an (d + 1) (notN a) (notN b) i h1 (0 :: α) (0 :: β) e1 e2]
  unfold two
  simp only [T_not]
  have hm1 : ∀ α', Fit d a α' → Same2 d a b (0 :: (α' ++ zs β.length)) (0 :: 0 :: ((0 :: α') ++ zs (0 :: β).length)) := fun α' h => ⟨0, α', zs β.length, rfl, by rw [zs_cons]; simp [Nat.add_comm], h, by rw [hb]; exact Fit.zeros d b hgb, by omega, by omega⟩
  have hm2 : ∀ β', Fit d b β' → Same2 d a b (1 :: (zs α.length ++ β')) (0 :: 1 :: (zs (0 :: α).length ++ (0 :: β'))) := fun β' h => ⟨1, zs α.length, β', rfl, by rw [zs_cons]; simp [Nat.add_comm], by rw [ha]; exact Fit.zeros d a hga, h, by omega, by omega⟩
  have hend : ∀ (rb : Int) (β' : List Int) (s' : σ), (rb = 0 ∨ rb = 1 ∨ rb = 2) → Fit d b β' →
      let X : Int × List Int × σ := if rb = 2 then (2, 1 :: (zs α.length ++ β'), s') else if rb = 0 then (0, zs (1 + (α.length + β.length)), s') else (rb, zs (1 + (α.length + β.length)), s')
      let Z : Int × List Int × σ := if (if rb = 2 then 2 else 1 - rb) = 2 then (2, 1 :: (zs (0 :: α).length ++ (0 :: β')), s') else if (if rb = 2 then 2 else 1 - rb) = 1 then (1, zs (1 + ((0 :: α).length + (0 :: β).length)), s') else ((if rb = 2 then 2 else 1 - rb), zs (1 + ((0 :: α).length + (0 :: β).length)), s')
      X.1 = (if Z.1 = 2 then 2 else 1 - Z.1) ∧ X.2.2 = Z.2.2 ∧ Same2 d a b X.2.1 (0 :: Z.2.1) := by
    intro rb β' s' hr hl
    rcases hr with rfl | rfl | rfl
    · exact ⟨rfl, rfl, hz⟩
    · exact ⟨rfl, rfl, hz⟩
    · exact ⟨rfl, rfl, hm2 β' hl⟩
  by_cases hi : i ≤ 0
  · simp only [if_pos hi]
    generalize T an d a α s = xa at *
    obtain ⟨ra, α', s'⟩ := xa
    dsimp only at *
    rcases hra with rfl | rfl | rfl
    · exact hend _ _ _ (hrb s') (hβ s')
    · exact ⟨rfl, rfl, hz⟩
    · exact ⟨rfl, rfl, hm1 α' hα⟩
  · simp only [if_neg hi]
    exact hend _ _ _ (hrb s) (hβ s)
end
end Go.Proofs.Ytbpgfjfkogdolaa.TreeOppTreeOpposite
