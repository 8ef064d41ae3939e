/- tourref5.Answers: the function that it makes. Under the conditions that stand at it. -/
import Derived.Test.YtbpgfjfkogdolaaTreeTopTreeAsks
import Derived.Outline
namespace Go.Proofs.Ytbpgfjfkogdolaa.TreeAnswersTreeAsks
open Go Go.RowKit Go.Proofs.YtbpgfjfkogdolaaW.PrintWords Go.Proofs.YtbpgfjfkogdolaaW.PrintLast Go.Proofs.YtbpgfjfkogdolaaW.PrintMore Go.Proofs.Ytbpgfjfkogdolaa.PTreeAsks Go.Proofs.Ytbpgfjfkogdolaa.Fnv Go.Proofs.Ytbpgfjfkogdolaa.TreeTopTreeAsks Go.Proofs.Ytbpgfjfkogdolaa.TreeTickTreeAsks
set_option linter.unusedVariables false
set_option linter.unusedSimpArgs false
/-- What tourref5.Below returns, where it returns. -/
def belowV (a n : Int) : Int := if Int.tmod a n < 0 then wrap64 (Int.tmod a n + n) else Int.tmod a n
theorem below_f (a n : Int) (h : n ≠ 0) : tourref5_Below.f a n = some (belowV a n) := by
  unfold tourref5_Below.f belowV
  rw [if_neg h]
  split <;> rfl
theorem belowV_range (a n : Int) (h0 : 0 < n) (h1 : n ≤ 9223372036854775807) : 0 ≤ belowV a n ∧ belowV a n < n := by
  have h2 := Int.tmod_lt_of_pos a h0
  have h3 : -n < Int.tmod a n := by
    have := Int.tmod_lt_of_pos (-a) h0
    rw [Int.neg_tmod] at this
    omega
  unfold belowV
  split
  · rename_i h
    rw [show wrap64 (Int.tmod a n + n) = Int.tmod a n + n from by unfold wrap64; omega]
    omega
  · omega
def firstB (name : ByteArray) : Int := if h : 0 < name.size then ((name[0]'h).toNat : Int) else 0
/-- What the function answers that Answers makes. -/
def ansV (l : List Int) (round : Int) (name : ByteArray) : Int :=
  if l.length = 0 then 0 else if name.size = 0 then 0 else belowV (rd l (belowV (wrap64 (wrap64 (firstB name) + wrap64 (7 * round))) l.length)) 3
abbrev Sub (gl gr : Nat) (ad : Addr) (L c1 : Nat) (round x v : Int) (w : World) : Prop := w.cell? ⟨gl, 0, none⟩ = some (.slice (some ad) L c1) ∧ w.cell? ⟨gr, 0, none⟩ = some (.int .i64 round) ∧ w.cell? (ad.add x.toNat) = some (.int .i64 v)
theorem cell_drawn {w w' : World} (h : Drawn0 w w') (a : Addr) : w'.cell? a = w.cell? a := by
  obtain ⟨n, rfl⟩ := h.out
  rfl
theorem Sub.drawn {gl gr : Nat} {ad : Addr} {L c1 : Nat} {round x v : Int} {w w' : World} (h : Sub gl gr ad L c1 round x v w) (hd : Drawn0 w w') : Sub gl gr ad L c1 round x v w' :=
  ⟨(cell_drawn hd _).trans h.1, (cell_drawn hd _).trans h.2.1, (cell_drawn hd _).trans h.2.2⟩

set_option maxHeartbeats 4000000 in
set_option maxRecDepth 100000 in
theorem ask_any {w : World} (gl gr : Nat) (A1 : Option Addr) (c1 : Nat) (l : List Int) (round : Int) (name : ByteArray) (hl : w.cell? ⟨gl, 0, none⟩ = some (.slice A1 l.length c1)) (hr : w.cell? ⟨gr, 0, none⟩ = some (.int .i64 round)) (hC : Kd.C (Kd.int .i64) w A1 l.length l) :
    Calls Try.prog 34 #[.string name, .pointer (some ⟨gl, 0, none⟩), .pointer (some ⟨gr, 0, none⟩)] w fun e w' => e = .returned (.int .i64 (ansV l round name)) ∧ Below w.heap.size w w' := by
  obtain ⟨L, hL⟩ : ∃ L, l.length = L := ⟨_, rfl⟩
  unfold ansV
  rw [hL] at hl ⊢
  by_cases h0 : L = 0
  · rw [if_pos h0]
    subst h0
    go_enter Try.func34, Try.ntmps34
    go_wp2
    go_ret
    exact ⟨rfl, Below.refl _ _⟩
  · rw [if_neg h0]
    have b0 : ((L : Int) == 0) = false := beqF (by omega)
    have b1 : (L = 0) = False := eq_false h0
    by_cases h1 : name.size = 0
    · rw [if_pos h1]
      have hn : name = ⟨#[]⟩ := ByteArray.ext (Array.eq_empty_of_size_eq_zero h1)
      subst hn
      go_enter Try.func34, Try.ntmps34
      go_wp2
      go_ret
      exact ⟨rfl, Below.refl _ _⟩
    · rw [if_neg h1]
      have hLm := hC.2.1
      rw [hL] at hC hLm
      have hn0 : 0 < name.size := by omega
      rw [show firstB name = ((name[0]'hn0).toNat : Int) from dif_pos hn0]
      obtain ⟨x, hx⟩ : ∃ x, belowV (wrap64 (wrap64 ((name[0]'hn0).toNat : Int) + wrap64 (7 * round))) L = x := ⟨_, rfl⟩
      rw [hx]
      have hA := below_f (wrap64 (wrap64 ((name[0]'hn0).toNat : Int) + wrap64 (7 * round))) L (by omega)
      rw [hx] at hA
      have hxr := belowV_range (wrap64 (wrap64 ((name[0]'hn0).toNat : Int) + wrap64 (7 * round))) L (by omega) (by omega)
      rw [hx] at hxr
      obtain ⟨p0, q0⟩ := hxr
      have HA := Aside0.mk hA
      have HB := Aside0.mk (below_f (rd l x) 3 (by decide))
      obtain ⟨ad, rfl, hcx⟩ := Kd.at_int hC x p0 q0
      have HS := Aside0.mk (show Sub gl gr ad L c1 round x (rd l x) w from ⟨hl, hr, hcx⟩)
      have bn : name.toList.isEmpty = false := by
        rw [ByteArray.toList_eq]
        cases hl : name.data.toList with
        | nil => exact absurd (show name.data.size = 0 by rw [← Array.length_toList, hl]; rfl) h1
        | cons _ _ => rfl
      clear hC hA hx hcx
      go_enter Try.func34, Try.ntmps34
      go_upto_region 3 with (fail)
      have HS2 : Aside0 (Sub gl gr ad L c1 round x (rd l x) w.drew) := ⟨HS.out⟩
      refine start_ (n := 14) (S := fun w' => w'.cell? ⟨gl, 0, none⟩ = some (.slice (some ad) L c1) ∧ w'.cell? ⟨gr, 0, none⟩ = some (.int .i64 round) ∧ w'.cell? (ad.add x.toNat) = some (.int .i64 (rd l x))) (ds := []) #[false, false, false, false, false, false, false, false, false, false, false, false, false, false] (by kernel_rfl) rfl rfl ⟨HS2.out.1, HS2.out.2.1, HS2.out.2.2⟩ (fun hHeld => ?_)
      refine pure_ (i := 1) (N := some 13) (v := ?_) (a' := ?_) #[false, true, false, false, false, false, false, false, false, false, false, false, false, false] rfl rfl (by kernel_rfl) (fun _ _ _ h => h) (Or.inl ⟨by rfl, ?_⟩) ?_ ?_
      rotate_left
      · intro w'
        go_simp
        with_reducible rfl
      rotate_left
      · simp only [Act.put, List.setIfInBounds_toArray, List.set_cons_zero, List.set_cons_succ, i64_w, i32_w]
        rfl
      refine take_ (i := 0) (N := some 12) (v := ?_) (a' := ?_) #[true, true, false, false, false, false, false, false, false, false, false, false, false, false] rfl rfl (by kernel_rfl) (fun _ _ _ h => h) (Or.inl ⟨by rfl, ?_⟩) hHeld ?_ ?_
      rotate_left
      · rintro w' ⟨s0, s1, s2⟩
        go_simp
        with_reducible rfl
      rotate_left
      · simp only [Act.put, List.setIfInBounds_toArray, List.set_cons_zero, List.set_cons_succ, i64_w, i32_w]
        rfl
      refine take_ (i := 2) (N := some 14) (v := ?_) (a' := ?_) #[true, true, true, false, false, false, false, false, false, false, false, false, false, false] rfl rfl (by kernel_rfl) (fun _ _ _ h => h) (Or.inl ⟨by rfl, ?_⟩) hHeld ?_ ?_
      rotate_left
      · rintro w' ⟨s0, s1, s2⟩
        go_simp
        with_reducible rfl
      rotate_left
      · simp only [Act.put, List.setIfInBounds_toArray, List.set_cons_zero, List.set_cons_succ, i64_w, i32_w]
        rfl
      refine pure_ (i := 3) (N := some 15) (v := ?_) (a' := ?_) #[true, true, true, true, false, false, false, false, false, false, false, false, false, false] rfl rfl (by kernel_rfl) (fun _ _ _ h => h) (Or.inl ⟨by rfl, ?_⟩) ?_ ?_
      rotate_left
      · intro w'
        go_simp
        with_reducible rfl
      rotate_left
      · simp only [Act.put, List.setIfInBounds_toArray, List.set_cons_zero, List.set_cons_succ, i64_w, i32_w]
        rfl
      refine take_ (i := 4) (N := some 16) (v := ?_) (a' := ?_) #[true, true, true, true, true, false, false, false, false, false, false, false, false, false] rfl rfl (by kernel_rfl) (fun _ _ _ h => h) (Or.inl ⟨by rfl, ?_⟩) hHeld ?_ ?_
      rotate_left
      · rintro w' ⟨s0, s1, s2⟩
        go_simp
        with_reducible rfl
      rotate_left
      · simp only [Act.put, List.setIfInBounds_toArray, List.set_cons_zero, List.set_cons_succ, i64_w, i32_w]
        rfl
      refine pure_ (i := 5) (N := some 17) (v := ?_) (a' := ?_) #[true, true, true, true, true, true, false, false, false, false, false, false, false, false] rfl rfl (by kernel_rfl) (fun _ _ _ h => h) (Or.inl ⟨by rfl, ?_⟩) ?_ ?_
      rotate_left
      · intro w'
        go_simp
        with_reducible rfl
      rotate_left
      · simp only [Act.put, List.setIfInBounds_toArray, List.set_cons_zero, List.set_cons_succ, i64_w, i32_w]
        rfl
      refine pure_ (i := 6) (N := some 18) (v := ?_) (a' := ?_) #[true, true, true, true, true, true, true, false, false, false, false, false, false, false] rfl rfl (by kernel_rfl) (fun _ _ _ h => h) (Or.inl ⟨by rfl, ?_⟩) ?_ ?_
      rotate_left
      · intro w'
        go_simp
        with_reducible rfl
      rotate_left
      · simp only [Act.put, List.setIfInBounds_toArray, List.set_cons_zero, List.set_cons_succ, i64_w, i32_w]
        rfl
      refine take_ (i := 7) (N := some 19) (v := ?_) (a' := ?_) #[true, true, true, true, true, true, true, true, false, false, false, false, false, false] rfl rfl (by kernel_rfl) (fun _ _ _ h => h) (Or.inl ⟨by rfl, ?_⟩) hHeld ?_ ?_
      rotate_left
      · rintro w' ⟨s0, s1, s2⟩
        go_simp
        with_reducible rfl
      rotate_left
      · simp only [Act.put, List.setIfInBounds_toArray, List.set_cons_zero, List.set_cons_succ, i64_w, i32_w]
        rfl
      refine pure_ (i := 8) (N := some 20) (v := ?_) (a' := ?_) #[true, true, true, true, true, true, true, true, true, false, false, false, false, false] rfl rfl (by kernel_rfl) (fun _ _ _ h => h) (Or.inl ⟨by rfl, ?_⟩) ?_ ?_
      rotate_left
      · intro w'
        go_simp
        with_reducible rfl
      rotate_left
      · simp only [Act.put, List.setIfInBounds_toArray, List.set_cons_zero, List.set_cons_succ, i64_w, i32_w]
        rfl
      refine one_ (i := 9) (N := some 21) #[true, true, true, true, true, true, true, true, true, true, false, false, false, false] rfl rfl (by kernel_rfl) (by decide) (fun K hK => ?_)
      refine goes_ Try.func21 (by kernel_rfl) rfl #[.int .i64 (wrap64 (wrap64 ((name[0]'hn0).toNat : Int) + wrap64 (7 * round))), .int .i64 (L)] (by rfl) rfl rfl (by simp only [List.map_toArray, List.map_cons, List.map_nil]; rfl) ?_
      with_reducible refine (tourref5_Below.calls _ _ _ _ HA.out).mono ?_
      rintro e w3 ⟨rfl, hb⟩
      refine ⟨_, rfl, ?_⟩
      have HS3 := Aside0.mk (Sub.drawn HS2.out hb)
      have HD3 := Aside0.mk hb
      clear hb
      refine hK.out _ _ ⟨HS3.out.1, HS3.out.2.1, HS3.out.2.2⟩ (fun hHeld => ?_)
      clear hK K
      refine norm_ (a' := ?_) ?_ ?_
      rotate_left
      · show Act.put _ (some 21) _ = _
        simp only [Act.put, List.setIfInBounds_toArray, List.set_cons_zero, List.set_cons_succ, i64_w, i32_w]
        rfl
      refine pure_ (i := 10) (N := some 22) (v := ?_) (a' := ?_) #[true, true, true, true, true, true, true, true, true, true, true, false, false, false] rfl rfl (by kernel_rfl) (fun _ _ _ h => h) (Or.inl ⟨by rfl, ?_⟩) ?_ ?_
      rotate_left
      · intro w'
        go_simp
        with_reducible rfl
      rotate_left
      · simp only [Act.put, List.setIfInBounds_toArray, List.set_cons_zero, List.set_cons_succ, i64_w, i32_w]
        rfl
      refine take_ (i := 11) (N := some 23) (v := ?_) (a' := ?_) #[true, true, true, true, true, true, true, true, true, true, true, true, false, false] rfl rfl (by kernel_rfl) (fun _ _ _ h => h) (Or.inl ⟨by rfl, ?_⟩) hHeld ?_ ?_
      rotate_left
      · rintro w' ⟨s0, s1, s2⟩
        go_simp
        with_reducible rfl
      rotate_left
      · simp only [Act.put, List.setIfInBounds_toArray, List.set_cons_zero, List.set_cons_succ, i64_w, i32_w]
        rfl
      refine one_ (i := 12) (N := some 24) #[true, true, true, true, true, true, true, true, true, true, true, true, true, false] rfl rfl (by kernel_rfl) (by decide) (fun K hK => ?_)
      refine goes_ Try.func21 (by kernel_rfl) rfl #[.int .i64 (rd l x), .int .i64 (3)] (by rfl) rfl rfl (by simp only [List.map_toArray, List.map_cons, List.map_nil]; rfl) ?_
      with_reducible refine (tourref5_Below.calls _ _ _ _ HB.out).mono ?_
      rintro e w4 ⟨rfl, hb⟩
      refine ⟨_, rfl, ?_⟩
      have HS4 := Aside0.mk (Sub.drawn HS3.out hb)
      have HD4 := Aside0.mk hb
      clear hb
      refine hK.out _ _ ⟨HS4.out.1, HS4.out.2.1, HS4.out.2.2⟩ (fun hHeld => ?_)
      clear hK K
      refine norm_ (a' := ?_) ?_ ?_
      rotate_left
      · show Act.put _ (some 24) _ = _
        simp only [Act.put, List.setIfInBounds_toArray, List.set_cons_zero, List.set_cons_succ, i64_w, i32_w]
        rfl
      refine pure_ (i := 13) (N := some 4) (v := ?_) (a' := ?_) #[true, true, true, true, true, true, true, true, true, true, true, true, true, true] rfl rfl (by kernel_rfl) (fun _ _ _ h => h) (Or.inl ⟨by rfl, ?_⟩) ?_ ?_
      rotate_left
      · intro w'
        go_simp
        with_reducible rfl
      rotate_left
      · simp only [Act.put, List.setIfInBounds_toArray, List.set_cons_zero, List.set_cons_succ, i64_w, i32_w]
        rfl
      refine done_ (by kernel_rfl) ?_
    
      go_wp2
      go_ret
      exact ⟨rfl, (Below.refl _ _).drew.trans (HD3.out.below.trans (HD4.out.below.mono HD3.out.below.size))⟩
end Go.Proofs.Ytbpgfjfkogdolaa.TreeAnswersTreeAsks

