/- slices.Repeat of a row of one whole number. Under the conditions that stand at it. -/
import Derived.Test.YtkoopdoeehoigaaRowMem
namespace Go.Proofs.Ytkoopdoeehoigaa.Repeat
open Go Go.RowKit Go.Proofs.Ytkoopdoeehoigaa.Fnv Go.Proofs.YtkoopdoeehoigaaW.PrintWords Go.Proofs.YtkoopdoeehoigaaW.PrintLast Go.Proofs.YtkoopdoeehoigaaW.PrintMore Go.Proofs.Ytkoopdoeehoigaa.RowMem
set_option linter.unusedVariables false
set_option linter.unusedSimpArgs false
theorem splice_more (x : Int) (n m q : Nat) (hm : m ≤ n) (hq : q ≤ n - m) : splice ((List.replicate m x ++ List.replicate (n - m) (0 : Int)).map (Value.int .i64)) m ((List.replicate q x).map (Value.int .i64)) = (List.replicate (m + q) x ++ List.replicate (n - (m + q)) (0 : Int)).map (Value.int .i64) := by
  unfold splice
  simp only [List.map_append, List.map_replicate]
  rw [List.take_append_of_le_length (by simp), List.take_of_length_le (by simp), List.length_replicate, List.drop_append, List.drop_of_length_le (by simp), List.length_replicate, List.nil_append, List.drop_replicate, show n - m - (m + q - m) = n - (m + q) by omega, ← List.append_assoc, List.replicate_append_replicate]
theorem one_cell {w : World} {ad : Addr} {x : Int} {q : Nat} (h : w.cell? ad = some (.int .i64 x)) {j : Nat} {v : Value} (hj : ((List.replicate (min 1 q) x).map (Value.int .i64))[j]? = some v) : w.cell? (ad.add j) = some v := by
  rw [List.getElem?_map, List.getElem?_replicate] at hj
  split at hj
  · rename_i h2
    obtain rfl : j = 0 := by omega
    simp at hj
    rw [← hj, show ad.add 0 = ad by simp [Addr.add]]
    exact h
  · simp at hj
set_option maxHeartbeats 4000000 in
set_option maxRecDepth 100000 in
theorem repeat_any (x : Int) (n : Nat) (hn : n ≤ 1000000) {A : Option Addr} {c : Nat} {w : World} (hc : Kd.C (Kd.int .i64) w A 1 [x])
    (hMul : ∀ w', Calls Try.prog 86 #[.int .u64 1, .int .u64 n] w' fun e w2 => e = .returned (.tuple #[.int .u64 0, .int .u64 n]) ∧ Below w'.heap.size w' w2) :
    Calls Try.prog 71 #[.slice A 1 c, .int .i64 n] w fun e w' => ∃ v, e = .returned v ∧ Kd.R (Kd.int .i64) 3 w' w.heap.size (fun _ => True) v (List.replicate n x) ∧ Below w.heap.size w w' := by
  obtain ⟨ad, rfl, hcell⟩ := C_at (l := [x]) hc (by simp)
  have c0 := hcell 0 (by omega) (by simp)
  have HC := Aside0.mk (show w.cell? ad = some (.int .i64 x) from by simpa [Addr.add, rd] using c0)
  have HM := Aside0.mk hMul
  have HN := Aside0.mk hn
  have HB := Aside0.mk (Below.refl w.heap.size w)
  have q0 : ((n : Int) < 0) = False := eq_false (by omega)
  have hn0 : (0 : Int) ≤ (n : Int) := by omega
  have hn1 : (n : Int) ≤ 1000000 := by omega
  clear hMul hc hcell c0
  go_enter Try.func71, Try.ntmps71
  go_upto_region 4 with (go_at_call 86; refine (HM.out _).mono ?_; rintro e w18 ⟨rfl, hb⟩; have HC := Aside0.mk (pw_cell_below hb HC.out); have HB := Aside0.mk (HB.out.trans (hb.mono HB.out.size)); clear hb)
  have q1 : ((9223372036854775807 : Int) < (n : Int)) = False := eq_false (by omega)
  go_upto_region 7 with (first | ((with_reducible refine gate_dst (N := 30) rfl ?_); refine make_event rfl rfl 36 3 (.tmp 29) (.tmp 29) rfl n _ rfl rfl rfl Try.underlying36 (by kernel_rfl) HN.out ?_; intro g hg w30 hrow hb; have HG := Aside0.mk (show w.heap.size ≤ g from by rw [hg]; exact HB.out.size); have HR := Aside0.mk (show RowI w30 g ((List.replicate 0 x ++ List.replicate (n - 0) (0 : Int))) from by rw [List.replicate_zero, List.nil_append, Nat.sub_zero]; exact hrow); have HC := Aside0.mk (pw_cell_below hb HC.out); have HB := Aside0.mk (HB.out.trans (hb.mono HB.out.size)); clear hg hrow hb))
  go_upto_region 8 with (first | ((with_reducible refine gate_builtin (b := .copy) (xs := #[.tmp 31, .tmp 32]) rfl ?_); refine wpList_copy_splice rfl (.tmp 31) (.tmp 32) 36 36 rfl 3 Try.underlying36 (by kernel_rfl) (some ⟨g, 0, none⟩) (some ad) n n 1 c rfl rfl g 0 ((List.replicate 0 x ++ List.replicate (n - 0) (0 : Int)).map (Value.int .i64)) 3 HR.out ((List.replicate (min 1 n) x).map (Value.int .i64)) (by first | (simp; done) | (simp; rfl)) (fun _ => ⟨rfl, ad, rfl, fun j v hj => one_cell HC.out hj⟩) (by first | (simp; done) | (simp; omega)) (by intro v hv; simp at hv; rw [hv.2]; rfl) w.heap.size w HB.out HG.out ?_; intro we hrow hb; have HR := Aside0.mk (show RowI we g (List.replicate (0 + min 1 n) x ++ List.replicate (n - (0 + min 1 n)) (0 : Int)) from by have h_ := hrow.out; rw [splice_more x n 0 (min 1 n) (by omega) (by omega)] at h_; exact h_); have HB := Aside0.mk hb; clear hrow hb))
  have e0 : goInt ((List.replicate (min 1 n) x).map (Value.int .i64)).length = .int .i64 ((min 1 n : Nat) : Int) := by simp [goInt]
  try rw [e0]
  go_wp2
  go_loopg [8] (n - min 1 n) (fun kq v8 wr => ∃ m : Nat, v8 = .int .i64 (m : Int) ∧ Aside0 (m ≤ n ∧ n - m ≤ kq ∧ (m = 0 → n = 0)) ∧ Aside0 (RowI wr g (List.replicate m x ++ List.replicate (n - m) (0 : Int))) ∧ Aside0 (Below w.heap.size w wr))
  case atStart => exact ⟨min 1 n, rfl, ⟨by omega, by omega, by omega⟩, by rw [Nat.zero_add] at HR; exact HR, HB⟩
  case round =>
    clear HR HB
    obtain ⟨m, rfl, HM2, HR, HB⟩ := hrel
    by_cases hm : m < n
    · have q2 : (m < n) = True := eq_true hm
      have HML := Aside0.mk hm
      have q3 : (n = m) = False := eq_false (by omega)
      have m0 : (0 : Int) ≤ (m : Int) := by omega
      have m1 : (m : Int) ≤ (n : Int) := by omega
      have m2 : (m : Int) ≤ 1000000 := by omega
      clear hm
      go_upto_region 9 with (fail)
      have HR := Aside0.mk (HR.out.below (Below.refl _ _).drew)
      have HB := Aside0.mk (HB.out.trans ((Below.refl _ _).drew.mono HB.out.size))
      refine start_ (n := 10) (S := fun w' => True) (ds := [7]) #[false, false, false, false, false, false, false, false, false, false] (by kernel_rfl) rfl rfl trivial (fun hHeld => ?_)
      generalize wr.drew = wd at HB HR ⊢
      refine pure_ (i := 0) (N := some 38) (v := ?_) (a' := ?_) #[true, false, false, false, false, false, false, false, false, false] rfl rfl (by kernel_rfl) (fun _ _ _ h => h) (Or.inl ⟨by rfl, ?_⟩) ?_ ?_
      rotate_left
      · intro w'
        go_simp
        with_reducible rfl
      rotate_left
      · simp only [Act.put, List.setIfInBounds_toArray, List.set_cons_zero, List.set_cons_succ, i64_w, i32_w]
        rfl
      refine pure_ (i := 1) (N := some 39) (v := ?_) (a' := ?_) #[true, true, false, false, false, false, false, false, false, false] rfl rfl (by kernel_rfl) (fun _ _ _ h => h) (Or.inl ⟨by rfl, ?_⟩) ?_ ?_
      rotate_left
      · intro w'
        go_simp
        with_reducible rfl
      rotate_left
      · simp only [Act.put, List.setIfInBounds_toArray, List.set_cons_zero, List.set_cons_succ, i64_w, i32_w]
        rfl
      refine pure_ (i := 2) (N := some 40) (v := ?_) (a' := ?_) #[true, true, true, false, false, false, false, false, false, false] rfl rfl (by kernel_rfl) (fun _ _ _ h => h) (Or.inl ⟨by rfl, ?_⟩) ?_ ?_
      rotate_left
      · intro w'
        go_simp
        with_reducible rfl
      rotate_left
      · simp only [Act.put, List.setIfInBounds_toArray, List.set_cons_zero, List.set_cons_succ, i64_w, i32_w]
        rfl
      refine pure_ (i := 3) (N := some 41) (v := ?_) (a' := ?_) #[true, true, true, true, false, false, false, false, false, false] rfl rfl (by kernel_rfl) (fun _ _ _ h => h) (Or.inl ⟨by rfl, ?_⟩) ?_ ?_
      rotate_left
      · intro w'
        go_simp
        with_reducible rfl
      rotate_left
      · simp only [Act.put, List.setIfInBounds_toArray, List.set_cons_zero, List.set_cons_succ, i64_w, i32_w]
        rfl
      refine pure_ (i := 4) (N := some 42) (v := ?_) (a' := ?_) #[true, true, true, true, true, false, false, false, false, false] rfl rfl (by kernel_rfl) (fun _ _ _ h => h) (Or.inl ⟨by rfl, ?_⟩) ?_ ?_
      rotate_left
      · intro w'
        go_simp
        with_reducible rfl
      rotate_left
      · simp only [Act.put, List.setIfInBounds_toArray, List.set_cons_zero, List.set_cons_succ, i64_w, i32_w]
        rfl
      refine pure_ (i := 5) (N := some 43) (v := ?_) (a' := ?_) #[true, true, true, true, true, true, false, false, false, false] rfl rfl (by kernel_rfl) (fun _ _ _ h => h) (Or.inl ⟨by rfl, ?_⟩) ?_ ?_
      rotate_left
      · intro w'
        go_simp
        with_reducible rfl
      rotate_left
      · simp only [Act.put, List.setIfInBounds_toArray, List.set_cons_zero, List.set_cons_succ, i64_w, i32_w]
        rfl
      refine pure_ (i := 6) (N := some 44) (v := ?_) (a' := ?_) #[true, true, true, true, true, true, true, false, false, false] rfl rfl (by kernel_rfl) (fun _ _ _ h => h) (Or.inl ⟨by rfl, ?_⟩) ?_ ?_
      rotate_left
      · intro w'
        go_simp
        with_reducible rfl
      rotate_left
      · simp only [Act.put, List.setIfInBounds_toArray, List.set_cons_zero, List.set_cons_succ, i64_w, i32_w]
        rfl
      refine last_ (i := 7) (N := some 45) #[true, true, true, true, true, true, true, true, false, false] rfl rfl (by kernel_rfl) (by decide) (fun K hK => ?_)
      refine step_copy_splice rfl (.tmp 41) (.tmp 44) 36 36 rfl 3 Try.underlying36 (by kernel_rfl) (some ⟨g, m, none⟩) (some ⟨g, 0, none⟩) (n - m) (n - m) m n rfl rfl g m ((List.replicate m x ++ List.replicate (n - m) (0 : Int)).map (Value.int .i64)) 3 HR.out ((List.replicate (min m (n - m)) x).map (Value.int .i64)) (by first | (simp; done) | (simp; rfl)) (fun _ => ⟨rfl, _, rfl, fun j v hj => by
        rw [add_plain]
        rw [List.getElem?_map, List.getElem?_replicate] at hj
        split at hj
        · rename_i hj2
          simp at hj
          subst hj
          refine (blk_cell HR.out j).trans ?_
          rw [List.getElem?_toArray, List.getElem?_map, List.getElem?_append_left (by first | (simp; done) | (simp; omega)), List.getElem?_replicate, if_pos (by omega)]; rfl
        · simp at hj⟩) (by first | (simp; done) | (simp; omega)) (by intro v hv; simp at hv; rw [hv.2]; rfl) w.heap.size w HB.out HG.out ?_
      intro we hrow hb
      have HR := Aside0.mk hrow.out
      have HB := Aside0.mk hb
      clear hrow hb
      refine hK.out _ _ ?_
      clear hK K
      refine norm_ (a' := ?_) ?_ ?_
      rotate_left
      · show Act.put _ (some 45) _ = _
        simp only [Act.put, List.setIfInBounds_toArray, List.set_cons_zero, List.set_cons_succ, i64_w, i32_w]
        rfl
      refine pure_ (i := 8) (N := some 46) (v := ?_) (a' := ?_) #[true, true, true, true, true, true, true, true, true, false] rfl rfl (by kernel_rfl) (fun _ _ _ h => h) (Or.inl ⟨by rfl, ?_⟩) ?_ ?_
      rotate_left
      · intro w'
        go_simp
        with_reducible rfl
      rotate_left
      · simp only [Act.put, List.setIfInBounds_toArray, List.set_cons_zero, List.set_cons_succ, i64_w, i32_w]
        rfl
      refine pure_ (i := 9) (N := some 8) (v := ?_) (a' := ?_) #[true, true, true, true, true, true, true, true, true, true] rfl rfl (by kernel_rfl) (fun _ _ _ h => h) (Or.inl ⟨by rfl, ?_⟩) ?_ ?_
      rotate_left
      · intro w'
        go_simp
        with_reducible rfl
      rotate_left
      · simp only [Act.put, List.setIfInBounds_toArray, List.set_cons_zero, List.set_cons_succ, i64_w, i32_w]
        rfl
      refine done_ (by kernel_rfl) ?_

      obtain ⟨p, hp⟩ : ∃ p, min m (n - m) = p := ⟨_, rfl⟩
      have HP := Aside0.mk (show 0 < p ∧ m + p ≤ n from by have h1 := HML.out; have h2 := HM2.out; omega)
      have HR := Aside0.mk (show RowI we g (List.replicate (m + p) x ++ List.replicate (n - (m + p)) (0 : Int)) from by
        have h := HR.out
        rw [hp, splice_more x n m p (by have := HP.out; omega) (by have := HP.out; omega)] at h
        exact h)
      have hlen : ((List.replicate (min m (n - m)) x).map (Value.int .i64)).length = p := by rw [List.length_map, List.length_replicate, hp]
      have HW := Aside0.mk (show wrap64 ((m : Int) + ((min m (n - m) : Nat) : Int)) = (m : Int) + (p : Int) from by rw [hp, wrap_in (by omega) (by have h1 := HP.out; have h2 := HN.out; omega)])
      clear hp hlen
      go_wp2
      go_roundg (n - (m + p))
      case measure => have h1 := HP.out; have h2 := HM2.out; omega
      case rel => exact ⟨m + p, by simp [goInt, HW.out], ⟨by have := HP.out; omega, by omega, by have := HP.out; omega⟩, HR, HB⟩
    · have q2 : (m < n) = False := eq_false hm
      have e : m = n := by have := HM2.out; omega
      clear hm
      go_wp2
      refine bodyPost_ret (v := .slice (some ⟨g, 0, none⟩) n n) (by simp [results, Try.results71, go_sem]) rfl ?_
      have h := HR.out
      rw [e, Nat.sub_self, List.replicate_zero, List.append_nil] at h
      have h2 := R_blk h HG.out (by simpa using hn)
      rw [List.length_replicate] at h2
      exact ⟨_, rfl, h2, HB.out⟩
end Go.Proofs.Ytkoopdoeehoigaa.Repeat
