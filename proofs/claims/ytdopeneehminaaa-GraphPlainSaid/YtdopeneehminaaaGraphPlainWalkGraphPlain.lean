/- The walk of the law GraphPlain. Under no condition but what stands at it. -/
import Derived.Test.YtdopeneehminaaaGraphPlainMemGraphPlain
import Derived.Outline
namespace Go.Proofs.Ytdopeneehminaaa.GraphPlainWalkGraphPlain
open Go Go.RowKit Go.Proofs.YtdopeneehminaaaW.PrintWords Go.Proofs.YtdopeneehminaaaW.PrintLast Go.Proofs.YtdopeneehminaaaW.PrintMore Go.Proofs.Ytdopeneehminaaa.Fnv Go.Proofs.Ytdopeneehminaaa.PGraphPlain Go.Proofs.Ytdopeneehminaaa.GraphMemGraphPlain Go.Proofs.Ytdopeneehminaaa.GraphAtGraphPlain Go.Proofs.Ytdopeneehminaaa.GraphSetGraphPlain Go.Proofs.Ytdopeneehminaaa.GraphAddGraphPlain Go.Proofs.Ytdopeneehminaaa.NumGraphPlain Go.Proofs.Ytdopeneehminaaa.GraphWiGraphPlain Go.Proofs.Ytdopeneehminaaa.GraphRunsGraphPlain Go.Proofs.Ytdopeneehminaaa.GraphNewGraphPlain Go.Proofs.Ytdopeneehminaaa.GraphPlainLawGraphPlain Go.Proofs.Ytdopeneehminaaa.GraphPlainMemGraphPlain
attribute [local go_sem] max2_int min2_int
set_option linter.unusedVariables false
set_option linter.unusedSimpArgs false
theorem LS.start {W w : World} {g : Nat} {n : Int} (hB : w.heap[g]? = some (.cells #[.slice none 0 0, .slice none 0 0, .slice none 0 0, .slice none 0 0, .int .i64 n] tG (0, 0))) (hg : W.heap.size ≤ g) (hb : Below W.heap.size W w) : LS W w g (.slice none 0 0) (.slice none 0 0) (.slice none 0 0) (.slice none 0 0) (.slice none 0 0) (.slice none 0 0) [] [] [] [] n [] [] :=
  ⟨hB, hg, RW.nil W w hb, own_nil _ _ _ _, own_nil _ _ _ _, ne_nil _⟩
set_option maxHeartbeats 16000000 in
set_option maxRecDepth 100000 in
theorem walk (A0 : Option Addr) (c0 : Nat) (l0 : List Int) {W : World} (hr0 : Kd.C (Kd.int .i64) W A0 l0.length l0) (hc0 : l0.length ≤ c0) (ok0 : l0.length ≤ 9223372036854775807) (A1 : Option Addr) (c1 : Nat) (l1 : List Int) (hr1 : Kd.C (Kd.int .i64) W A1 l1.length l1) (hc1 : l1.length ≤ c1) (ok1 : l1.length ≤ 9223372036854775807) :
    Calls Try.prog 8 #[.slice A0 l0.length c0, .slice A1 l1.length c1] W fun e w' => e = .returned (.bool true) ∧ Below W.heap.size W w' := by
  have hu80 := Try.underlying80
  have hu52 := Try.underlying52
  have hu27 := Try.underlying27
  obtain ⟨m, hm⟩ : ∃ m : Nat, min (l0.length : Int) 20 = (m : Int) := ⟨min l0.length 20, by omega⟩
  have hm0 : (m : Int) ≤ l0.length ∧ m ≤ 20 := by omega
  obtain ⟨i03, hi03, _⟩ := info_int
  have hcut4 := cut_to (P := Try.prog) 48 3 .i64 Try.underlying48 hi03 A0 l0.length c0 (m : Int) (by omega) hm0.1 hc0
  rw [Int.toNat_natCast] at hcut4
  have HM := Aside0.mk hm0
  have HR0 := Aside0.mk hr0
  have HR1 := Aside0.mk hr1
  obtain ⟨kw, hkw⟩ := wi_ev (pp 0 0) (pp 0 0)
  have HW1 := Aside0.mk (show graph_Within.f kw 0 0 0 65536 0 0 0 65536 = some (0, 0, 0, 65536) from by
    have h := hkw kw (Nat.le_refl _)
    rw [wi_plain 0 0 0 0 (by decide) (by decide) (by decide) (by decide) (by decide) (by decide) (by decide) (by decide)] at h
    obtain ⟨r, hr, h⟩ := Option.map_eq_some_iff.mp h
    refine Eq.trans hr ?_
    rcases r with ⟨a, b, c, d⟩
    injection h with e1 e2 e3 e4
    have e1 : a = 0 := e1
    have e2 : b = 0 := e2
    have e3 : c = 0 := e3
    have e4 : d = 65536 := e4
    subst e1 e2 e3 e4
    rfl)
  have hfd : ∀ w, (Instr.field 52 (.agg #[.int .i64 0, .int .i64 0, .int .i64 0, .int .i64 65536]) 2).run Try.prog w = .ok (.int .i64 65536) w := fun _ => by kernel_rfl
  clear hi03 hm0 hr0 hr1 hc0 hc1 hkw
  go_enter Try.func8, Try.ntmps8
  go_wp2_with (first | ((with_reducible refine gate_dst (N := 16) rfl ?_); (with_reducible refine gate_callee (f := 29) rfl ?_); refine goesL_ (some 16) rfl rfl Try.func29 (by kernel_rfl) rfl #[] rfl (by (try simp only [List.map_toArray, List.map_cons, List.map_nil]); first | done | rfl) ?_; (refine (New_in W).mono ?_); rintro e w1 ⟨g, rfl, hB, hg, hb⟩; refine ⟨_, rfl, ?_⟩; have LH := Aside0.mk (LS.start hB hg hb); clear hB hg hb))
  refine (graph_Within.calls kw 0 0 0 65536 0 0 0 65536 0 0 0 65536 _ HW1.out).mono ?_
  rintro e w2 ⟨rfl, hb⟩
  have LH := Aside0.mk (LH.out.below hb)
  clear hb HW1
  go_wp2
  have L1 := Aside0.mk ok1
  have HMM := Aside0.mk hm
  clear ok0 ok1 hm hcut4 hfd
  have PH := Aside0.mk (Plain.nil 0)
  go_loopg [6, 7, 32] m (fun kq v6 v7 v32 wr => ∃ (i : Nat) (v0 v1 v2 v3 : Value) (up : List Int) (own : List Pl) (kn : List Bool) (wh : List Pl) (n : Int) (ats : List Two) (V : Nat → Pl), v32 = .int .i64 (i : Int) ∧ Aside0 (i + kq = m) ∧ Aside0 (Plain i ats V ⟨up, own, kn, wh, n⟩) ∧ Aside0 (LS W wr g v0 v1 v2 v3 v6 v7 up own kn wh n up ats))
  case atStart => exact ⟨0, _, _, _, _, _, _, _, _, _, _, _, rfl, ⟨by omega⟩, PH, LH⟩
  case round =>
    clear LH PH
    obtain ⟨i, v0, v1, v2, v3, up, own, kn, wh, n, ats, V, rfl, HI, PH, LH⟩ := hrel
    cases gk with
    | succ kz =>
      have hi : i < m := by have := HI.out; omega
      have i0 : ((0 : Int) ≤ (i : Int)) = True := eq_true (by omega)
      have i1 : decide ((i : Int) < (m : Int)) = true := decide_eq_true (by omega)
      have i2 : ((i : Int) < (m : Int)) = True := eq_true (by omega)
      have i3 : (i < m) = True := eq_true hi
      obtain ⟨ad, rfl, hc⟩ := Kd.at_int HR0.out (i : Int) (by omega) (by have := HM.out; omega)
      have hc0 := pw_cell_below LH.out.rw.bel hc
      obtain ⟨u, hu⟩ : ∃ u, rd l0 (i : Int) = u := ⟨_, rfl⟩
      rw [hu, Int.toNat_natCast] at hc0
      have HI2 := Aside0.mk hi
      clear hc hu hi
      go_upto_region 10 with (first | ((with_reducible refine gate_dst (N := 10) rfl ?_); refine box_event ?hg (N := 10) ?hd (cs := #[.int .i64 0, .int .i64 0, .int .i64 0, .int .i64 0]) (t := tP) ?hr ?_; (case hd => rfl); (case hg => rfl); (case hr => first | (go_simp; done) | (go_simp; rfl)); intro g10 hg wa hbox hb; have HE := Aside0.mk hb; have GE := Aside0.mk (Nat.le_of_eq hg.symm); have B10 := Aside0.mk hbox; clear hg hbox hb; have cz0 := (blk_cell B10.out 0).trans rfl; have fz0 := blk_frozen B10.out 0; have cz1 := (blk_cell B10.out 1).trans rfl; have fz1 := blk_frozen B10.out 1; have cz2 := (blk_cell B10.out 2).trans rfl; have fz2 := blk_frozen B10.out 2; have cz3 := (blk_cell B10.out 3).trans rfl; have fz3 := blk_frozen B10.out 3))
      have OFF := Aside0.mk (LS.away LH.out GE.out)
      have HE := Aside0.mk (show Below wr.heap.size wr ((((wa.setCell ⟨g10, 0, none⟩ (.int .i64 0)).setCell ⟨g10, 1, none⟩ (.int .i64 0)).setCell ⟨g10, 2, none⟩ (.int .i64 0)).setCell ⟨g10, 3, none⟩ (.int .i64 65536)) from below_set (below_set (below_set (below_set (HE.out) GE.out) GE.out) GE.out) GE.out)
      have LH := Aside0.mk (LH.out.below HE.out)
      have B10 := Aside0.mk (blk_put (blk_put (blk_put (blk_put (B10.out) 0 (.int .i64 0) rfl) 1 (.int .i64 0) rfl) 2 (.int .i64 0) rfl) 3 (.int .i64 65536) rfl)
      clear HE GE cz0 fz0 cz1 fz1 cz2 fz2 cz3 fz3
      generalize ((((wa.setCell ⟨g10, 0, none⟩ (.int .i64 0)).setCell ⟨g10, 1, none⟩ (.int .i64 0)).setCell ⟨g10, 2, none⟩ (.int .i64 0)).setCell ⟨g10, 3, none⟩ (.int .i64 65536)) = wb at LH B10 ⊢
      clear hc0 i0 i1 i2 i3
      go_upto_if 40 with fail
      go_cut [61] (fun v61 w' => ∃ x y : Int, Aside0 (-500 ≤ x ∧ x ≤ 500 ∧ -500 ≤ y ∧ y ≤ 500) ∧ Aside0 (w'.heap[g10]? = some (.cells #[.int .i64 x, .int .i64 y, .int .i64 0, .int .i64 65536] tP (0, 0))) ∧ Aside0 (LS W w' g v0 v1 v2 v3 u6 u7 up own kn wh n up ats))
      case first =>
        obtain ⟨bp, hbp⟩ : ∃ b, decide (0 < l1.length) = b := ⟨_, rfl⟩
        rw [hbp]
        cases bp with
        | true =>
          have hpos : 0 < l1.length := of_decide_eq_true hbp
          have HW := Aside0.mk (show wrap64 ((i : Int) + 1) = (i : Int) + 1 from by unfold wrap64; have := HI2.out; have := HM.out; omega)
          obtain ⟨j, hj⟩ : ∃ j : Int, Int.tmod (i : Int) (l1.length : Int) = j := ⟨_, rfl⟩
          have j0 : 0 ≤ j := by rw [← hj]; exact Int.tmod_nonneg _ (by omega)
          have j1 : j < l1.length := by rw [← hj]; exact Int.tmod_lt_of_pos _ (by omega)
          obtain ⟨t, ht⟩ : ∃ t : Int, Int.tmod ((i : Int) + 1) (l1.length : Int) = t := ⟨_, rfl⟩
          have t0 : 0 ≤ t := by rw [← ht]; exact Int.tmod_nonneg _ (by omega)
          have t1 : t < l1.length := by rw [← ht]; exact Int.tmod_lt_of_pos _ (by omega)
          rw [← HW.out] at ht
          obtain ⟨ap, rfl, p0⟩ := Kd.at_int HR1.out j j0 j1
          obtain ⟨q, hq⟩ : ∃ q : Int, rd l1 j = q := ⟨_, rfl⟩
          obtain ⟨aq, hap, p1⟩ := Kd.at_int HR1.out t t0 t1
          obtain rfl : ap = aq := by injection hap
          obtain ⟨s, hs⟩ : ∃ s : Int, rd l1 t = s := ⟨_, rfl⟩
          rw [hq] at p0
          rw [hs] at p1
          replace p0 := pw_cell_below LH.out.rw.bel p0
          replace p1 := pw_cell_below LH.out.rw.bel p1
          obtain ⟨bx, hbx⟩ : ∃ b, belowV q 1000 = b := ⟨_, rfl⟩
          obtain ⟨by_, hby⟩ : ∃ b, belowV s 1000 = b := ⟨_, rfl⟩
          have FX := Aside0.mk (below_f q 1000 (by decide))
          have FY := Aside0.mk (below_f s 1000 (by decide))
          have HX := Aside0.mk (belowV_range q 1000 (by decide) (by decide))
          have HY := Aside0.mk (belowV_range s 1000 (by decide) (by decide))
          rw [hbx] at FX HX
          rw [hby] at FY HY
          have WX := Aside0.mk (show wrap64 (bx - 500) = bx - 500 from by have := HX.out; unfold wrap64; omega)
          have WY := Aside0.mk (show wrap64 (by_ - 500) = by_ - 500 from by have := HY.out; unfold wrap64; omega)
          have z0 : ((l1.length : Int) = 0) = False := eq_false (by omega)
          have z1 : ((l1.length : Int) == 0) = false := beq_eq_false_iff_ne.mpr (by omega)
          have z2 : (l1.length = 0) = False := eq_false (by omega)
          have i4 : (0 ≤ j) = True := eq_true j0
          have i5 : (j < (l1.length : Int)) = True := eq_true j1
          have i6 : (0 ≤ t) = True := eq_true t0
          have i7 : (t < (l1.length : Int)) = True := eq_true t1
          have P0 := Aside0.mk p0
          have P1 := Aside0.mk p1
          clear hbx hby hq hs hpos j0 j1 t0 t1 hap p0 p1
          go_upto_region 11 with fail
          have LH := Aside0.mk (LH.out.below (Below.refl _ _).drew)
          have B10 := Aside0.mk (blk_below B10.out (Below.refl _ _).drew)
          have P0 := Aside0.mk (pw_cell_below (Below.refl _ _).drew P0.out)
          have P1 := Aside0.mk (pw_cell_below (Below.refl _ _).drew P1.out)
          refine start_ (n := 22) (S := fun w' => w'.cell? (ap.add j.toNat) = some (.int .i64 q) ∧ w'.cell? (ap.add t.toNat) = some (.int .i64 s)) (ds := [21]) #[false, false, false, false, false, false, false, false, false, false, false, false, false, false, false, false, false, false, false, false, false, false] (by kernel_rfl) rfl rfl ⟨P0.out, P1.out⟩ (fun hHeld => ?_)
          generalize wb.drew = wd at LH B10 P0 P1 hHeld ⊢
          refine pure_ (i := 0) (N := some 41) (v := ?_) (a' := ?_) #[true, false, false, false, false, false, false, false, false, false, false, false, false, false, false, false, false, false, false, false, false, false] rfl rfl (by kernel_rfl) (fun _ _ _ h => h) (Or.inl ⟨by rfl, ?_⟩) ?_ ?_
          rotate_left
          · intro w'
            go_simp
            with_reducible rfl
          rotate_left
          · simp only [Act.put, List.setIfInBounds_toArray, List.set_cons_zero, List.set_cons_succ, i64_w, i32_w]
            rfl
          refine pure_ (i := 1) (N := some 42) (v := ?_) (a' := ?_) #[true, true, false, false, false, false, false, false, false, false, false, false, false, false, false, false, false, false, false, false, false, false] rfl rfl (by kernel_rfl) (fun _ _ _ h => h) (Or.inl ⟨by rfl, ?_⟩) ?_ ?_
          rotate_left
          · intro w'
            go_simp
            with_reducible rfl
          rotate_left
          · simp only [Act.put, List.setIfInBounds_toArray, List.set_cons_zero, List.set_cons_succ, i64_w, i32_w]
            rfl
          refine pure_ (i := 2) (N := some 43) (v := ?_) (a' := ?_) #[true, true, true, false, false, false, false, false, false, false, false, false, false, false, false, false, false, false, false, false, false, false] rfl rfl (by kernel_rfl) (fun _ _ _ h => h) (Or.inl ⟨by rfl, ?_⟩) ?_ ?_
          rotate_left
          · intro w'
            go_simp
            with_reducible rfl
          rotate_left
          · simp only [Act.put, List.setIfInBounds_toArray, List.set_cons_zero, List.set_cons_succ, i64_w, i32_w]
            rfl
          refine pure_ (i := 3) (N := some 44) (v := ?_) (a' := ?_) #[true, true, true, true, false, false, false, false, false, false, false, false, false, false, false, false, false, false, false, false, false, false] rfl rfl (by kernel_rfl) (fun _ _ _ h => h) (Or.inl ⟨by rfl, ?_⟩) ?_ ?_
          rotate_left
          · intro w'
            go_simp
            with_reducible rfl
          rotate_left
          · simp only [Act.put, List.setIfInBounds_toArray, List.set_cons_zero, List.set_cons_succ, i64_w, i32_w]
            rfl
          refine pure_ (i := 4) (N := some 45) (v := ?_) (a' := ?_) #[true, true, true, true, true, false, false, false, false, false, false, false, false, false, false, false, false, false, false, false, false, false] rfl rfl (by kernel_rfl) (fun _ _ _ h => h) (Or.inl ⟨by rfl, ?_⟩) ?_ ?_
          rotate_left
          · intro w'
            go_simp
            with_reducible rfl
          rotate_left
          · simp only [Act.put, List.setIfInBounds_toArray, List.set_cons_zero, List.set_cons_succ, i64_w, i32_w]
            rfl
          refine pure_ (i := 5) (N := some 46) (v := ?_) (a' := ?_) #[true, true, true, true, true, true, false, false, false, false, false, false, false, false, false, false, false, false, false, false, false, false] rfl rfl (by kernel_rfl) (fun _ _ _ h => h) (Or.inl ⟨by rfl, ?_⟩) ?_ ?_
          rotate_left
          · intro w'
            go_simp
            with_reducible rfl
          rotate_left
          · simp only [Act.put, List.setIfInBounds_toArray, List.set_cons_zero, List.set_cons_succ, i64_w, i32_w]
            rfl
          refine pure_ (i := 9) (N := some 50) (v := ?_) (a' := ?_) #[true, true, true, true, true, true, false, false, false, true, false, false, false, false, false, false, false, false, false, false, false, false] rfl rfl (by kernel_rfl) (fun _ _ _ h => h) (Or.inl ⟨by rfl, ?_⟩) ?_ ?_
          rotate_left
          · intro w'
            go_simp
            with_reducible rfl
          rotate_left
          · simp only [Act.put, List.setIfInBounds_toArray, List.set_cons_zero, List.set_cons_succ, i64_w, i32_w]
            rfl
          refine pure_ (i := 10) (N := some 51) (v := ?_) (a' := ?_) #[true, true, true, true, true, true, false, false, false, true, true, false, false, false, false, false, false, false, false, false, false, false] rfl rfl (by kernel_rfl) (fun _ _ _ h => h) (Or.inl ⟨by rfl, ?_⟩) ?_ ?_
          rotate_left
          · intro w'
            go_simp
            with_reducible rfl
          rotate_left
          · simp only [Act.put, List.setIfInBounds_toArray, List.set_cons_zero, List.set_cons_succ, i64_w, i32_w]
            rfl
          refine pure_ (i := 11) (N := some 52) (v := ?_) (a' := ?_) #[true, true, true, true, true, true, false, false, false, true, true, true, false, false, false, false, false, false, false, false, false, false] rfl rfl (by kernel_rfl) (fun _ _ _ h => h) (Or.inl ⟨by rfl, ?_⟩) ?_ ?_
          rotate_left
          · intro w'
            go_simp
            with_reducible rfl
          rotate_left
          · simp only [Act.put, List.setIfInBounds_toArray, List.set_cons_zero, List.set_cons_succ, i64_w, i32_w]
            rfl
          refine pure_ (i := 12) (N := some 53) (v := ?_) (a' := ?_) #[true, true, true, true, true, true, false, false, false, true, true, true, true, false, false, false, false, false, false, false, false, false] rfl rfl (by kernel_rfl) (fun _ _ _ h => h) (Or.inl ⟨by rfl, ?_⟩) ?_ ?_
          rotate_left
          · intro w'
            go_simp
            with_reducible rfl
          rotate_left
          · simp only [Act.put, List.setIfInBounds_toArray, List.set_cons_zero, List.set_cons_succ, i64_w, i32_w]
            rfl
          refine pure_ (i := 13) (N := some 54) (v := ?_) (a' := ?_) #[true, true, true, true, true, true, false, false, false, true, true, true, true, true, false, false, false, false, false, false, false, false] rfl rfl (by kernel_rfl) (fun _ _ _ h => h) (Or.inl ⟨by rfl, ?_⟩) ?_ ?_
          rotate_left
          · intro w'
            go_simp
            with_reducible rfl
          rotate_left
          · simp only [Act.put, List.setIfInBounds_toArray, List.set_cons_zero, List.set_cons_succ, i64_w, i32_w]
            rfl
          refine pure_ (i := 14) (N := some 55) (v := ?_) (a' := ?_) #[true, true, true, true, true, true, false, false, false, true, true, true, true, true, true, false, false, false, false, false, false, false] rfl rfl (by kernel_rfl) (fun _ _ _ h => h) (Or.inl ⟨by rfl, ?_⟩) ?_ ?_
          rotate_left
          · intro w'
            go_simp
            with_reducible rfl
          rotate_left
          · simp only [Act.put, List.setIfInBounds_toArray, List.set_cons_zero, List.set_cons_succ, i64_w, i32_w]
            rfl
          refine pure_ (i := 15) (N := some 56) (v := ?_) (a' := ?_) #[true, true, true, true, true, true, false, false, false, true, true, true, true, true, true, true, false, false, false, false, false, false] rfl rfl (by kernel_rfl) (fun _ _ _ h => h) (Or.inl ⟨by rfl, ?_⟩) ?_ ?_
          rotate_left
          · intro w'
            go_simp
            with_reducible rfl
          rotate_left
          · simp only [Act.put, List.setIfInBounds_toArray, List.set_cons_zero, List.set_cons_succ, i64_w, i32_w]
            rfl
          refine take_ (i := 6) (N := some 47) (v := ?_) (a' := ?_) #[true, true, true, true, true, true, true, false, false, true, true, true, true, true, true, true, false, false, false, false, false, false] rfl rfl (by kernel_rfl) (fun _ _ _ h => h) (Or.inl ⟨by rfl, ?_⟩) hHeld ?_ ?_
          rotate_left
          · rintro w' ⟨s0, s1⟩
            go_simp
            with_reducible rfl
          rotate_left
          · simp only [Act.put, List.setIfInBounds_toArray, List.set_cons_zero, List.set_cons_succ, i64_w, i32_w]
            rfl
          refine take_ (i := 16) (N := some 57) (v := ?_) (a' := ?_) #[true, true, true, true, true, true, true, false, false, true, true, true, true, true, true, true, true, false, false, false, false, false] rfl rfl (by kernel_rfl) (fun _ _ _ h => h) (Or.inl ⟨by rfl, ?_⟩) hHeld ?_ ?_
          rotate_left
          · rintro w' ⟨s0, s1⟩
            go_simp
            with_reducible rfl
          rotate_left
          · simp only [Act.put, List.setIfInBounds_toArray, List.set_cons_zero, List.set_cons_succ, i64_w, i32_w]
            rfl
          refine one_ (i := 7) (N := some 48) #[true, true, true, true, true, true, true, true, false, true, true, true, true, true, true, true, true, false, false, false, false, false] rfl rfl (by kernel_rfl) (by decide) (fun K hK => ?_)
          refine goes_ Try.func28 (by kernel_rfl) rfl #[.int .i64 q, .int .i64 1000] (by rfl) rfl rfl (by simp only [List.map_toArray, List.map_cons, List.map_nil]; rfl) ?_
          with_reducible refine (tourref5_Below.calls q 1000 bx _ FX.out).mono ?_
          rintro e we ⟨rfl, hb0⟩
          refine ⟨_, rfl, ?_⟩
          have hb := hb0.below
          have LH := Aside0.mk (LH.out.below hb)
          have B10 := Aside0.mk (blk_below B10.out hb)
          have P0 := Aside0.mk (pw_cell_below hb P0.out)
          have P1 := Aside0.mk (pw_cell_below hb P1.out)
          clear hb hb0
          refine hK.out _ _ ⟨P0.out, P1.out⟩ (fun hHeld => ?_)
          clear hK K
          refine norm_ (a' := ?_) ?_ ?_
          rotate_left
          · show Act.put _ (some 48) _ = _
            simp only [Act.put, List.setIfInBounds_toArray, List.set_cons_zero, List.set_cons_succ, i64_w, i32_w]
            rfl
          refine pure_ (i := 8) (N := some 49) (v := ?_) (a' := ?_) #[true, true, true, true, true, true, true, true, true, true, true, true, true, true, true, true, true, false, false, false, false, false] rfl rfl (by kernel_rfl) (fun _ _ _ h => h) (Or.inl ⟨by rfl, ?_⟩) ?_ ?_
          rotate_left
          · intro w'
            go_simp
            with_reducible rfl
          rotate_left
          · simp only [Act.put, List.setIfInBounds_toArray, List.set_cons_zero, List.set_cons_succ, i64_w, i32_w]
            rfl
          refine one_ (i := 17) (N := some 58) #[true, true, true, true, true, true, true, true, true, true, true, true, true, true, true, true, true, true, false, false, false, false] rfl rfl (by kernel_rfl) (by decide) (fun K hK => ?_)
          refine goes_ Try.func28 (by kernel_rfl) rfl #[.int .i64 s, .int .i64 1000] (by rfl) rfl rfl (by simp only [List.map_toArray, List.map_cons, List.map_nil]; rfl) ?_
          with_reducible refine (tourref5_Below.calls s 1000 by_ _ FY.out).mono ?_
          rintro e wf ⟨rfl, hb0⟩
          refine ⟨_, rfl, ?_⟩
          have hb := hb0.below
          have LH := Aside0.mk (LH.out.below hb)
          have B10 := Aside0.mk (blk_below B10.out hb)
          have P0 := Aside0.mk (pw_cell_below hb P0.out)
          have P1 := Aside0.mk (pw_cell_below hb P1.out)
          clear hb hb0
          refine hK.out _ _ ⟨P0.out, P1.out⟩ (fun hHeld => ?_)
          clear hK K
          refine norm_ (a' := ?_) ?_ ?_
          rotate_left
          · show Act.put _ (some 58) _ = _
            simp only [Act.put, List.setIfInBounds_toArray, List.set_cons_zero, List.set_cons_succ, i64_w, i32_w]
            rfl
          refine pure_ (i := 18) (N := some 59) (v := ?_) (a' := ?_) #[true, true, true, true, true, true, true, true, true, true, true, true, true, true, true, true, true, true, true, false, false, false] rfl rfl (by kernel_rfl) (fun _ _ _ h => h) (Or.inl ⟨by rfl, ?_⟩) ?_ ?_
          rotate_left
          · intro w'
            go_simp
            with_reducible rfl
          rotate_left
          · simp only [Act.put, List.setIfInBounds_toArray, List.set_cons_zero, List.set_cons_succ, i64_w, i32_w]
            rfl
          refine pure_ (i := 19) (N := some 60) (v := ?_) (a' := ?_) #[true, true, true, true, true, true, true, true, true, true, true, true, true, true, true, true, true, true, true, true, false, false] rfl rfl (by kernel_rfl) (fun _ _ _ h => h) (Or.inl ⟨by rfl, ?_⟩) ?_ ?_
          rotate_left
          · intro w'
            go_simp
            with_reducible rfl
          rotate_left
          · simp only [Act.put, List.setIfInBounds_toArray, List.set_cons_zero, List.set_cons_succ, i64_w, i32_w]
            rfl
          refine pure_ (i := 20) (N := some 61) (v := ?_) (a' := ?_) #[true, true, true, true, true, true, true, true, true, true, true, true, true, true, true, true, true, true, true, true, true, false] rfl rfl (by kernel_rfl) (fun _ _ _ h => h) (Or.inl ⟨by rfl, ?_⟩) ?_ ?_
          rotate_left
          · intro w'
            go_simp
            with_reducible rfl
          rotate_left
          · simp only [Act.put, List.setIfInBounds_toArray, List.set_cons_zero, List.set_cons_succ, i64_w, i32_w]
            rfl
          refine last_ (i := 21) (N := none) #[true, true, true, true, true, true, true, true, true, true, true, true, true, true, true, true, true, true, true, true, true, true] rfl rfl (by kernel_rfl) (by decide) (fun K hK => ?_)
          have cz0 := (blk_cell B10.out 0).trans rfl
          have fz0 := blk_frozen B10.out 0
          have cz1 := (blk_cell B10.out 1).trans rfl
          have fz1 := blk_frozen B10.out 1
          refine skip_ (w1 := ?_) (by rfl) rfl ?_ ?_
          rotate_left
          · go_simp
            rfl
          clear cz0 fz0 cz1 fz1
          have LH := Aside0.mk (LH.out.off OFF.out 0 (.int .i64 (wrap64 (bx - 500))))
          have B10 := Aside0.mk (blk_put B10.out 0 (.int .i64 (wrap64 (bx - 500))) rfl)
          have LH := Aside0.mk (LH.out.off OFF.out 1 (.int .i64 (wrap64 (by_ - 500))))
          have B10 := Aside0.mk (blk_put B10.out 1 (.int .i64 (wrap64 (by_ - 500))) rfl)
          refine hK.out _ _ ?_
          clear hK K
          refine done_ (by kernel_rfl) ?_

          go_wp2_with fail
          go_meet
          exact ⟨wrap64 (bx - 500), wrap64 (by_ - 500), ⟨by rw [WX.out, WY.out]; have := HX.out; have := HY.out; omega⟩, B10, LH⟩
        | false =>
          have n1 : (0 < l1.length) = False := eq_false (of_decide_eq_false hbp)
          go_wp2_with fail
          go_meet
          exact ⟨0, 0, ⟨by decide⟩, B10, LH⟩
      case rest =>
        clear B10 LH
        obtain ⟨x, y, HXY, B10, LH⟩ := hcut
        have HW := Aside0.mk (show wrap64 ((i : Int) + 1) = (i : Int) + 1 from by unfold wrap64; have := HI2.out; have := HM.out; omega)
        obtain ⟨bu, hbu⟩ : ∃ b, belowV u ((i : Int) + 1) = b := ⟨_, rfl⟩
        have FU := Aside0.mk (below_f u ((i : Int) + 1) (by omega))
        have HU := belowV_range u ((i : Int) + 1) (by omega) (by have := HI2.out; have := HM.out; omega)
        rw [hbu] at FU HU
        rw [← HW.out] at FU
        have HB1 := Aside0.mk (show wrap64 (bu - 1) = bu - 1 from by unfold wrap64; have := HI2.out; have := HM.out; omega)
        have HZ := Aside0.mk (show -1 ≤ wrap64 (bu - 1) ∧ wrap64 (bu - 1) < (i : Int) from by rw [HB1.out]; omega)
        have LU := Aside0.mk (show up.length = i from PH.out.len)
        have LT := Aside0.mk (show up.length < 100 from by have := LU.out; have := HI2.out; have := HM.out; omega)
        have FT := Aside0.mk (show graph_fits.f 3 (pp x y).x (pp x y).y (pp x y).a (pp x y).s = some true from by
          rw [show (3 : Nat) = 0 + 3 from rfl, fits_eq (pp x y) 0]
          have := HXY.out
          unfold fitsV pp
          simp; omega)
        clear hbu HU HB1
        obtain ⟨c0', c1', c2', c3'⟩ := four B10.out
        go_upto_region 13 with (first | ((with_reducible refine gate_dst (N := 65) rfl ?_); (with_reducible refine gate_callee (f := 28) rfl ?_); refine goesL_ (some 65) rfl rfl Try.func28 (by kernel_rfl) rfl #[.int .i64 u, .int .i64 (wrap64 ((i : Int) + 1))] rfl (by (try simp only [List.map_toArray, List.map_cons, List.map_nil]); first | done | rfl) ?_; (refine (tourref5_Below.calls u (wrap64 ((i : Int) + 1)) bu _ FU.out).mono ?_); rintro e wm ⟨rfl, hb0⟩; refine ⟨_, rfl, ?_⟩; clear c0' c1' c2' c3'; have hb := hb0.below; have LH := Aside0.mk (LH.out.below hb); have B10 := Aside0.mk (blk_below B10.out hb); clear hb hb0))
        obtain ⟨c0', c1', c2', c3'⟩ := four B10.out
        go_upto_region 14 with (first | ((with_reducible refine gate_dst (N := 71) rfl ?_); (with_reducible refine gate_callee (f := 31) rfl ?_); refine goesL_ (some 71) rfl rfl Try.func31 (by kernel_rfl) rfl #[.pointer (some ⟨g, 0, none⟩), .int .i64 (wrap64 (bu - 1)), .agg #[.int .i64 x, .int .i64 y, .int .i64 0, .int .i64 65536]] rfl (by (try simp only [List.map_toArray, List.map_cons, List.map_nil]); first | done | rfl) ?_; (refine (Add_ls LH.out 3 (wrap64 (bu - 1)) (pp x y) LT.out PH.out.sane.l1 PH.out.sane.l2 PH.out.sane.l3 HZ.out.1 (by rw [LU.out]; exact HZ.out.2) FT.out).mono ?_); rintro e wn ⟨rfl, u0, u1, u2, u3, hL, hsz, hF⟩; refine ⟨_, rfl, ?_⟩; clear c0' c1' c2' c3'; have B10 := Aside0.mk ((hF g10 OFF.out (blk_lt B10.out)).trans B10.out); have LH := Aside0.mk hL; clear hL hsz hF))
        generalize wrap64 (bu - 1) = z at HZ LH ⊢
        clear FU
        have e1 : ((up.length : Int) != (i : Int)) = false := by rw [LU.out]; simp
        obtain ⟨c0', c1', c2', c3'⟩ := four B10.out
        go_upto_region 17 with (first | ((with_reducible refine gate_dst (N := 13) rfl ?_); refine box_event ?hg (N := 13) ?hd (cs := #[.int .i64 0, .int .i64 0]) (t := tV) ?hr ?_; (case hd => rfl); (case hg => rfl); (case hr => first | (go_simp; done) | (go_simp; rfl)); intro g13 hg wp hbox hb; have HE := Aside0.mk hb; have GE := Aside0.mk (Nat.le_of_eq hg.symm); have B13 := Aside0.mk hbox; clear hg hbox hb c0' c1' c2' c3' e1; have cz0 := (blk_cell B13.out 0).trans rfl; have fz0 := blk_frozen B13.out 0; have cz1 := (blk_cell B13.out 1).trans rfl; have fz1 := blk_frozen B13.out 1))
        have OFF3 := Aside0.mk (LS.away LH.out GE.out)
        have HE := Aside0.mk (show Below wn.heap.size wn ((wp.setCell ⟨g13, 0, none⟩ (.int .i64 x)).setCell ⟨g13, 1, none⟩ (.int .i64 y)) from below_set (below_set (HE.out) GE.out) GE.out)
        have LH := Aside0.mk (LH.out.below HE.out)
        have B10 := Aside0.mk (blk_below B10.out HE.out)
        have B13 := Aside0.mk (blk_put (blk_put (B13.out) 0 (.int .i64 x) rfl) 1 (.int .i64 y) rfl)
        clear HE GE cz0 fz0 cz1 fz1
        generalize ((wp.setCell ⟨g13, 0, none⟩ (.int .i64 x)).setCell ⟨g13, 1, none⟩ (.int .i64 y)) = wq at LH B10 B13 ⊢
        go_upto_if 84 with fail
        go_cut [101] (fun v101 w' => Aside0 (w'.heap[g13]? = some (.cells #[.int .i64 (if 0 ≤ z then x + (twoAt ats z.toNat).1 else x), .int .i64 (if 0 ≤ z then y + (twoAt ats z.toNat).2 else y)] tV (0, 0))) ∧ Aside0 (LS W w' g u0 u1 u2 u3 u6 u7 (up ++ [z]) (own ++ [pp x y]) (kn ++ [false]) (wh ++ [pl0]) n up ats))
        case first =>
          by_cases hz : 0 ≤ z
          · have d1 : decide (z ≥ 0) = true := decide_eq_true hz
            have d2 : (0 ≤ z) = True := eq_true hz
            obtain ⟨j, rfl⟩ := Int.eq_ofNat_of_zero_le hz
            have HJ := Aside0.mk (show j < ats.length from by have := HZ.out; rw [PH.out.lat]; omega)
            obtain ⟨b, c, rfl, p0, p1⟩ := LH.out.at2 j HJ.out
            have k1 : ((j : Int) < (ats.length : Int)) = True := eq_true (by have := HJ.out; omega)
            have k2 : (j < ats.length) = True := eq_true HJ.out
            have k3 : ((0 : Int) ≤ (j : Int)) = True := eq_true (by omega)
            have BD := Aside0.mk (PH.out.bnd j (by have := HJ.out; rw [PH.out.lat] at this; exact this))
            obtain ⟨qa, hqa⟩ : ∃ q, (twoAt ats j).1 = q := ⟨_, rfl⟩
            obtain ⟨qb, hqb⟩ : ∃ q, (twoAt ats j).2 = q := ⟨_, rfl⟩
            rw [hqa] at p0
            rw [hqb] at p1
            have BQ := Aside0.mk (show -(1000 * (j + 1 : Int)) ≤ qa ∧ qa ≤ 1000 * (j + 1 : Int) ∧ -(1000 * (j + 1 : Int)) ≤ qb ∧ qb ≤ 1000 * (j + 1 : Int) from by rw [← hqa, ← hqb]; exact BD.out)
            have HJ2 := Aside0.mk (show j < 20 from by have := HJ.out; rw [PH.out.lat] at this; have := HI2.out; have := HM.out; omega)
            obtain ⟨sa, hsa⟩ : ∃ q, wrap64 (x + qa) = q := ⟨_, rfl⟩
            obtain ⟨sb, hsb⟩ : ∃ q, wrap64 (y + qb) = q := ⟨_, rfl⟩
            have HSA := Aside0.mk (show x + qa = sa from by have := BQ.out; have := HJ2.out; have := HXY.out; rw [← hsa]; unfold wrap64; omega)
            have HSB := Aside0.mk (show y + qb = sb from by have := BQ.out; have := HJ2.out; have := HXY.out; rw [← hsb]; unfold wrap64; omega)
            have HQ := Aside0.mk (And.intro hqa hqb)
            have P0 := Aside0.mk p0
            have P1 := Aside0.mk p1
            clear p0 p1 hqa hqb BD BQ
            go_upto_region 18 with fail
            have LH := Aside0.mk (LH.out.below (Below.refl _ _).drew)
            have B13 := Aside0.mk (blk_below B13.out (Below.refl _ _).drew)
            have P0 := Aside0.mk (pw_cell_below (Below.refl _ _).drew P0.out)
            have P1 := Aside0.mk (pw_cell_below (Below.refl _ _).drew P1.out)
            refine start_ (n := 18) (S := fun w' => w'.cell? ⟨g13, 0, none⟩ = some (.int .i64 x) ∧ w'.cell? ⟨g13, 1, none⟩ = some (.int .i64 y) ∧ w'.cell? ⟨b, j * 2, none⟩ = some (.int .i64 qa) ∧ w'.cell? ⟨b, j * 2 + 1, none⟩ = some (.int .i64 qb)) (ds := [17]) #[false, false, false, false, false, false, false, false, false, false, false, false, false, false, false, false, false, false] (by kernel_rfl) rfl rfl ⟨(blk_cell B13.out 0).trans rfl, (blk_cell B13.out 1).trans rfl, P0.out, P1.out⟩ (fun hHeld => ?_)
            generalize wq.drew = ws at LH B13 P0 P1 hHeld ⊢
            refine pure_ (i := 0) (N := some 85) (v := ?_) (a' := ?_) #[true, false, false, false, false, false, false, false, false, false, false, false, false, false, false, false, false, false] rfl rfl (by kernel_rfl) (fun _ _ _ h => h) (Or.inl ⟨by rfl, ?_⟩) ?_ ?_
            rotate_left
            · intro w'
              go_simp
              with_reducible rfl
            rotate_left
            · simp only [Act.put, List.setIfInBounds_toArray, List.set_cons_zero, List.set_cons_succ, i64_w, i32_w]
              rfl
            refine pure_ (i := 2) (N := some 87) (v := ?_) (a' := ?_) #[true, false, true, false, false, false, false, false, false, false, false, false, false, false, false, false, false, false] rfl rfl (by kernel_rfl) (fun _ _ _ h => h) (Or.inl ⟨by rfl, ?_⟩) ?_ ?_
            rotate_left
            · intro w'
              go_simp
              with_reducible rfl
            rotate_left
            · simp only [Act.put, List.setIfInBounds_toArray, List.set_cons_zero, List.set_cons_succ, i64_w, i32_w]
              rfl
            refine pure_ (i := 3) (N := some 88) (v := ?_) (a' := ?_) #[true, false, true, true, false, false, false, false, false, false, false, false, false, false, false, false, false, false] rfl rfl (by kernel_rfl) (fun _ _ _ h => h) (Or.inl ⟨by rfl, ?_⟩) ?_ ?_
            rotate_left
            · intro w'
              go_simp
              with_reducible rfl
            rotate_left
            · simp only [Act.put, List.setIfInBounds_toArray, List.set_cons_zero, List.set_cons_succ, i64_w, i32_w]
              rfl
            refine pure_ (i := 4) (N := some 89) (v := ?_) (a' := ?_) #[true, false, true, true, true, false, false, false, false, false, false, false, false, false, false, false, false, false] rfl rfl (by kernel_rfl) (fun _ _ _ h => h) (Or.inl ⟨by rfl, ?_⟩) ?_ ?_
            rotate_left
            · intro w'
              go_simp
              with_reducible rfl
            rotate_left
            · simp only [Act.put, List.setIfInBounds_toArray, List.set_cons_zero, List.set_cons_succ, i64_w, i32_w]
              rfl
            refine pure_ (i := 5) (N := some 90) (v := ?_) (a' := ?_) #[true, false, true, true, true, true, false, false, false, false, false, false, false, false, false, false, false, false] rfl rfl (by kernel_rfl) (fun _ _ _ h => h) (Or.inl ⟨by rfl, ?_⟩) ?_ ?_
            rotate_left
            · intro w'
              go_simp
              with_reducible rfl
            rotate_left
            · simp only [Act.put, List.setIfInBounds_toArray, List.set_cons_zero, List.set_cons_succ, i64_w, i32_w]
              rfl
            refine pure_ (i := 8) (N := some 93) (v := ?_) (a' := ?_) #[true, false, true, true, true, true, false, false, true, false, false, false, false, false, false, false, false, false] rfl rfl (by kernel_rfl) (fun _ _ _ h => h) (Or.inl ⟨by rfl, ?_⟩) ?_ ?_
            rotate_left
            · intro w'
              go_simp
              with_reducible rfl
            rotate_left
            · simp only [Act.put, List.setIfInBounds_toArray, List.set_cons_zero, List.set_cons_succ, i64_w, i32_w]
              rfl
            refine pure_ (i := 10) (N := some 95) (v := ?_) (a' := ?_) #[true, false, true, true, true, true, false, false, true, false, true, false, false, false, false, false, false, false] rfl rfl (by kernel_rfl) (fun _ _ _ h => h) (Or.inl ⟨by rfl, ?_⟩) ?_ ?_
            rotate_left
            · intro w'
              go_simp
              with_reducible rfl
            rotate_left
            · simp only [Act.put, List.setIfInBounds_toArray, List.set_cons_zero, List.set_cons_succ, i64_w, i32_w]
              rfl
            refine pure_ (i := 11) (N := some 96) (v := ?_) (a' := ?_) #[true, false, true, true, true, true, false, false, true, false, true, true, false, false, false, false, false, false] rfl rfl (by kernel_rfl) (fun _ _ _ h => h) (Or.inl ⟨by rfl, ?_⟩) ?_ ?_
            rotate_left
            · intro w'
              go_simp
              with_reducible rfl
            rotate_left
            · simp only [Act.put, List.setIfInBounds_toArray, List.set_cons_zero, List.set_cons_succ, i64_w, i32_w]
              rfl
            refine pure_ (i := 12) (N := some 97) (v := ?_) (a' := ?_) #[true, false, true, true, true, true, false, false, true, false, true, true, true, false, false, false, false, false] rfl rfl (by kernel_rfl) (fun _ _ _ h => h) (Or.inl ⟨by rfl, ?_⟩) ?_ ?_
            rotate_left
            · intro w'
              go_simp
              with_reducible rfl
            rotate_left
            · simp only [Act.put, List.setIfInBounds_toArray, List.set_cons_zero, List.set_cons_succ, i64_w, i32_w]
              rfl
            refine pure_ (i := 13) (N := some 98) (v := ?_) (a' := ?_) #[true, false, true, true, true, true, false, false, true, false, true, true, true, true, false, false, false, false] rfl rfl (by kernel_rfl) (fun _ _ _ h => h) (Or.inl ⟨by rfl, ?_⟩) ?_ ?_
            rotate_left
            · intro w'
              go_simp
              with_reducible rfl
            rotate_left
            · simp only [Act.put, List.setIfInBounds_toArray, List.set_cons_zero, List.set_cons_succ, i64_w, i32_w]
              rfl
            refine take_ (i := 1) (N := some 86) (v := ?_) (a' := ?_) #[true, true, true, true, true, true, false, false, true, false, true, true, true, true, false, false, false, false] rfl rfl (by kernel_rfl) (fun _ _ _ h => h) (Or.inl ⟨by rfl, ?_⟩) hHeld ?_ ?_
            rotate_left
            · rintro w' ⟨s0, s1, s2, s3⟩
              go_simp
              with_reducible rfl
            rotate_left
            · simp only [Act.put, List.setIfInBounds_toArray, List.set_cons_zero, List.set_cons_succ, i64_w, i32_w]
              rfl
            refine take_ (i := 6) (N := some 91) (v := ?_) (a' := ?_) #[true, true, true, true, true, true, true, false, true, false, true, true, true, true, false, false, false, false] rfl rfl (by kernel_rfl) (fun _ _ _ h => h) (Or.inl ⟨by rfl, ?_⟩) hHeld ?_ ?_
            rotate_left
            · rintro w' ⟨s0, s1, s2, s3⟩
              go_simp
              with_reducible rfl
            rotate_left
            · simp only [Act.put, List.setIfInBounds_toArray, List.set_cons_zero, List.set_cons_succ, i64_w, i32_w]
              rfl
            refine pure_ (i := 7) (N := some 92) (v := ?_) (a' := ?_) #[true, true, true, true, true, true, true, true, true, false, true, true, true, true, false, false, false, false] rfl rfl (by kernel_rfl) (fun _ _ _ h => h) (Or.inl ⟨by rfl, ?_⟩) ?_ ?_
            rotate_left
            · intro w'
              go_simp
              with_reducible rfl
            rotate_left
            · simp only [Act.put, List.setIfInBounds_toArray, List.set_cons_zero, List.set_cons_succ, i64_w, i32_w]
              rfl
            refine take_ (i := 9) (N := some 94) (v := ?_) (a' := ?_) #[true, true, true, true, true, true, true, true, true, true, true, true, true, true, false, false, false, false] rfl rfl (by kernel_rfl) (fun _ _ _ h => h) (Or.inl ⟨by rfl, ?_⟩) hHeld ?_ ?_
            rotate_left
            · rintro w' ⟨s0, s1, s2, s3⟩
              go_simp
              with_reducible rfl
            rotate_left
            · simp only [Act.put, List.setIfInBounds_toArray, List.set_cons_zero, List.set_cons_succ, i64_w, i32_w]
              rfl
            refine take_ (i := 14) (N := some 99) (v := ?_) (a' := ?_) #[true, true, true, true, true, true, true, true, true, true, true, true, true, true, true, false, false, false] rfl rfl (by kernel_rfl) (fun _ _ _ h => h) (Or.inl ⟨by rfl, ?_⟩) hHeld ?_ ?_
            rotate_left
            · rintro w' ⟨s0, s1, s2, s3⟩
              go_simp
              with_reducible rfl
            rotate_left
            · simp only [Act.put, List.setIfInBounds_toArray, List.set_cons_zero, List.set_cons_succ, i64_w, i32_w]
              rfl
            refine pure_ (i := 15) (N := some 100) (v := ?_) (a' := ?_) #[true, true, true, true, true, true, true, true, true, true, true, true, true, true, true, true, false, false] rfl rfl (by kernel_rfl) (fun _ _ _ h => h) (Or.inl ⟨by rfl, ?_⟩) ?_ ?_
            rotate_left
            · intro w'
              go_simp
              with_reducible rfl
            rotate_left
            · simp only [Act.put, List.setIfInBounds_toArray, List.set_cons_zero, List.set_cons_succ, i64_w, i32_w]
              rfl
            refine pure_ (i := 16) (N := some 101) (v := ?_) (a' := ?_) #[true, true, true, true, true, true, true, true, true, true, true, true, true, true, true, true, true, false] rfl rfl (by kernel_rfl) (fun _ _ _ h => h) (Or.inl ⟨by rfl, ?_⟩) ?_ ?_
            rotate_left
            · intro w'
              go_simp
              with_reducible rfl
            rotate_left
            · simp only [Act.put, List.setIfInBounds_toArray, List.set_cons_zero, List.set_cons_succ, i64_w, i32_w]
              rfl
            refine last_ (i := 17) (N := none) #[true, true, true, true, true, true, true, true, true, true, true, true, true, true, true, true, true, true] rfl rfl (by kernel_rfl) (by decide) (fun K hK => ?_)
            have cz0 := (blk_cell B13.out 0).trans rfl
            have fz0 := blk_frozen B13.out 0
            have cz1 := (blk_cell B13.out 1).trans rfl
            have fz1 := blk_frozen B13.out 1
            refine skip_ (w1 := ?_) (by rfl) rfl ?_ ?_
            rotate_left
            · go_simp
              rfl
            clear cz0 fz0 cz1 fz1
            have LH := Aside0.mk (LH.out.off OFF3.out 0 (.int .i64 sa))
            have B13 := Aside0.mk (blk_put B13.out 0 (.int .i64 sa) rfl)
            have LH := Aside0.mk (LH.out.off OFF3.out 1 (.int .i64 sb))
            have B13 := Aside0.mk (blk_put B13.out 1 (.int .i64 sb) rfl)
            refine hK.out _ _ ?_
            clear hK K
            refine done_ (by kernel_rfl) ?_

            clear hsa hsb
            go_wp2_with fail
            go_meet
            refine ⟨⟨?_⟩, LH⟩
            rw [if_pos (Int.natCast_nonneg j), if_pos (Int.natCast_nonneg j), Int.toNat_natCast, HQ.out.1, HQ.out.2, HSA.out, HSB.out]
            exact B13.out
          · have d1 : decide (z ≥ 0) = false := decide_eq_false hz
            have d2 : (0 ≤ z) = False := eq_false hz
            have d3 : (z ≥ 0) = False := eq_false hz
            go_wp2_with fail
            go_meet
            refine ⟨⟨?_⟩, LH⟩
            rw [if_neg (show ¬ (0 ≤ z) from by omega), if_neg (show ¬ (0 ≤ z) from by omega)]
            exact B13.out
        case rest =>
          clear B13 LH
          obtain ⟨B13, LH⟩ := hcut
          have HI20 := Aside0.mk (show i < 20 from by have := HI2.out; have := HM.out; omega)
          obtain ⟨s', V', ⟨ka, hka⟩, hP, hup, hown', hkn', hwh'⟩ := PH.out.step HI20.out z x y HZ.out.1 HZ.out.2 (by have := HXY.out; omega) (by have := HXY.out; omega)
          obtain ⟨sx, hsx⟩ : ∃ q, (if 0 ≤ z then x + (twoAt ats z.toNat).1 else x) = q := ⟨_, rfl⟩
          obtain ⟨sy, hsy⟩ : ∃ q, (if 0 ≤ z then y + (twoAt ats z.toNat).2 else y) = q := ⟨_, rfl⟩
          rw [hsx, hsy] at B13 hP
          have HF := Aside0.mk (show atF ka ⟨up ++ [z], own ++ [pp x y], kn ++ [false], wh ++ [pl0], n⟩ up.length = some (pp sx sy, s') from by
            have h := hka ka (Nat.le_refl _)
            rw [hsx, hsy] at h
            rw [LU.out]; exact h)
          have PN := Aside0.mk hP
          have UN := Aside0.mk hup
          have LL := Aside0.mk (show own.length = up.length ∧ kn.length = up.length ∧ wh.length = up.length ∧ ats.length = up.length from ⟨PH.out.sane.l1, PH.out.sane.l2, PH.out.sane.l3, PH.out.lat.trans LU.out.symm⟩)
          clear hsx hsy hka hP hup hown' hkn' hwh' B10
          go_upto_region 19 with fail
          have LH := Aside0.mk (LH.out.below (Below.refl _ _).drew)
          have B13 := Aside0.mk (blk_below B13.out (Below.refl _ _).drew)
          refine start_ (n := 10) (S := fun w' => w'.cell? ⟨g13, 0, none⟩ = some (.int .i64 sx) ∧ w'.cell? ⟨g13, 1, none⟩ = some (.int .i64 sy)) (ds := [7]) #[false, false, false, false, false, false, false, false, false, false] (by kernel_rfl) rfl rfl ⟨(blk_cell B13.out 0).trans rfl, (blk_cell B13.out 1).trans rfl⟩ (fun hHeld => ?_)
          generalize wc.drew = wd at LH B13 hHeld ⊢
          refine pure_ (i := 0) (N := some 102) (v := ?_) (a' := ?_) #[true, false, false, false, false, false, false, false, false, false] rfl rfl (by kernel_rfl) (fun _ _ _ h => h) (Or.inl ⟨by rfl, ?_⟩) ?_ ?_
          rotate_left
          · intro w'
            go_simp
            with_reducible rfl
          rotate_left
          · simp only [Act.put, List.setIfInBounds_toArray, List.set_cons_zero, List.set_cons_succ, i64_w, i32_w]
            rfl
          refine pure_ (i := 1) (N := some 103) (v := ?_) (a' := ?_) #[true, true, false, false, false, false, false, false, false, false] rfl rfl (by kernel_rfl) (fun _ _ _ h => h) (Or.inl ⟨by rfl, ?_⟩) ?_ ?_
          rotate_left
          · intro w'
            go_simp
            with_reducible rfl
          rotate_left
          · simp only [Act.put, List.setIfInBounds_toArray, List.set_cons_zero, List.set_cons_succ, i64_w, i32_w]
            rfl
          refine pure_ (i := 4) (N := some 106) (v := ?_) (a' := ?_) #[true, true, false, false, true, false, false, false, false, false] rfl rfl (by kernel_rfl) (fun _ _ _ h => h) (Or.inl ⟨by rfl, ?_⟩) ?_ ?_
          rotate_left
          · intro w'
            go_simp
            with_reducible rfl
          rotate_left
          · simp only [Act.put, List.setIfInBounds_toArray, List.set_cons_zero, List.set_cons_succ, i64_w, i32_w]
            rfl
          refine take_ (i := 5) (N := some 107) (v := ?_) (a' := ?_) #[true, true, false, false, true, true, false, false, false, false] rfl rfl (by kernel_rfl) (fun _ _ _ h => h) (Or.inl ⟨by rfl, ?_⟩) hHeld ?_ ?_
          rotate_left
          · rintro w' ⟨s0, s1⟩
            go_simp
            with_reducible rfl
          rotate_left
          · simp only [Act.put, List.setIfInBounds_toArray, List.set_cons_zero, List.set_cons_succ, i64_w, i32_w]
            rfl
          refine join_ (σ := Nat × Nat × Nat × Nat) 3 #[true, true, true, true, true, true, true, false, false, false] (fun s => [(104, .slice (some ⟨s.1, 0, none⟩) 1 1), (105, .slice (some ⟨s.2.1, 0, none⟩) (up.length + 1) s.2.2.1), (108, .slice (some ⟨s.2.2.2, 0, none⟩) 1 1)]) (fun s w' => LS W w' g u0 u1 u2 u3 (.slice (some ⟨s.2.1, 0, none⟩) (up.length + 1) s.2.2.1) u7 (up ++ [z]) (own ++ [pp x y]) (kn ++ [false]) (wh ++ [pl0]) n (up ++ [z]) ats ∧ w'.heap[s.2.2.2]? = some (.cells #[.int .i64 sx, .int .i64 sy] tV (0, 0)) ∧ w'.heap[g13]? = some (.cells #[.int .i64 sx, .int .i64 sy] tV (0, 0))) ?_ ?_
          rotate_left
          · intro hCont
            refine two_ (i := 2) (j := 6) (Ni := some 104) (Nj := some 108) #[true, true, true, false, true, true, false, false, false, false] #[true, true, false, false, true, true, true, false, false, false] rfl rfl rfl rfl (by kernel_rfl) (by decide) (by decide) (fun K hK => ?_) (fun K hK => ?_)
            · skip
              refine row_step (by rfl) rfl (cs := #[.int .i64 z]) (t := 3) (n := 1) ?_ ?_
              · first | (go_simp; done) | (go_simp; rfl)
              intro gA hg_ wa hbox hb
              have LA := Aside0.mk hbox
              have LH := Aside0.mk (LH.out.below hb)
              have B13 := Aside0.mk (blk_below B13.out hb)
              clear hg_ hbox hb
              refine hK.out _ _ ⟨(blk_cell B13.out 0).trans rfl, (blk_cell B13.out 1).trans rfl⟩ (fun hHeld => ?_)
              clear hK K
              refine norm_ (a' := ?_) ?_ ?_
              rotate_left
              · show Act.put _ (some 104) _ = _
                simp only [Act.put, List.setIfInBounds_toArray, List.set_cons_zero, List.set_cons_succ, i64_w, i32_w]
                rfl
              refine two_ (i := 3) (j := 6) (Ni := some 105) (Nj := some 108) #[true, true, true, true, true, true, false, false, false, false] #[true, true, true, false, true, true, true, false, false, false] rfl rfl rfl rfl (by kernel_rfl) (by decide) (by decide) (fun K hK => ?_) (fun K hK => ?_)
              · skip
                obtain ⟨i0, hi0, hz0, hs0, hb0⟩ := info_int
                refine step_append_lies _ rfl (.tmp 102) (.tmp 104) 48 rfl W.heap.size 3 i0 _ 1 8 Try.underlying48 hi0 hz0 hs0 hb0 rfl (by decide) (u6) up.length (up.map (Value.int .i64)) rfl LH.out.lu ⟨gA, 0, none⟩ 1 1 [.int .i64 z] rfl rfl (by simpa using World.news_of_block LA.out) (by simp [Value.oneCell']) (by decide) (by have := LT.out; have := LL.out; unfold maxLen; omega) (by have := LT.out; have := LL.out; omega) LH.out.rw.bel.size _ rfl ?_
                intro hA capA wb hown hgr hat hlt
                have B13 := Aside0.mk (blk_grown B13.out hgr (fun e => OFF3.out.nu e.symm))
                have LH := Aside0.mk (LH.out.appu z hown hgr (hat.imp (fun e => e.symm) fun e => ⟨_, rfl, Nat.le_of_eq e.symm⟩))
                clear hown hgr hat hlt i0 hi0 hz0 hs0 hb0 LA
                refine hK.out _ _ ⟨(blk_cell B13.out 0).trans rfl, (blk_cell B13.out 1).trans rfl⟩ (fun hHeld => ?_)
                clear hK K
                refine norm_ (a' := ?_) ?_ ?_
                rotate_left
                · show Act.put _ (some 105) _ = _
                  simp only [Act.put, List.setIfInBounds_toArray, List.set_cons_zero, List.set_cons_succ, i64_w, i32_w]
                  rfl
                refine one_ (i := 6) (N := some 108) #[true, true, true, true, true, true, true, false, false, false] rfl rfl (by kernel_rfl) (by decide) (fun K hK => ?_)
                refine row_step (by rfl) rfl (cs := #[.int .i64 sx, .int .i64 sy]) (t := tV) (n := 1) ?_ ?_
                · first | (go_simp; done) | (go_simp; rfl)
                intro gB hg_ wa hbox hb
                have LB := Aside0.mk hbox
                have LH := Aside0.mk (LH.out.below hb)
                have B13 := Aside0.mk (blk_below B13.out hb)
                clear hg_ hbox hb
                refine hK.out _ _ ⟨(blk_cell B13.out 0).trans rfl, (blk_cell B13.out 1).trans rfl⟩ (fun hHeld => ?_)
                clear hK K
                refine norm_ (a' := ?_) ?_ ?_
                rotate_left
                · show Act.put _ (some 108) _ = _
                  simp only [Act.put, List.setIfInBounds_toArray, List.set_cons_zero, List.set_cons_succ, i64_w, i32_w]
                  rfl
                exact norm_ (by simp only [putAll, Act.put, List.setIfInBounds_toArray, List.set_cons_zero, List.set_cons_succ]) (hCont (gA, hA, capA, gB) _ ⟨LH.out, LB.out, B13.out⟩)
              · skip
                refine row_step (by rfl) rfl (cs := #[.int .i64 sx, .int .i64 sy]) (t := tV) (n := 1) ?_ ?_
                · first | (go_simp; done) | (go_simp; rfl)
                intro gB hg_ wa hbox hb
                have LB := Aside0.mk hbox
                have LH := Aside0.mk (LH.out.below hb)
                have B13 := Aside0.mk (blk_below B13.out hb)
                have LA := Aside0.mk (blk_below LA.out hb)
                clear hg_ hbox hb
                refine hK.out _ _ ⟨(blk_cell B13.out 0).trans rfl, (blk_cell B13.out 1).trans rfl⟩ (fun hHeld => ?_)
                clear hK K
                refine norm_ (a' := ?_) ?_ ?_
                rotate_left
                · show Act.put _ (some 108) _ = _
                  simp only [Act.put, List.setIfInBounds_toArray, List.set_cons_zero, List.set_cons_succ, i64_w, i32_w]
                  rfl
                refine one_ (i := 3) (N := some 105) #[true, true, true, true, true, true, true, false, false, false] rfl rfl (by kernel_rfl) (by decide) (fun K hK => ?_)
                obtain ⟨i0, hi0, hz0, hs0, hb0⟩ := info_int
                refine step_append_lies _ rfl (.tmp 102) (.tmp 104) 48 rfl W.heap.size 3 i0 _ 1 8 Try.underlying48 hi0 hz0 hs0 hb0 rfl (by decide) (u6) up.length (up.map (Value.int .i64)) rfl LH.out.lu ⟨gA, 0, none⟩ 1 1 [.int .i64 z] rfl rfl (by simpa using World.news_of_block LA.out) (by simp [Value.oneCell']) (by decide) (by have := LT.out; have := LL.out; unfold maxLen; omega) (by have := LT.out; have := LL.out; omega) LH.out.rw.bel.size _ rfl ?_
                intro hA capA wb hown hgr hat hlt
                have B13 := Aside0.mk (blk_grown B13.out hgr (fun e => OFF3.out.nu e.symm))
                have LB := Aside0.mk (blk_grown LB.out hgr (own_ne LH.out.lu LB.out (by decide)))
                have LH := Aside0.mk (LH.out.appu z hown hgr (hat.imp (fun e => e.symm) fun e => ⟨_, rfl, Nat.le_of_eq e.symm⟩))
                clear hown hgr hat hlt i0 hi0 hz0 hs0 hb0 LA
                refine hK.out _ _ ⟨(blk_cell B13.out 0).trans rfl, (blk_cell B13.out 1).trans rfl⟩ (fun hHeld => ?_)
                clear hK K
                refine norm_ (a' := ?_) ?_ ?_
                rotate_left
                · show Act.put _ (some 105) _ = _
                  simp only [Act.put, List.setIfInBounds_toArray, List.set_cons_zero, List.set_cons_succ, i64_w, i32_w]
                  rfl
                exact norm_ (by simp only [putAll, Act.put, List.setIfInBounds_toArray, List.set_cons_zero, List.set_cons_succ]) (hCont (gA, hA, capA, gB) _ ⟨LH.out, LB.out, B13.out⟩)
            · skip
              refine row_step (by rfl) rfl (cs := #[.int .i64 sx, .int .i64 sy]) (t := tV) (n := 1) ?_ ?_
              · first | (go_simp; done) | (go_simp; rfl)
              intro gB hg_ wa hbox hb
              have LB := Aside0.mk hbox
              have LH := Aside0.mk (LH.out.below hb)
              have B13 := Aside0.mk (blk_below B13.out hb)
              clear hg_ hbox hb
              refine hK.out _ _ ⟨(blk_cell B13.out 0).trans rfl, (blk_cell B13.out 1).trans rfl⟩ (fun hHeld => ?_)
              clear hK K
              refine norm_ (a' := ?_) ?_ ?_
              rotate_left
              · show Act.put _ (some 108) _ = _
                simp only [Act.put, List.setIfInBounds_toArray, List.set_cons_zero, List.set_cons_succ, i64_w, i32_w]
                rfl
              refine one_ (i := 2) (N := some 104) #[true, true, true, false, true, true, true, false, false, false] rfl rfl (by kernel_rfl) (by decide) (fun K hK => ?_)
              refine row_step (by rfl) rfl (cs := #[.int .i64 z]) (t := 3) (n := 1) ?_ ?_
              · first | (go_simp; done) | (go_simp; rfl)
              intro gA hg_ wa hbox hb
              have LA := Aside0.mk hbox
              have LH := Aside0.mk (LH.out.below hb)
              have B13 := Aside0.mk (blk_below B13.out hb)
              have LB := Aside0.mk (blk_below LB.out hb)
              clear hg_ hbox hb
              refine hK.out _ _ ⟨(blk_cell B13.out 0).trans rfl, (blk_cell B13.out 1).trans rfl⟩ (fun hHeld => ?_)
              clear hK K
              refine norm_ (a' := ?_) ?_ ?_
              rotate_left
              · show Act.put _ (some 104) _ = _
                simp only [Act.put, List.setIfInBounds_toArray, List.set_cons_zero, List.set_cons_succ, i64_w, i32_w]
                rfl
              refine one_ (i := 3) (N := some 105) #[true, true, true, true, true, true, true, false, false, false] rfl rfl (by kernel_rfl) (by decide) (fun K hK => ?_)
              obtain ⟨i0, hi0, hz0, hs0, hb0⟩ := info_int
              refine step_append_lies _ rfl (.tmp 102) (.tmp 104) 48 rfl W.heap.size 3 i0 _ 1 8 Try.underlying48 hi0 hz0 hs0 hb0 rfl (by decide) (u6) up.length (up.map (Value.int .i64)) rfl LH.out.lu ⟨gA, 0, none⟩ 1 1 [.int .i64 z] rfl rfl (by simpa using World.news_of_block LA.out) (by simp [Value.oneCell']) (by decide) (by have := LT.out; have := LL.out; unfold maxLen; omega) (by have := LT.out; have := LL.out; omega) LH.out.rw.bel.size _ rfl ?_
              intro hA capA wb hown hgr hat hlt
              have B13 := Aside0.mk (blk_grown B13.out hgr (fun e => OFF3.out.nu e.symm))
              have LB := Aside0.mk (blk_grown LB.out hgr (own_ne LH.out.lu LB.out (by decide)))
              have LH := Aside0.mk (LH.out.appu z hown hgr (hat.imp (fun e => e.symm) fun e => ⟨_, rfl, Nat.le_of_eq e.symm⟩))
              clear hown hgr hat hlt i0 hi0 hz0 hs0 hb0 LA
              refine hK.out _ _ ⟨(blk_cell B13.out 0).trans rfl, (blk_cell B13.out 1).trans rfl⟩ (fun hHeld => ?_)
              clear hK K
              refine norm_ (a' := ?_) ?_ ?_
              rotate_left
              · show Act.put _ (some 105) _ = _
                simp only [Act.put, List.setIfInBounds_toArray, List.set_cons_zero, List.set_cons_succ, i64_w, i32_w]
                rfl
              exact norm_ (by simp only [putAll, Act.put, List.setIfInBounds_toArray, List.set_cons_zero, List.set_cons_succ]) (hCont (gA, hA, capA, gB) _ ⟨LH.out, LB.out, B13.out⟩)
          rintro ⟨gA, hA, capA, gB⟩ wz ⟨hL_, hB_, h13_⟩
          have LH := Aside0.mk hL_
          have LB := Aside0.mk hB_
          have B13 := Aside0.mk h13_
          clear hL_ hB_ h13_
          refine norm_ (a' := ?_) ?_ ?_
          rotate_left
          · simp only [putAll, Act.put, List.setIfInBounds_toArray, List.set_cons_zero, List.set_cons_succ]
            rfl
          refine last_ (i := 7) (N := some 109) #[true, true, true, true, true, true, true, true, false, false] rfl rfl (by kernel_rfl) (by decide) (fun K hK => ?_)
          obtain ⟨i0, hi0, hz0, hs0, hb0⟩ := info_vec
          refine step_append_lies _ rfl (.tmp 106) (.tmp 108) 54 rfl W.heap.size tV i0 _ 2 16 Try.underlying54 hi0 hz0 hs0 hb0 rfl (by decide) (u7) ats.length (flat2 ats) rfl LH.out.la ⟨gB, 0, none⟩ 1 1 [.int .i64 sx, .int .i64 sy] rfl rfl (by simpa using World.news_of_block LB.out) (by simp [Value.oneCell']) (by decide) (by have := LT.out; have := LL.out; unfold maxLen; omega) (by have := LT.out; have := LL.out; omega) LH.out.rw.bel.size _ rfl ?_
          intro hB capB wb hown hgr hat hlt
          have B13 := Aside0.mk (blk_grown B13.out hgr (fun e => OFF3.out.na e.symm))
          have LH := Aside0.mk (LH.out.appa sx sy hown hgr)
          clear hown hgr hat hlt i0 hi0 hz0 hs0 hb0 LB
          refine hK.out _ _ ?_
          clear hK K
          refine norm_ (a' := ?_) ?_ ?_
          rotate_left
          · show Act.put _ (some 109) _ = _
            simp only [Act.put, List.setIfInBounds_toArray, List.set_cons_zero, List.set_cons_succ, i64_w, i32_w]
            rfl
          refine pure_ (i := 8) (N := some 6) (v := ?_) (a' := ?_) #[true, true, true, true, true, true, true, true, true, false] rfl rfl (by kernel_rfl) (fun _ _ _ h => h) (Or.inl ⟨by rfl, ?_⟩) ?_ ?_
          rotate_left
          · intro w'
            go_simp
            with_reducible rfl
          rotate_left
          · simp only [Act.put, List.setIfInBounds_toArray, List.set_cons_zero, List.set_cons_succ, i64_w, i32_w]
            rfl
          refine pure_ (i := 9) (N := some 7) (v := ?_) (a' := ?_) #[true, true, true, true, true, true, true, true, true, true] rfl rfl (by kernel_rfl) (fun _ _ _ h => h) (Or.inl ⟨by rfl, ?_⟩) ?_ ?_
          rotate_left
          · intro w'
            go_simp
            with_reducible rfl
          rotate_left
          · simp only [Act.put, List.setIfInBounds_toArray, List.set_cons_zero, List.set_cons_succ, i64_w, i32_w]
            rfl
          refine done_ (by kernel_rfl) ?_

          clear OFF OFF3
          go_upto_region 21 with (first | ((with_reducible refine gate_dst (N := 113) rfl ?_); (with_reducible refine gate_callee (f := 32) rfl ?_); refine goesL_ (some 113) rfl rfl Try.func32 (by kernel_rfl) rfl #[.pointer (some ⟨g, 0, none⟩), .int .i64 (up.length : Int)] rfl (by (try simp only [List.map_toArray, List.map_cons, List.map_nil]); first | done | rfl) ?_; (refine (At_ls LH.out ka up.length (pp sx sy) s' (by simp) (by simp [LL.out.1]) (by simp [LL.out.2.1]) (by simp [LL.out.2.2.1]) HF.out).mono ?_); rintro e wt ⟨rfl, q0, q1, q2, q3, hL, hsz, hF⟩; refine ⟨_, rfl, ?_⟩; have B13 := Aside0.mk (hF g13 _ _ B13.out (by decide) (by decide) (by decide)); have LH := Aside0.mk hL; clear hL hsz hF) | ((with_reducible refine gate_dst (N := 14) rfl ?_); refine box_event ?hg (N := 14) ?hd (cs := #[.int .i64 0, .int .i64 0, .int .i64 0, .int .i64 0]) (t := tP) ?hr ?_; (case hd => rfl); (case hg => rfl); (case hr => first | (go_simp; done) | (go_simp; rfl)); intro g14 hg wu hbox hb; have HE := Aside0.mk hb; have GE := Aside0.mk (Nat.le_of_eq hg.symm); have B14 := Aside0.mk hbox; clear hg hbox hb; have cz0 := (blk_cell B14.out 0).trans rfl; have fz0 := blk_frozen B14.out 0; have cz1 := (blk_cell B14.out 1).trans rfl; have fz1 := blk_frozen B14.out 1; have cz2 := (blk_cell B14.out 2).trans rfl; have fz2 := blk_frozen B14.out 2; have cz3 := (blk_cell B14.out 3).trans rfl; have fz3 := blk_frozen B14.out 3))
          have HE := Aside0.mk (show Below wt.heap.size wt ((((wu.setCell ⟨g14, 0, none⟩ (.int .i64 (pp sx sy).x)).setCell ⟨g14, 1, none⟩ (.int .i64 (pp sx sy).y)).setCell ⟨g14, 2, none⟩ (.int .i64 (pp sx sy).a)).setCell ⟨g14, 3, none⟩ (.int .i64 (pp sx sy).s)) from below_set (below_set (below_set (below_set (HE.out) GE.out) GE.out) GE.out) GE.out)
          have LH := Aside0.mk (LH.out.below HE.out)
          have B13 := Aside0.mk (blk_below B13.out HE.out)
          have B14 := Aside0.mk (blk_put (blk_put (blk_put (blk_put (B14.out) 0 (.int .i64 (pp sx sy).x) rfl) 1 (.int .i64 (pp sx sy).y) rfl) 2 (.int .i64 (pp sx sy).a) rfl) 3 (.int .i64 (pp sx sy).s) rfl)
          clear HE GE cz0 fz0 cz1 fz1 cz2 fz2 cz3 fz3
          generalize ((((wu.setCell ⟨g14, 0, none⟩ (.int .i64 (pp sx sy).x)).setCell ⟨g14, 1, none⟩ (.int .i64 (pp sx sy).y)).setCell ⟨g14, 2, none⟩ (.int .i64 (pp sx sy).a)).setCell ⟨g14, 3, none⟩ (.int .i64 (pp sx sy).s)) = wv at LH B13 B14 ⊢
          have B14 := Aside0.mk (show wv.heap[g14]? = some (.cells #[.int .i64 sx, .int .i64 sy, .int .i64 0, .int .i64 65536] tP (0, 0)) from B14.out)
          obtain ⟨z0, z1, z2, z3⟩ := four B14.out
          have y0 := (blk_cell B13.out 0).trans rfl
          have y1 := (blk_cell B13.out 1).trans rfl
          go_wp2
          go_roundg kz
          case measure => have := HI.out; omega
          case rel => exact ⟨i + 1, _, _, _, _, _, _, _, _, _, _, _, congrArg (Value.int .i64) HW.out, ⟨by have := HI.out; omega⟩, PN, ⟨by have h := LH.out; rw [← UN.out] at h; exact h⟩⟩
    | zero =>
      obtain rfl : i = m := by have := HI.out; omega
      obtain ⟨Au, cu, rfl⟩ := own_slice LH.out.rw.r0
      obtain ⟨Aw, cw, rfl⟩ := own_slice LH.out.lu
      have e0 : wr.cell? ⟨g, 0, none⟩ = some (.slice Au up.length cu) := (blk_cell LH.out.box 0).trans rfl
      have i1 : decide ((i : Int) < (i : Int)) = false := decide_eq_false (by omega)
      go_wp2_with (first | ((with_reducible refine gate_dst (N := 138) rfl ?_); (with_reducible refine gate_callee (f := 33) rfl ?_); refine goesL_ (some 138) rfl rfl Try.func33 (by kernel_rfl) rfl #[.pointer (some ⟨g, 0, none⟩)] rfl (by (try simp only [List.map_toArray, List.map_cons, List.map_nil]); first | done | rfl) ?_; (refine (Size_in _ g _ cu Au e0).mono ?_); rintro e wx ⟨rfl, rfl⟩; refine ⟨_, rfl, ?_⟩; clear e0))
      go_ret
      exact ⟨rfl, LH.out.rw.bel⟩
theorem walk_ok (A0 : Option Addr) (c0 : Nat) (l0 : List Int) {W : World} (hr0 : Kd.C (Kd.int .i64) W A0 l0.length l0) (hc0 : l0.length ≤ c0) {p q : Prop} (ok0 : l0.length ≤ 9223372036854775807 ∧ p) (A1 : Option Addr) (c1 : Nat) (l1 : List Int) (hr1 : Kd.C (Kd.int .i64) W A1 l1.length l1) (hc1 : l1.length ≤ c1) (ok1 : l1.length ≤ 9223372036854775807 ∧ q) :
    Calls Try.prog 8 #[.slice A0 l0.length c0, .slice A1 l1.length c1] W fun e w' => e = .returned (.bool true) ∧ Below W.heap.size W w' :=
  walk A0 c0 l0 hr0 hc0 ok0.1 A1 c1 l1 hr1 hc1 ok1.1
end Go.Proofs.Ytdopeneehminaaa.GraphPlainWalkGraphPlain
