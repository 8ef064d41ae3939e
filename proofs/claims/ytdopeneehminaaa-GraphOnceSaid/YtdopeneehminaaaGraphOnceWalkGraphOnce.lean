/- The walk of the law GraphOnce. Under no condition but what stands at it. -/
import Derived.Test.YtdopeneehminaaaGraphOnceLawGraphOnce
import Derived.Outline
namespace Go.Proofs.Ytdopeneehminaaa.GraphOnceWalkGraphOnce
open Go Go.RowKit Go.Proofs.YtdopeneehminaaaW.PrintWords Go.Proofs.YtdopeneehminaaaW.PrintLast Go.Proofs.YtdopeneehminaaaW.PrintMore Go.Proofs.Ytdopeneehminaaa.Fnv Go.Proofs.Ytdopeneehminaaa.PGraphOnce Go.Proofs.Ytdopeneehminaaa.GraphMemGraphOnce Go.Proofs.Ytdopeneehminaaa.GraphAtGraphOnce Go.Proofs.Ytdopeneehminaaa.GraphSetGraphOnce Go.Proofs.Ytdopeneehminaaa.GraphAddGraphOnce Go.Proofs.Ytdopeneehminaaa.NumGraphOnce Go.Proofs.Ytdopeneehminaaa.GraphWiGraphOnce Go.Proofs.Ytdopeneehminaaa.GraphRunsGraphOnce Go.Proofs.Ytdopeneehminaaa.GraphNewGraphOnce Go.Proofs.Ytdopeneehminaaa.GraphOnceLawGraphOnce
attribute [local go_sem] max2_int min2_int
set_option linter.unusedVariables false
set_option linter.unusedSimpArgs false
abbrev IntsOk (l : List Int) : Prop := l.length ≤ 9223372036854775807 ∧ ∀ x ∈ l, (Lit.int .i64 x).wf = true
set_option maxHeartbeats 16000000 in
set_option maxRecDepth 100000 in
theorem walk (A0 : Option Addr) (c0 : Nat) (l0 : List Int) {W : World} (hr0 : Kd.C (Kd.int .i64) W A0 l0.length l0) (hc0 : l0.length ≤ c0) (ok0 : l0.length ≤ 9223372036854775807) (A1 : Option Addr) (c1 : Nat) (l1 : List S52) (hr1 : Kd.C k52 W A1 l1.length l1) (hc1 : l1.length ≤ c1) (ok1 : l1.length ≤ 9223372036854775807) (a2 : Int) :
    Calls Try.prog 9 #[.slice A0 l0.length c0, .slice A1 l1.length c1, .int .i64 a2] W fun e w' => e = .returned (.bool true) ∧ Below W.heap.size W w' := by
  have hu80 := Try.underlying80
  have hu52 := Try.underlying52
  have hu27 := Try.underlying27
  obtain ⟨m, hm⟩ : ∃ m : Nat, min (l0.length : Int) 20 = (m : Int) := ⟨min l0.length 20, by omega⟩
  have hm0 : (m : Int) ≤ l0.length ∧ m ≤ 20 := by omega
  obtain ⟨i03, hi03, _⟩ := info_int
  have hcut4 := cut_to (P := Try.prog) 48 3 .i64 Try.underlying48 hi03 A0 l0.length c0 (m : Int) (by omega) hm0.1 hc0
  rw [Int.toNat_natCast] at hcut4
  have HM := Aside0.mk hm0
  have HR0 := Aside0.mk hr0
  have HR1 := Aside0.mk hr1
  clear hi03 hm0 hr0 hr1 hc0 hc1
  go_enter Try.func9, Try.ntmps9
  go_wp2_with (first | ((with_reducible refine gate_dst (N := 19) rfl ?_); (with_reducible refine gate_callee (f := 29) rfl ?_); refine goesL_ (some 19) rfl rfl Try.func29 (by kernel_rfl) rfl #[] rfl (by (try simp only [List.map_toArray, List.map_cons, List.map_nil]); first | done | rfl) ?_; (refine (New_in W).mono ?_); rintro e w1 ⟨g, rfl, hB, hg, hb⟩; refine ⟨_, rfl, ?_⟩; have BH := Aside0.mk hB; have HG := Aside0.mk hg; have RH := Aside0.mk (RW.nil W w1 hb); clear hB hg hb))
  have L1 := Aside0.mk ok1
  have HMM := Aside0.mk hm
  clear ok0 ok1 hm hcut4
  go_loopg [28] m (fun kq v28 wr => ∃ (i : Nat) (v0 v1 v2 v3 : Value) (up : List Int) (own : List Pl) (kn : List Bool) (wh : List Pl), v28 = .int .i64 (i : Int) ∧ Aside0 (i + kq = m) ∧ Aside0 (Growing i up own kn wh) ∧ Aside0 (wr.heap[g]? = some (.cells #[v0, v1, v2, v3, .int .i64 0] tG (0, 0))) ∧ Aside0 (RW W v0 v1 v2 v3 wr up own kn wh))
  case atStart => exact ⟨0, _, _, _, _, _, _, _, _, rfl, ⟨by omega⟩, ⟨Growing.nil⟩, BH, RH⟩
  case round =>
    clear BH RH
    obtain ⟨i, v0, v1, v2, v3, up, own, kn, wh, rfl, HI, GR, BH, RH⟩ := hrel
    cases gk with
    | succ kz =>
      have hi : i < m := by have := HI.out; omega
      have i0 : ((0 : Int) ≤ (i : Int)) = True := eq_true (by omega)
      have i1 : decide ((i : Int) < (m : Int)) = true := decide_eq_true (by omega)
      have i2 : ((i : Int) < (m : Int)) = True := eq_true (by omega)
      have i3 : (i < m) = True := eq_true hi
      obtain ⟨ad, rfl, hc⟩ := Kd.at_int HR0.out (i : Int) (by omega) (by have := HM.out; omega)
      have hc0 := pw_cell_below RH.out.bel hc
      obtain ⟨u, hu⟩ : ∃ u, rd l0 (i : Int) = u := ⟨_, rfl⟩
      rw [hu, Int.toNat_natCast] at hc0
      have HI2 := Aside0.mk hi
      clear hc hu hi
      go_upto_region 8 with (first | ((with_reducible refine gate_dst (N := 10) rfl ?_); refine box_event ?hg (N := 10) ?hd (cs := #[.int .i64 0, .int .i64 0, .int .i64 0, .int .i64 0]) (t := tP) ?hr ?_; (case hd => rfl); (case hg => rfl); (case hr => first | (go_simp; done) | (go_simp; rfl)); intro g10 hg wa hbox hb; have HE := Aside0.mk hb; have GE := Aside0.mk (Nat.le_of_eq hg.symm); have B10 := Aside0.mk hbox; clear hg hbox hb; have cz0 := (blk_cell B10.out 0).trans rfl; have fz0 := blk_frozen B10.out 0; have cz1 := (blk_cell B10.out 1).trans rfl; have fz1 := blk_frozen B10.out 1; have cz2 := (blk_cell B10.out 2).trans rfl; have fz2 := blk_frozen B10.out 2; have cz3 := (blk_cell B10.out 3).trans rfl; have fz3 := blk_frozen B10.out 3))
      have OFF := Aside0.mk (RW.away RH.out GE.out)
      have NG := Aside0.mk (show g ≠ g10 from Nat.ne_of_lt (Nat.lt_of_lt_of_le (blk_lt BH.out) GE.out))
      have HE := Aside0.mk (show Below wr.heap.size wr ((((wa.setCell ⟨g10, 0, none⟩ (.int .i64 0)).setCell ⟨g10, 1, none⟩ (.int .i64 0)).setCell ⟨g10, 2, none⟩ (.int .i64 0)).setCell ⟨g10, 3, none⟩ (.int .i64 65536)) from below_set (below_set (below_set (below_set HE.out GE.out) GE.out) GE.out) GE.out)
      have BH := Aside0.mk (blk_below BH.out HE.out)
      have RH := Aside0.mk (RH.out.below HE.out)
      have B10 := Aside0.mk (GraphAtGraphOnce.put4 B10.out (.int .i64 0) (.int .i64 0) (.int .i64 0) (.int .i64 65536))
      clear HE GE cz0 fz0 cz1 fz1 cz2 fz2 cz3 fz3
      generalize ((((wa.setCell ⟨g10, 0, none⟩ (.int .i64 0)).setCell ⟨g10, 1, none⟩ (.int .i64 0)).setCell ⟨g10, 2, none⟩ (.int .i64 0)).setCell ⟨g10, 3, none⟩ (.int .i64 65536)) = wb at BH RH B10 ⊢
      obtain ⟨bp, hbp⟩ : ∃ b, decide (0 < l1.length) = b := ⟨_, rfl⟩
      cases bp with
      | true =>
        have hpos : 0 < l1.length := of_decide_eq_true hbp
        obtain ⟨j, hj⟩ : ∃ j : Int, Int.tmod (i : Int) (l1.length : Int) = j := ⟨_, rfl⟩
        have j0 : 0 ≤ j := by rw [← hj]; exact Int.tmod_nonneg _ (by omega)
        have j1 : j < l1.length := by rw [← hj]; exact Int.tmod_lt_of_pos _ (by omega)
        obtain ⟨ap, rfl, p0, p1, p2, p3⟩ := at_T52 HR1.out j j0 j1
        obtain ⟨q, hq⟩ : ∃ q : Pl, plS (rd_T52 l1 j) = q := ⟨_, rfl⟩
        have x0 : (rd_T52 l1 j).f0.f0 = q.x := by rw [← hq]; rfl
        have x1 : (rd_T52 l1 j).f0.f1 = q.y := by rw [← hq]; rfl
        have x2 : (rd_T52 l1 j).f1 = q.a := by rw [← hq]; rfl
        have x3 : (rd_T52 l1 j).f2 = q.s := by rw [← hq]; rfl
        rw [x0] at p0
        rw [x1] at p1
        rw [x2] at p2
        rw [x3] at p3
        replace p0 := pw_cell_below RH.out.bel p0
        replace p1 := pw_cell_below RH.out.bel p1
        replace p2 := pw_cell_below RH.out.bel p2
        replace p3 := pw_cell_below RH.out.bel p3
        have z0 : ((l1.length : Int) = 0) = False := eq_false (by omega)
        have z1 : ((l1.length : Int) == 0) = false := beq_eq_false_iff_ne.mpr (by omega)
        have z2 : (l1.length = 0) = False := eq_false (by omega)
        have i4 : (0 ≤ j) = True := eq_true j0
        have i5 : (j < (l1.length : Int)) = True := eq_true j1
        clear x0 x1 x2 x3 hq hpos j0 j1 hc0 i0 i1 i2 i3
        go_upto_region 10 with (first | ((with_reducible refine gate_dst (N := 11) rfl ?_); refine box_event ?hg (N := 11) ?hd (cs := #[.int .i64 0, .int .i64 0, .int .i64 0, .int .i64 0]) (t := tP) ?hr ?_; (case hd => rfl); (case hg => rfl); (case hr => first | (go_simp; done) | (go_simp; rfl)); intro g11 hg wc hbox hb; have HE := Aside0.mk hb; have GE := Aside0.mk (Nat.le_of_eq hg.symm); have B11 := Aside0.mk hbox; clear hg hbox hb p0 p1 p2 p3; have cz0 := (blk_cell B11.out 0).trans rfl; have fz0 := blk_frozen B11.out 0; have cz1 := (blk_cell B11.out 1).trans rfl; have fz1 := blk_frozen B11.out 1; have cz2 := (blk_cell B11.out 2).trans rfl; have fz2 := blk_frozen B11.out 2; have cz3 := (blk_cell B11.out 3).trans rfl; have fz3 := blk_frozen B11.out 3))
        have NEG := Aside0.mk (show g10 ≠ g11 from Nat.ne_of_lt (Nat.lt_of_lt_of_le (blk_lt B10.out) GE.out))
        have HE := Aside0.mk (show Below wb.heap.size wb ((((wc.setCell ⟨g11, 0, none⟩ (.int .i64 q.x)).setCell ⟨g11, 1, none⟩ (.int .i64 q.y)).setCell ⟨g11, 2, none⟩ (.int .i64 q.a)).setCell ⟨g11, 3, none⟩ (.int .i64 q.s)) from below_set (below_set (below_set (below_set HE.out GE.out) GE.out) GE.out) GE.out)
        have BH := Aside0.mk (blk_below BH.out HE.out)
        have RH := Aside0.mk (RH.out.below HE.out)
        have B10 := Aside0.mk (blk_below B10.out HE.out)
        have B11 := Aside0.mk (GraphAtGraphOnce.put4 B11.out (.int .i64 q.x) (.int .i64 q.y) (.int .i64 q.a) (.int .i64 q.s))
        clear HE GE cz0 fz0 cz1 fz1 cz2 fz2 cz3 fz3
        generalize ((((wc.setCell ⟨g11, 0, none⟩ (.int .i64 q.x)).setCell ⟨g11, 1, none⟩ (.int .i64 q.y)).setCell ⟨g11, 2, none⟩ (.int .i64 q.a)).setCell ⟨g11, 3, none⟩ (.int .i64 q.s)) = wd at BH RH B10 B11 ⊢
        obtain ⟨bx, hbx⟩ : ∃ b, belowV q.x 99 = b := ⟨_, rfl⟩
        obtain ⟨by_, hby⟩ : ∃ b, belowV q.y 99 = b := ⟨_, rfl⟩
        have FX := Aside0.mk (below_f q.x 99 (by decide))
        have FY := Aside0.mk (below_f q.y 99 (by decide))
        have HX := Aside0.mk (belowV_range q.x 99 (by decide) (by decide))
        have HY := Aside0.mk (belowV_range q.y 99 (by decide) (by decide))
        rw [hbx] at FX HX
        rw [hby] at FY HY
        clear hbx hby
        have BH := Aside0.mk (blk_drew BH.out)
        have RH := Aside0.mk (RH.out.below (Below.refl _ _).drew)
        have B10 := Aside0.mk (blk_drew B10.out)
        have B11 := Aside0.mk (blk_drew B11.out)
        refine start_ (n := 15) (S := fun w' => w'.cell? ⟨g11, 0, none⟩ = some (.int .i64 q.x) ∧ w'.cell? ⟨g11, 1, none⟩ = some (.int .i64 q.y) ∧ w'.cell? ⟨g11, 2, none⟩ = some (.int .i64 q.a)) (ds := []) #[false, false, false, false, false, false, false, false, false, false, false, false, false, false, false] (by kernel_rfl) rfl rfl ⟨(blk_cell B11.out 0).trans rfl, (blk_cell B11.out 1).trans rfl, (blk_cell B11.out 2).trans rfl⟩ (fun hHeld => ?_)
        generalize wd.drew = wd2 at BH RH B10 B11 hHeld ⊢
        refine pure_ (i := 0) (N := some 44) (v := ?_) (a' := ?_) #[true, false, false, false, false, false, false, false, false, false, false, false, false, false, false] rfl rfl (by kernel_rfl) (fun _ _ _ h => h) (Or.inl ⟨by rfl, ?_⟩) ?_ ?_
        rotate_left
        · intro w'
          go_simp
          with_reducible rfl
        rotate_left
        · simp only [Act.put, List.setIfInBounds_toArray, List.set_cons_zero, List.set_cons_succ, i64_w, i32_w]
          rfl
        refine pure_ (i := 1) (N := some 45) (v := ?_) (a' := ?_) #[true, true, false, false, false, false, false, false, false, false, false, false, false, false, false] rfl rfl (by kernel_rfl) (fun _ _ _ h => h) (Or.inl ⟨by rfl, ?_⟩) ?_ ?_
        rotate_left
        · intro w'
          go_simp
          with_reducible rfl
        rotate_left
        · simp only [Act.put, List.setIfInBounds_toArray, List.set_cons_zero, List.set_cons_succ, i64_w, i32_w]
          rfl
        refine pure_ (i := 4) (N := some 48) (v := ?_) (a' := ?_) #[true, true, false, false, true, false, false, false, false, false, false, false, false, false, false] rfl rfl (by kernel_rfl) (fun _ _ _ h => h) (Or.inl ⟨by rfl, ?_⟩) ?_ ?_
        rotate_left
        · intro w'
          go_simp
          with_reducible rfl
        rotate_left
        · simp only [Act.put, List.setIfInBounds_toArray, List.set_cons_zero, List.set_cons_succ, i64_w, i32_w]
          rfl
        refine pure_ (i := 5) (N := some 49) (v := ?_) (a' := ?_) #[true, true, false, false, true, true, false, false, false, false, false, false, false, false, false] rfl rfl (by kernel_rfl) (fun _ _ _ h => h) (Or.inl ⟨by rfl, ?_⟩) ?_ ?_
        rotate_left
        · intro w'
          go_simp
          with_reducible rfl
        rotate_left
        · simp only [Act.put, List.setIfInBounds_toArray, List.set_cons_zero, List.set_cons_succ, i64_w, i32_w]
          rfl
        refine pure_ (i := 9) (N := some 53) (v := ?_) (a' := ?_) #[true, true, false, false, true, true, false, false, false, true, false, false, false, false, false] rfl rfl (by kernel_rfl) (fun _ _ _ h => h) (Or.inl ⟨by rfl, ?_⟩) ?_ ?_
        rotate_left
        · intro w'
          go_simp
          with_reducible rfl
        rotate_left
        · simp only [Act.put, List.setIfInBounds_toArray, List.set_cons_zero, List.set_cons_succ, i64_w, i32_w]
          rfl
        refine take_ (i := 2) (N := some 46) (v := ?_) (a' := ?_) #[true, true, true, false, true, true, false, false, false, true, false, false, false, false, false] rfl rfl (by kernel_rfl) (fun _ _ _ h => h) (Or.inl ⟨by rfl, ?_⟩) hHeld ?_ ?_
        rotate_left
        · rintro w' ⟨s0, s1, s2⟩
          go_simp
          with_reducible rfl
        rotate_left
        · simp only [Act.put, List.setIfInBounds_toArray, List.set_cons_zero, List.set_cons_succ, i64_w, i32_w]
          rfl
        refine take_ (i := 6) (N := some 50) (v := ?_) (a' := ?_) #[true, true, true, false, true, true, true, false, false, true, false, false, false, false, false] rfl rfl (by kernel_rfl) (fun _ _ _ h => h) (Or.inl ⟨by rfl, ?_⟩) hHeld ?_ ?_
        rotate_left
        · rintro w' ⟨s0, s1, s2⟩
          go_simp
          with_reducible rfl
        rotate_left
        · simp only [Act.put, List.setIfInBounds_toArray, List.set_cons_zero, List.set_cons_succ, i64_w, i32_w]
          rfl
        refine take_ (i := 10) (N := some 54) (v := ?_) (a' := ?_) #[true, true, true, false, true, true, true, false, false, true, true, false, false, false, false] rfl rfl (by kernel_rfl) (fun _ _ _ h => h) (Or.inl ⟨by rfl, ?_⟩) hHeld ?_ ?_
        rotate_left
        · rintro w' ⟨s0, s1, s2⟩
          go_simp
          with_reducible rfl
        rotate_left
        · simp only [Act.put, List.setIfInBounds_toArray, List.set_cons_zero, List.set_cons_succ, i64_w, i32_w]
          rfl
        refine one_ (i := 3) (N := some 47) #[true, true, true, true, true, true, true, false, false, true, true, false, false, false, false] rfl rfl (by kernel_rfl) (by decide) (fun K hK => ?_)
        refine goes_ Try.func28 (by kernel_rfl) rfl #[.int .i64 q.x, .int .i64 99] (by rfl) rfl rfl (by simp only [List.map_toArray, List.map_cons, List.map_nil]; rfl) ?_
        with_reducible refine (tourref5_Below.calls q.x 99 bx _ FX.out).mono ?_
        rintro e we ⟨rfl, hb0⟩
        refine ⟨_, rfl, ?_⟩
        have hb := hb0.below
        have BH := Aside0.mk (blk_below BH.out hb)
        have RH := Aside0.mk (RH.out.below hb)
        have B10 := Aside0.mk (blk_below B10.out hb)
        have B11 := Aside0.mk (blk_below B11.out hb)
        clear hb hb0
        refine hK.out _ _ ⟨(blk_cell B11.out 0).trans rfl, (blk_cell B11.out 1).trans rfl, (blk_cell B11.out 2).trans rfl⟩ (fun hHeld => ?_)
        clear hK K
        refine norm_ (a' := ?_) ?_ ?_
        rotate_left
        · show Act.put _ (some 47) _ = _
          simp only [Act.put, List.setIfInBounds_toArray, List.set_cons_zero, List.set_cons_succ, i64_w, i32_w]
          rfl
        refine one_ (i := 7) (N := some 51) #[true, true, true, true, true, true, true, true, false, true, true, false, false, false, false] rfl rfl (by kernel_rfl) (by decide) (fun K hK => ?_)
        refine goes_ Try.func28 (by kernel_rfl) rfl #[.int .i64 q.y, .int .i64 99] (by rfl) rfl rfl (by simp only [List.map_toArray, List.map_cons, List.map_nil]; rfl) ?_
        with_reducible refine (tourref5_Below.calls q.y 99 by_ _ FY.out).mono ?_
        rintro e wf ⟨rfl, hb0⟩
        refine ⟨_, rfl, ?_⟩
        have hb := hb0.below
        have BH := Aside0.mk (blk_below BH.out hb)
        have RH := Aside0.mk (RH.out.below hb)
        have B10 := Aside0.mk (blk_below B10.out hb)
        have B11 := Aside0.mk (blk_below B11.out hb)
        clear hb hb0
        refine hK.out _ _ ⟨(blk_cell B11.out 0).trans rfl, (blk_cell B11.out 1).trans rfl, (blk_cell B11.out 2).trans rfl⟩ (fun hHeld => ?_)
        clear hK K
        refine norm_ (a' := ?_) ?_ ?_
        rotate_left
        · show Act.put _ (some 51) _ = _
          simp only [Act.put, List.setIfInBounds_toArray, List.set_cons_zero, List.set_cons_succ, i64_w, i32_w]
          rfl
        refine pure_ (i := 8) (N := some 52) (v := ?_) (a' := ?_) #[true, true, true, true, true, true, true, true, true, true, true, false, false, false, false] rfl rfl (by kernel_rfl) (fun _ _ _ h => h) (Or.inl ⟨by rfl, ?_⟩) ?_ ?_
        rotate_left
        · intro w'
          go_simp
          with_reducible rfl
        rotate_left
        · simp only [Act.put, List.setIfInBounds_toArray, List.set_cons_zero, List.set_cons_succ, i64_w, i32_w]
          rfl
        refine pure_ (i := 11) (N := some 55) (v := ?_) (a' := ?_) #[true, true, true, true, true, true, true, true, true, true, true, true, false, false, false] rfl rfl (by kernel_rfl) (fun _ _ _ h => h) (Or.inl ⟨by rfl, ?_⟩) ?_ ?_
        rotate_left
        · intro w'
          go_simp
          with_reducible rfl
        rotate_left
        · simp only [Act.put, List.setIfInBounds_toArray, List.set_cons_zero, List.set_cons_succ, i64_w, i32_w]
          rfl
        refine one_ (i := 12) (N := none) #[true, true, true, true, true, true, true, true, true, true, true, true, true, false, false] rfl rfl (by kernel_rfl) (by decide) (fun K hK => ?_)
        have cz0 := (blk_cell B10.out 0).trans rfl
        have fz0 := blk_frozen B10.out 0
        have cz1 := (blk_cell B10.out 1).trans rfl
        have fz1 := blk_frozen B10.out 1
        refine skip_ (w1 := ?_) (by rfl) rfl ?_ ?_
        rotate_left
        · go_simp
          rfl
        clear cz0 fz0 cz1 fz1
        have NE := Aside0.mk (show g10 ≠ g11 from NEG.out)
        have BH := Aside0.mk (blk_far (p := ⟨g10, 0, none⟩) BH.out NG.out (.int .i64 bx))
        have RH := Aside0.mk (RW.off RH.out OFF.out 0 (.int .i64 bx))
        have B11 := Aside0.mk (blk_far (p := ⟨g10, 0, none⟩) B11.out NE.out.symm (.int .i64 bx))
        have B10 := Aside0.mk (blk_put B10.out 0 (.int .i64 bx) rfl)
        have NE := Aside0.mk (show g10 ≠ g11 from NEG.out)
        have BH := Aside0.mk (blk_far (p := ⟨g10, 1, none⟩) BH.out NG.out (.int .i64 by_))
        have RH := Aside0.mk (RW.off RH.out OFF.out 1 (.int .i64 by_))
        have B11 := Aside0.mk (blk_far (p := ⟨g10, 1, none⟩) B11.out NE.out.symm (.int .i64 by_))
        have B10 := Aside0.mk (blk_put B10.out 1 (.int .i64 by_) rfl)
        refine hK.out _ _ ⟨(blk_cell B11.out 0).trans rfl, (blk_cell B11.out 1).trans rfl, (blk_cell B11.out 2).trans rfl⟩ (fun hHeld => ?_)
        clear hK K
        refine pure_ (i := 13) (N := some 56) (v := ?_) (a' := ?_) #[true, true, true, true, true, true, true, true, true, true, true, true, true, true, false] rfl rfl (by kernel_rfl) (fun _ _ _ h => h) (Or.inl ⟨by rfl, ?_⟩) ?_ ?_
        rotate_left
        · intro w'
          go_simp
          with_reducible rfl
        rotate_left
        · simp only [Act.put, List.setIfInBounds_toArray, List.set_cons_zero, List.set_cons_succ, i64_w, i32_w]
          rfl
        refine one_ (i := 14) (N := none) #[true, true, true, true, true, true, true, true, true, true, true, true, true, true, true] rfl rfl (by kernel_rfl) (by decide) (fun K hK => ?_)
        have cz2 := (blk_cell B10.out 2).trans rfl
        have fz2 := blk_frozen B10.out 2
        refine skip_ (w1 := ?_) (by rfl) rfl ?_ ?_
        rotate_left
        · go_simp
          rfl
        clear cz2 fz2
        have NE := Aside0.mk (show g10 ≠ g11 from NEG.out)
        have BH := Aside0.mk (blk_far (p := ⟨g10, 2, none⟩) BH.out NG.out (.int .i64 q.a))
        have RH := Aside0.mk (RW.off RH.out OFF.out 2 (.int .i64 q.a))
        have B11 := Aside0.mk (blk_far (p := ⟨g10, 2, none⟩) B11.out NE.out.symm (.int .i64 q.a))
        have B10 := Aside0.mk (blk_put B10.out 2 (.int .i64 q.a) rfl)
        refine hK.out _ _ ⟨(blk_cell B11.out 0).trans rfl, (blk_cell B11.out 1).trans rfl, (blk_cell B11.out 2).trans rfl⟩ (fun hHeld => ?_)
        clear hK K
        refine done_ (by kernel_rfl) ?_

        have B10 := Aside0.mk (show (((wf.setCell ⟨g10, 0, none⟩ (.int .i64 bx)).setCell ⟨g10, 1, none⟩ (.int .i64 by_)).setCell ⟨g10, 2, none⟩ (.int .i64 q.a)).heap[g10]? = some (.cells #[.int .i64 bx, .int .i64 by_, .int .i64 q.a, .int .i64 65536] tP (0, 0)) from B10.out)
        clear B11
        generalize (((wf.setCell ⟨g10, 0, none⟩ (.int .i64 bx)).setCell ⟨g10, 1, none⟩ (.int .i64 by_)).setCell ⟨g10, 2, none⟩ (.int .i64 q.a)) = w10 at BH RH B10 ⊢
        have P := Aside0.mk (show fitsV ⟨bx, by_, q.a, 65536⟩ = true from by
          have h1 := HX.out; have h2 := HY.out
          unfold fitsV; simp; omega)
        obtain ⟨p, hp⟩ : ∃ p : Pl, (⟨bx, by_, q.a, 65536⟩ : Pl) = p := ⟨_, rfl⟩
        rw [hp] at P
        have B10 := Aside0.mk (show w10.heap[g10]? = some (.cells #[.int .i64 p.x, .int .i64 p.y, .int .i64 p.a, .int .i64 p.s] tP (0, 0)) from by rw [← hp]; exact B10.out)
        clear hp HX HY NEG FX FY
        go_upto_region 11 with fail
        have HW := Aside0.mk (show wrap64 ((i : Int) + 1) = (i : Int) + 1 from by unfold wrap64; have := HI2.out; have := HM.out; omega)
        obtain ⟨bu, hbu⟩ : ∃ b, belowV u ((i : Int) + 1) = b := ⟨_, rfl⟩
        have FU := Aside0.mk (below_f u ((i : Int) + 1) (by omega))
        have HU := belowV_range u ((i : Int) + 1) (by omega) (by have := HI2.out; have := HM.out; omega)
        rw [hbu] at FU HU
        rw [← HW.out] at FU
        have HB1 := Aside0.mk (show wrap64 (bu - 1) = bu - 1 from by unfold wrap64; have := HI2.out; have := HM.out; omega)
        have HE := Aside0.mk (show -1 ≤ wrap64 (bu - 1) ∧ wrap64 (bu - 1) < (i : Int) from by rw [HB1.out]; omega)
        have LT := Aside0.mk (show i < 100 from by have := HI2.out; have := HM.out; omega)
        clear hbu HU HB1
        have BH := Aside0.mk (blk_drew BH.out)
        have RH := Aside0.mk (RH.out.below (Below.refl _ _).drew)
        have B10 := Aside0.mk (blk_drew B10.out)
        refine start_ (n := 13) (S := fun w' => w'.cell? ⟨g10, 0, none⟩ = some (.int .i64 p.x) ∧ w'.cell? ⟨g10, 1, none⟩ = some (.int .i64 p.y) ∧ w'.cell? ⟨g10, 2, none⟩ = some (.int .i64 p.a) ∧ w'.cell? ⟨g10, 3, none⟩ = some (.int .i64 p.s)) (ds := [7]) #[false, false, false, false, false, false, false, false, false, false, false, false, false] (by kernel_rfl) rfl rfl ⟨(blk_cell B10.out 0).trans rfl, (blk_cell B10.out 1).trans rfl, (blk_cell B10.out 2).trans rfl, (blk_cell B10.out 3).trans rfl⟩ (fun hHeld => ?_)
        generalize w10.drew = wk at BH RH B10 hHeld ⊢
        refine pure_ (i := 0) (N := some 58) (v := ?_) (a' := ?_) #[true, false, false, false, false, false, false, false, false, false, false, false, false] rfl rfl (by kernel_rfl) (fun _ _ _ h => h) (Or.inl ⟨by rfl, ?_⟩) ?_ ?_
        rotate_left
        · intro w'
          go_simp
          with_reducible rfl
        rotate_left
        · simp only [Act.put, List.setIfInBounds_toArray, List.set_cons_zero, List.set_cons_succ, i64_w, i32_w]
          rfl
        refine pure_ (i := 1) (N := some 59) (v := ?_) (a' := ?_) #[true, true, false, false, false, false, false, false, false, false, false, false, false] rfl rfl (by kernel_rfl) (fun _ _ _ h => h) (Or.inl ⟨by rfl, ?_⟩) ?_ ?_
        rotate_left
        · intro w'
          go_simp
          with_reducible rfl
        rotate_left
        · simp only [Act.put, List.setIfInBounds_toArray, List.set_cons_zero, List.set_cons_succ, i64_w, i32_w]
          rfl
        refine pure_ (i := 2) (N := some 60) (v := ?_) (a' := ?_) #[true, true, true, false, false, false, false, false, false, false, false, false, false] rfl rfl (by kernel_rfl) (fun _ _ _ h => h) (Or.inl ⟨by rfl, ?_⟩) ?_ ?_
        rotate_left
        · intro w'
          go_simp
          with_reducible rfl
        rotate_left
        · simp only [Act.put, List.setIfInBounds_toArray, List.set_cons_zero, List.set_cons_succ, i64_w, i32_w]
          rfl
        refine pure_ (i := 3) (N := some 61) (v := ?_) (a' := ?_) #[true, true, true, true, false, false, false, false, false, false, false, false, false] rfl rfl (by kernel_rfl) (fun _ _ _ h => h) (Or.inl ⟨by rfl, ?_⟩) ?_ ?_
        rotate_left
        · intro w'
          go_simp
          with_reducible rfl
        rotate_left
        · simp only [Act.put, List.setIfInBounds_toArray, List.set_cons_zero, List.set_cons_succ, i64_w, i32_w]
          rfl
        refine take_ (i := 6) (N := some 64) (v := ?_) (a' := ?_) #[true, true, true, true, false, false, true, false, false, false, false, false, false] rfl rfl (by kernel_rfl) (fun _ _ _ h => h) (Or.inl ⟨by rfl, ?_⟩) hHeld ?_ ?_
        rotate_left
        · rintro w' ⟨s0, s1, s2, s3⟩
          go_simp
          with_reducible rfl
        rotate_left
        · simp only [Act.put, List.setIfInBounds_toArray, List.set_cons_zero, List.set_cons_succ, i64_w, i32_w]
          rfl
        refine one_ (i := 4) (N := some 62) #[true, true, true, true, true, false, true, false, false, false, false, false, false] rfl rfl (by kernel_rfl) (by decide) (fun K hK => ?_)
        refine goes_ Try.func28 (by kernel_rfl) rfl #[.int .i64 u, .int .i64 (wrap64 ((i : Int) + 1))] (by rfl) rfl rfl (by simp only [List.map_toArray, List.map_cons, List.map_nil]; rfl) ?_
        with_reducible refine (tourref5_Below.calls u (wrap64 ((i : Int) + 1)) bu _ FU.out).mono ?_
        rintro e wm ⟨rfl, hb0⟩
        refine ⟨_, rfl, ?_⟩
        have hb := hb0.below
        have BH := Aside0.mk (blk_below BH.out hb)
        have RH := Aside0.mk (RH.out.below hb)
        have B10 := Aside0.mk (blk_below B10.out hb)
        clear hb hb0
        refine hK.out _ _ ⟨(blk_cell B10.out 0).trans rfl, (blk_cell B10.out 1).trans rfl, (blk_cell B10.out 2).trans rfl, (blk_cell B10.out 3).trans rfl⟩ (fun hHeld => ?_)
        clear hK K
        refine norm_ (a' := ?_) ?_ ?_
        rotate_left
        · show Act.put _ (some 62) _ = _
          simp only [Act.put, List.setIfInBounds_toArray, List.set_cons_zero, List.set_cons_succ, i64_w, i32_w]
          rfl
        refine pure_ (i := 5) (N := some 63) (v := ?_) (a' := ?_) #[true, true, true, true, true, true, true, false, false, false, false, false, false] rfl rfl (by kernel_rfl) (fun _ _ _ h => h) (Or.inl ⟨by rfl, ?_⟩) ?_ ?_
        rotate_left
        · intro w'
          go_simp
          with_reducible rfl
        rotate_left
        · simp only [Act.put, List.setIfInBounds_toArray, List.set_cons_zero, List.set_cons_succ, i64_w, i32_w]
          rfl
        refine last_ (i := 7) (N := some 65) #[true, true, true, true, true, true, true, true, false, false, false, false, false] rfl rfl (by kernel_rfl) (by decide) (fun K hK => ?_)
        refine goes_ Try.func31 (by kernel_rfl) rfl #[.pointer (some ⟨g, 0, none⟩), .int .i64 (wrap64 (bu - 1)), .agg #[.int .i64 p.x, .int .i64 p.y, .int .i64 p.a, .int .i64 p.s]] (by rfl) rfl rfl (by simp only [List.map_toArray, List.map_cons, List.map_nil]; rfl) ?_
        with_reducible refine (Add_g GR.out LT.out 0 (wrap64 (bu - 1)) p HE.out.1 HE.out.2 P.out _ BH.out HG.out RH.out).mono ?_
        rintro e_ wn ⟨rfl, v0', v1', v2', v3', hB, hR⟩
        refine ⟨_, rfl, ?_⟩
        have BH := Aside0.mk hB
        have RH := Aside0.mk hR
        clear hB hR
        refine hK.out _ _ ?_
        clear hK K
        refine norm_ (a' := ?_) ?_ ?_
        rotate_left
        · show Act.put _ (some 65) _ = _
          simp only [Act.put, List.setIfInBounds_toArray, List.set_cons_zero, List.set_cons_succ, i64_w, i32_w]
          rfl
        refine pure_ (i := 8) (N := some 57) (v := ?_) (a' := ?_) #[true, true, true, true, true, true, true, true, true, false, false, false, false] rfl rfl (by kernel_rfl) (fun _ _ _ h => h) (Or.inl ⟨by rfl, ?_⟩) ?_ ?_
        rotate_left
        · intro w'
          go_simp
          with_reducible rfl
        rotate_left
        · simp only [Act.put, List.setIfInBounds_toArray, List.set_cons_zero, List.set_cons_succ, i64_w, i32_w]
          rfl
        refine pure_ (i := 9) (N := some 66) (v := ?_) (a' := ?_) #[true, true, true, true, true, true, true, true, true, true, false, false, false] rfl rfl (by kernel_rfl) (fun _ _ _ h => h) (Or.inl ⟨by rfl, ?_⟩) ?_ ?_
        rotate_left
        · intro w'
          go_simp
          with_reducible rfl
        rotate_left
        · simp only [Act.put, List.setIfInBounds_toArray, List.set_cons_zero, List.set_cons_succ, i64_w, i32_w]
          rfl
        refine pure_ (i := 10) (N := some 67) (v := ?_) (a' := ?_) #[true, true, true, true, true, true, true, true, true, true, true, false, false] rfl rfl (by kernel_rfl) (fun _ _ _ h => h) (Or.inl ⟨by rfl, ?_⟩) ?_ ?_
        rotate_left
        · intro w'
          go_simp
          with_reducible rfl
        rotate_left
        · simp only [Act.put, List.setIfInBounds_toArray, List.set_cons_zero, List.set_cons_succ, i64_w, i32_w]
          rfl
        refine pure_ (i := 11) (N := some 12) (v := ?_) (a' := ?_) #[true, true, true, true, true, true, true, true, true, true, true, true, false] rfl rfl (by kernel_rfl) (fun _ _ _ h => h) (Or.inl ⟨by rfl, ?_⟩) ?_ ?_
        rotate_left
        · intro w'
          go_simp
          with_reducible rfl
        rotate_left
        · simp only [Act.put, List.setIfInBounds_toArray, List.set_cons_zero, List.set_cons_succ, i64_w, i32_w]
          rfl
        refine pure_ (i := 12) (N := some 13) (v := ?_) (a' := ?_) #[true, true, true, true, true, true, true, true, true, true, true, true, true] rfl rfl (by kernel_rfl) (fun _ _ _ h => h) (Or.inl ⟨by rfl, ?_⟩) ?_ ?_
        rotate_left
        · intro w'
          go_simp
          with_reducible rfl
        rotate_left
        · simp only [Act.put, List.setIfInBounds_toArray, List.set_cons_zero, List.set_cons_succ, i64_w, i32_w]
          rfl
        refine done_ (by kernel_rfl) ?_

        clear B10
        go_wp2
        go_roundg kz
        case measure => have := HI.out; omega
        case rel => exact ⟨i + 1, _, _, _, _, _, _, _, _, congrArg (Value.int .i64) HW.out, ⟨by have := HI.out; omega⟩, ⟨GR.out.add (wrap64 (bu - 1)) p pl0 HE.out.1 HE.out.2⟩, BH, RH⟩
      | false =>
        have P := Aside0.mk (show fitsV ⟨0, 0, 0, 65536⟩ = true from by decide)
        obtain ⟨p, hp⟩ : ∃ p : Pl, (⟨0, 0, 0, 65536⟩ : Pl) = p := ⟨_, rfl⟩
        rw [hp] at P
        have B10 := Aside0.mk (show wb.heap[g10]? = some (.cells #[.int .i64 p.x, .int .i64 p.y, .int .i64 p.a, .int .i64 p.s] tP (0, 0)) from by rw [← hp]; exact B10.out)
        clear hp
        go_upto_region 11 with fail
        have HW := Aside0.mk (show wrap64 ((i : Int) + 1) = (i : Int) + 1 from by unfold wrap64; have := HI2.out; have := HM.out; omega)
        obtain ⟨bu, hbu⟩ : ∃ b, belowV u ((i : Int) + 1) = b := ⟨_, rfl⟩
        have FU := Aside0.mk (below_f u ((i : Int) + 1) (by omega))
        have HU := belowV_range u ((i : Int) + 1) (by omega) (by have := HI2.out; have := HM.out; omega)
        rw [hbu] at FU HU
        rw [← HW.out] at FU
        have HB1 := Aside0.mk (show wrap64 (bu - 1) = bu - 1 from by unfold wrap64; have := HI2.out; have := HM.out; omega)
        have HE := Aside0.mk (show -1 ≤ wrap64 (bu - 1) ∧ wrap64 (bu - 1) < (i : Int) from by rw [HB1.out]; omega)
        have LT := Aside0.mk (show i < 100 from by have := HI2.out; have := HM.out; omega)
        clear hbu HU HB1
        have BH := Aside0.mk (blk_drew BH.out)
        have RH := Aside0.mk (RH.out.below (Below.refl _ _).drew)
        have B10 := Aside0.mk (blk_drew B10.out)
        refine start_ (n := 13) (S := fun w' => w'.cell? ⟨g10, 0, none⟩ = some (.int .i64 p.x) ∧ w'.cell? ⟨g10, 1, none⟩ = some (.int .i64 p.y) ∧ w'.cell? ⟨g10, 2, none⟩ = some (.int .i64 p.a) ∧ w'.cell? ⟨g10, 3, none⟩ = some (.int .i64 p.s)) (ds := [7]) #[false, false, false, false, false, false, false, false, false, false, false, false, false] (by kernel_rfl) rfl rfl ⟨(blk_cell B10.out 0).trans rfl, (blk_cell B10.out 1).trans rfl, (blk_cell B10.out 2).trans rfl, (blk_cell B10.out 3).trans rfl⟩ (fun hHeld => ?_)
        generalize wb.drew = wk at BH RH B10 hHeld ⊢
        refine pure_ (i := 0) (N := some 58) (v := ?_) (a' := ?_) #[true, false, false, false, false, false, false, false, false, false, false, false, false] rfl rfl (by kernel_rfl) (fun _ _ _ h => h) (Or.inl ⟨by rfl, ?_⟩) ?_ ?_
        rotate_left
        · intro w'
          go_simp
          with_reducible rfl
        rotate_left
        · simp only [Act.put, List.setIfInBounds_toArray, List.set_cons_zero, List.set_cons_succ, i64_w, i32_w]
          rfl
        refine pure_ (i := 1) (N := some 59) (v := ?_) (a' := ?_) #[true, true, false, false, false, false, false, false, false, false, false, false, false] rfl rfl (by kernel_rfl) (fun _ _ _ h => h) (Or.inl ⟨by rfl, ?_⟩) ?_ ?_
        rotate_left
        · intro w'
          go_simp
          with_reducible rfl
        rotate_left
        · simp only [Act.put, List.setIfInBounds_toArray, List.set_cons_zero, List.set_cons_succ, i64_w, i32_w]
          rfl
        refine pure_ (i := 2) (N := some 60) (v := ?_) (a' := ?_) #[true, true, true, false, false, false, false, false, false, false, false, false, false] rfl rfl (by kernel_rfl) (fun _ _ _ h => h) (Or.inl ⟨by rfl, ?_⟩) ?_ ?_
        rotate_left
        · intro w'
          go_simp
          with_reducible rfl
        rotate_left
        · simp only [Act.put, List.setIfInBounds_toArray, List.set_cons_zero, List.set_cons_succ, i64_w, i32_w]
          rfl
        refine pure_ (i := 3) (N := some 61) (v := ?_) (a' := ?_) #[true, true, true, true, false, false, false, false, false, false, false, false, false] rfl rfl (by kernel_rfl) (fun _ _ _ h => h) (Or.inl ⟨by rfl, ?_⟩) ?_ ?_
        rotate_left
        · intro w'
          go_simp
          with_reducible rfl
        rotate_left
        · simp only [Act.put, List.setIfInBounds_toArray, List.set_cons_zero, List.set_cons_succ, i64_w, i32_w]
          rfl
        refine take_ (i := 6) (N := some 64) (v := ?_) (a' := ?_) #[true, true, true, true, false, false, true, false, false, false, false, false, false] rfl rfl (by kernel_rfl) (fun _ _ _ h => h) (Or.inl ⟨by rfl, ?_⟩) hHeld ?_ ?_
        rotate_left
        · rintro w' ⟨s0, s1, s2, s3⟩
          go_simp
          with_reducible rfl
        rotate_left
        · simp only [Act.put, List.setIfInBounds_toArray, List.set_cons_zero, List.set_cons_succ, i64_w, i32_w]
          rfl
        refine one_ (i := 4) (N := some 62) #[true, true, true, true, true, false, true, false, false, false, false, false, false] rfl rfl (by kernel_rfl) (by decide) (fun K hK => ?_)
        refine goes_ Try.func28 (by kernel_rfl) rfl #[.int .i64 u, .int .i64 (wrap64 ((i : Int) + 1))] (by rfl) rfl rfl (by simp only [List.map_toArray, List.map_cons, List.map_nil]; rfl) ?_
        with_reducible refine (tourref5_Below.calls u (wrap64 ((i : Int) + 1)) bu _ FU.out).mono ?_
        rintro e wm ⟨rfl, hb0⟩
        refine ⟨_, rfl, ?_⟩
        have hb := hb0.below
        have BH := Aside0.mk (blk_below BH.out hb)
        have RH := Aside0.mk (RH.out.below hb)
        have B10 := Aside0.mk (blk_below B10.out hb)
        clear hb hb0
        refine hK.out _ _ ⟨(blk_cell B10.out 0).trans rfl, (blk_cell B10.out 1).trans rfl, (blk_cell B10.out 2).trans rfl, (blk_cell B10.out 3).trans rfl⟩ (fun hHeld => ?_)
        clear hK K
        refine norm_ (a' := ?_) ?_ ?_
        rotate_left
        · show Act.put _ (some 62) _ = _
          simp only [Act.put, List.setIfInBounds_toArray, List.set_cons_zero, List.set_cons_succ, i64_w, i32_w]
          rfl
        refine pure_ (i := 5) (N := some 63) (v := ?_) (a' := ?_) #[true, true, true, true, true, true, true, false, false, false, false, false, false] rfl rfl (by kernel_rfl) (fun _ _ _ h => h) (Or.inl ⟨by rfl, ?_⟩) ?_ ?_
        rotate_left
        · intro w'
          go_simp
          with_reducible rfl
        rotate_left
        · simp only [Act.put, List.setIfInBounds_toArray, List.set_cons_zero, List.set_cons_succ, i64_w, i32_w]
          rfl
        refine last_ (i := 7) (N := some 65) #[true, true, true, true, true, true, true, true, false, false, false, false, false] rfl rfl (by kernel_rfl) (by decide) (fun K hK => ?_)
        refine goes_ Try.func31 (by kernel_rfl) rfl #[.pointer (some ⟨g, 0, none⟩), .int .i64 (wrap64 (bu - 1)), .agg #[.int .i64 p.x, .int .i64 p.y, .int .i64 p.a, .int .i64 p.s]] (by rfl) rfl rfl (by simp only [List.map_toArray, List.map_cons, List.map_nil]; rfl) ?_
        with_reducible refine (Add_g GR.out LT.out 0 (wrap64 (bu - 1)) p HE.out.1 HE.out.2 P.out _ BH.out HG.out RH.out).mono ?_
        rintro e_ wn ⟨rfl, v0', v1', v2', v3', hB, hR⟩
        refine ⟨_, rfl, ?_⟩
        have BH := Aside0.mk hB
        have RH := Aside0.mk hR
        clear hB hR
        refine hK.out _ _ ?_
        clear hK K
        refine norm_ (a' := ?_) ?_ ?_
        rotate_left
        · show Act.put _ (some 65) _ = _
          simp only [Act.put, List.setIfInBounds_toArray, List.set_cons_zero, List.set_cons_succ, i64_w, i32_w]
          rfl
        refine pure_ (i := 8) (N := some 57) (v := ?_) (a' := ?_) #[true, true, true, true, true, true, true, true, true, false, false, false, false] rfl rfl (by kernel_rfl) (fun _ _ _ h => h) (Or.inl ⟨by rfl, ?_⟩) ?_ ?_
        rotate_left
        · intro w'
          go_simp
          with_reducible rfl
        rotate_left
        · simp only [Act.put, List.setIfInBounds_toArray, List.set_cons_zero, List.set_cons_succ, i64_w, i32_w]
          rfl
        refine pure_ (i := 9) (N := some 66) (v := ?_) (a' := ?_) #[true, true, true, true, true, true, true, true, true, true, false, false, false] rfl rfl (by kernel_rfl) (fun _ _ _ h => h) (Or.inl ⟨by rfl, ?_⟩) ?_ ?_
        rotate_left
        · intro w'
          go_simp
          with_reducible rfl
        rotate_left
        · simp only [Act.put, List.setIfInBounds_toArray, List.set_cons_zero, List.set_cons_succ, i64_w, i32_w]
          rfl
        refine pure_ (i := 10) (N := some 67) (v := ?_) (a' := ?_) #[true, true, true, true, true, true, true, true, true, true, true, false, false] rfl rfl (by kernel_rfl) (fun _ _ _ h => h) (Or.inl ⟨by rfl, ?_⟩) ?_ ?_
        rotate_left
        · intro w'
          go_simp
          with_reducible rfl
        rotate_left
        · simp only [Act.put, List.setIfInBounds_toArray, List.set_cons_zero, List.set_cons_succ, i64_w, i32_w]
          rfl
        refine pure_ (i := 11) (N := some 12) (v := ?_) (a' := ?_) #[true, true, true, true, true, true, true, true, true, true, true, true, false] rfl rfl (by kernel_rfl) (fun _ _ _ h => h) (Or.inl ⟨by rfl, ?_⟩) ?_ ?_
        rotate_left
        · intro w'
          go_simp
          with_reducible rfl
        rotate_left
        · simp only [Act.put, List.setIfInBounds_toArray, List.set_cons_zero, List.set_cons_succ, i64_w, i32_w]
          rfl
        refine pure_ (i := 12) (N := some 13) (v := ?_) (a' := ?_) #[true, true, true, true, true, true, true, true, true, true, true, true, true] rfl rfl (by kernel_rfl) (fun _ _ _ h => h) (Or.inl ⟨by rfl, ?_⟩) ?_ ?_
        rotate_left
        · intro w'
          go_simp
          with_reducible rfl
        rotate_left
        · simp only [Act.put, List.setIfInBounds_toArray, List.set_cons_zero, List.set_cons_succ, i64_w, i32_w]
          rfl
        refine done_ (by kernel_rfl) ?_

        clear B10
        go_wp2
        go_roundg kz
        case measure => have := HI.out; omega
        case rel => exact ⟨i + 1, _, _, _, _, _, _, _, _, congrArg (Value.int .i64) HW.out, ⟨by have := HI.out; omega⟩, ⟨GR.out.add (wrap64 (bu - 1)) p pl0 HE.out.1 HE.out.2⟩, BH, RH⟩
    | zero =>
      obtain rfl : i = m := by have := HI.out; omega
      obtain ⟨Au, cu, rfl⟩ := own_slice RH.out.r0
      have e0 : wr.cell? ⟨g, 0, none⟩ = some (.slice Au i cu) := by have := (blk_cell BH.out 0).trans rfl; rwa [GR.out.l0] at this
      have hm := HMM.out
      have i1 : decide ((i : Int) < (i : Int)) = false := decide_eq_false (by omega)
      have LT := Aside0.mk (show i < 100 from by have := HM.out; omega)
      clear HI
      go_upto_region 21 with (first | ((with_reducible refine gate_dst (N := 77) rfl ?_); (with_reducible refine gate_callee (f := 33) rfl ?_); refine goesL_ (some 77) rfl rfl Try.func33 (by kernel_rfl) rfl #[.pointer (some ⟨g, 0, none⟩)] rfl (by (try simp only [List.map_toArray, List.map_cons, List.map_nil]); first | done | rfl) ?_; (refine (Size_in wr g i cu Au e0).mono ?_); rintro e wx ⟨rfl, rfl⟩; refine ⟨_, rfl, ?_⟩; clear e0) | ((with_reducible refine gate_dst (N := 86) rfl ?_); (with_reducible refine gate_callee (f := 31) rfl ?_); refine goesL_ (some 86) rfl rfl Try.func31 (by kernel_rfl) rfl #[.pointer (some ⟨g, 0, none⟩), .int .i64 (-1), .agg #[.int .i64 0, .int .i64 0, .int .i64 0, .int .i64 0]] rfl (by (try simp only [List.map_toArray, List.map_cons, List.map_nil]); first | done | rfl) ?_; (refine (Add_g GR.out LT.out 0 (-1) pl0 (by decide) (by omega) (by decide) _ BH.out HG.out RH.out).mono ?_); rintro e wy ⟨rfl, v0', v1', v2', v3', hB, hR⟩; refine ⟨_, rfl, ?_⟩; have BH := Aside0.mk hB; have RH := Aside0.mk hR; clear hB hR))
      have GR := Aside0.mk (GR.out.add (-1) pl0 pl0 (by decide) (by omega))
      obtain ⟨V, hV⟩ := GR.out.sane (by have := HM.out; omega) 0
      have ST0 := Aside0.mk (RW.st RH.out BH.out HG.out GR.out (Nat.succ_pos i))
      have PS := Aside0.mk (show Pass V i 0 0 ⟨_, _, _, _, 0⟩ from ⟨hV, GR.out.l0, fun j hj => by omega, GR.out.kn0 _, by rw [GR.out.cnt]; rfl, by decide, by decide⟩)
      clear BH RH GR hV
      go_wp2
      go_loopg [96] 2 (fun kq v96 wr => ∃ (a b : Nat) (s : GS), v96 = .int .i64 (a : Int) ∧ Aside0 (a + kq = 2) ∧ Aside0 (0 < a → b = i) ∧ Aside0 (Pass V i b 0 s) ∧ Aside0 (ST W g wr s))
      case atStart => exact ⟨0, 0, _, rfl, ⟨rfl⟩, ⟨fun h => absurd h (by omega)⟩, PS, ST0⟩
      case round =>
        clear ST0 PS
        obtain ⟨a, b, s, rfl, HA, HB, PS, ST0⟩ := hrel
        cases gk with
        | succ kz =>
          have ea1 : decide ((a : Int) < 2) = true := decide_eq_true (by have := HA.out; omega)
          have ea2 : (a < 2) = True := eq_true (by have := HA.out; omega)
          have ea3 : ((a : Int) < 2) = True := eq_true (by have := HA.out; omega)
          have PS := Aside0.mk PS.out.again
          go_wp2
          go_loopg [99] i (fun kq v99 wr => ∃ (n : Nat) (s : GS), v99 = .int .i64 (n : Int) ∧ Aside0 (n + kq = i) ∧ Aside0 (Pass V i n 0 s) ∧ Aside0 (ST W g wr s))
          case atStart => exact ⟨0, _, rfl, ⟨by omega⟩, PS, ST0⟩
          case round =>
            clear ST0 PS
            obtain ⟨n, s, rfl, HN, PS, ST0⟩ := hrel
            cases gk with
            | succ ky =>
              have NM := Aside0.mk (show n < i from by have := HN.out; omega)
              have n1 : decide ((n : Int) < (i : Int)) = true := decide_eq_true (by have := NM.out; omega)
              have n2 : (n < i) = True := eq_true NM.out
              have n3 : ((n : Int) < (i : Int)) = True := eq_true (by have := NM.out; omega)
              obtain ⟨s', ⟨kf, hf⟩, hp⟩ := PS.out.step NM.out
              have HF := Aside0.mk (hf kf (Nat.le_refl _))
              have PS2 := Aside0.mk hp
              have HNW := Aside0.mk (show wrap64 ((n : Int) + 1) = ((n + 1 : Nat) : Int) from by unfold wrap64; have := NM.out; have := HM.out; omega)
              clear hf hp
              go_wp2_with (first | ((with_reducible refine gate_dst (N := 104) rfl ?_); (with_reducible refine gate_callee (f := 32) rfl ?_); refine goesL_ (some 104) rfl rfl Try.func32 (by kernel_rfl) rfl #[.pointer (some ⟨g, 0, none⟩), .int .i64 (n : Int)] rfl (by (try simp only [List.map_toArray, List.map_cons, List.map_nil]); first | done | rfl) ?_; (refine (At_st kf s n _ s' (by rw [PS.out.len]; have := NM.out; omega) HF.out _ ST0.out).mono ?_); rintro e wx ⟨rfl, hS⟩; refine ⟨_, rfl, ?_⟩; have ST0 := Aside0.mk hS; clear hS))
              go_roundg ky
              case measure => have := HN.out; omega
              case rel => exact ⟨n + 1, s', congrArg (Value.int .i64) HNW.out, ⟨by have := HN.out; omega⟩, PS2, ST0⟩
            | zero =>
              have hni : n = i := by have := HN.out; omega
              have PS := Aside0.mk (show Pass V i i 0 s from hni ▸ PS.out)
              have n1 : decide ((n : Int) < (i : Int)) = false := decide_eq_false (by omega)
              have n2 : (n < i) = False := eq_false (by omega)
              have n3 : ((n : Int) < (i : Int)) = False := eq_false (by omega)
              clear hni
              have q4 : wr.cell? ⟨g, 4, none⟩ = some (.int .i64 (i : Int)) := by have := ST0.out.count; rw [PS.out.done, Int.zero_add] at this; exact this
              have HAW := Aside0.mk (show wrap64 ((a : Int) + 1) = ((a + 1 : Nat) : Int) from by unfold wrap64; have := HA.out; omega)
              go_wp2_with (first | ((with_reducible refine gate_dst (N := 107) rfl ?_); (with_reducible refine gate_callee (f := 34) rfl ?_); refine goesL_ (some 107) rfl rfl Try.func34 (by kernel_rfl) rfl #[.pointer (some ⟨g, 0, none⟩)] rfl (by (try simp only [List.map_toArray, List.map_cons, List.map_nil]); first | done | rfl) ?_; (refine (Count_in _ g _ q4).mono ?_); rintro e wx ⟨rfl, rfl⟩; refine ⟨_, rfl, ?_⟩))
              go_roundg kz
              case measure => have := HA.out; omega
              case rel => exact ⟨a + 1, i, s, congrArg (Value.int .i64) HAW.out, ⟨by have := HA.out; omega⟩, ⟨fun _ => rfl⟩, PS, ST0⟩
        | zero =>
          have PS := Aside0.mk (show Pass V i i 0 s from by have h := HB.out (by have := HA.out; omega); rw [← h]; rw [h]; exact h ▸ PS.out)
          have ea1 : decide ((a : Int) < 2) = false := decide_eq_false (by have := HA.out; omega)
          have ea2 : (a < 2) = False := eq_false (by have := HA.out; omega)
          have ea3 : ((a : Int) < 2) = False := eq_false (by have := HA.out; omega)
          by_cases hz : i = 0
          · have z1 : ((i : Int) == 0) = true := beq_iff_eq.mpr (by omega)
            have z2 : (i = 0) = True := eq_true hz
            clear hz
            go_wp2
            go_ret
            exact ⟨rfl, ST0.out.bel⟩
          · have z1 : ((i : Int) == 0) = false := beq_eq_false_iff_ne.mpr (by omega)
            have z2 : (i = 0) = False := eq_false hz
            have FS := Aside0.mk (below_f a2 (i : Int) (by omega))
            have HS := belowV_range a2 (i : Int) (by omega) (by have := HM.out; omega)
            obtain ⟨z, hzz⟩ := Int.eq_ofNat_of_zero_le HS.1
            rw [hzz] at FS HS
            have ZL := Aside0.mk (show z < i from by have := HS.2; omega)
            obtain ⟨s2, V2, D, ⟨kf, hf⟩, hP, hD0, hD1⟩ := PS.out.forget ZL.out ⟨0, 0, 0, 65536⟩
            have SN := Aside0.mk (show z < s.up.length ∧ z < s.own.length from by have h1 := PS.out.sane.l1; have h2 := PS.out.len; have h3 := ZL.out; omega)
            have HF := Aside0.mk (hf (kf + 3) (by omega))
            have PS := Aside0.mk hP
            have HD := Aside0.mk (And.intro hD0 hD1)
            have FT := Aside0.mk (show graph_fits.f (kf + 3) 0 0 0 65536 = some true from fits_eq ⟨0, 0, 0, 65536⟩ kf)
            clear hz hf hP hD0 hD1 HS hzz
            go_wp2_with (first | ((with_reducible refine gate_dst (N := 115) rfl ?_); (with_reducible refine gate_callee (f := 28) rfl ?_); refine goesL_ (some 115) rfl rfl Try.func28 (by kernel_rfl) rfl #[.int .i64 a2, .int .i64 (i : Int)] rfl (by (try simp only [List.map_toArray, List.map_cons, List.map_nil]); first | done | rfl) ?_; (refine (tourref5_Below.calls a2 (i : Int) (z : Int) _ FS.out).mono ?_); rintro e wx ⟨rfl, hb0⟩; refine ⟨_, rfl, ?_⟩; have ST0 := Aside0.mk (ST0.out.below hb0.below); clear hb0) | ((with_reducible refine gate_dst (N := 119) rfl ?_); (with_reducible refine gate_callee (f := 35) rfl ?_); refine goesL_ (some 119) rfl rfl Try.func35 (by kernel_rfl) rfl #[.pointer (some ⟨g, 0, none⟩), .int .i64 (z : Int), .agg #[.int .i64 0, .int .i64 0, .int .i64 0, .int .i64 65536]] rfl (by (try simp only [List.map_toArray, List.map_cons, List.map_nil]); first | done | rfl) ?_; (refine (Set_st (kf + 3) s z ⟨0, 0, 0, 65536⟩ s2 SN.out.1 SN.out.2 FT.out HF.out _ ST0.out).mono ?_); rintro e wy ⟨rfl, hS⟩; refine ⟨_, rfl, ?_⟩; have ST0 := Aside0.mk hS; clear hS))
            go_loopg [122] i (fun kq v122 wr => ∃ (n : Nat) (s : GS), v122 = .int .i64 (n : Int) ∧ Aside0 (n + kq = i) ∧ Aside0 (Pass V2 i n D s) ∧ Aside0 (ST W g wr s))
            case atStart => exact ⟨0, _, rfl, ⟨by omega⟩, PS, ST0⟩
            case round =>
              clear ST0 PS
              obtain ⟨n, s, rfl, HN, PS, ST0⟩ := hrel
              cases gk with
              | succ ky =>
                have NM := Aside0.mk (show n < i from by have := HN.out; omega)
                have n1 : decide ((n : Int) < (i : Int)) = true := decide_eq_true (by have := NM.out; omega)
                have n2 : (n < i) = True := eq_true NM.out
                have n3 : ((n : Int) < (i : Int)) = True := eq_true (by have := NM.out; omega)
                obtain ⟨s', ⟨kf, hf⟩, hp⟩ := PS.out.step NM.out
                have HF := Aside0.mk (hf kf (Nat.le_refl _))
                have PS2 := Aside0.mk hp
                have HNW := Aside0.mk (show wrap64 ((n : Int) + 1) = ((n + 1 : Nat) : Int) from by unfold wrap64; have := NM.out; have := HM.out; omega)
                clear hf hp
                go_wp2_with (first | ((with_reducible refine gate_dst (N := 127) rfl ?_); (with_reducible refine gate_callee (f := 32) rfl ?_); refine goesL_ (some 127) rfl rfl Try.func32 (by kernel_rfl) rfl #[.pointer (some ⟨g, 0, none⟩), .int .i64 (n : Int)] rfl (by (try simp only [List.map_toArray, List.map_cons, List.map_nil]); first | done | rfl) ?_; (refine (At_st kf s n _ s' (by rw [PS.out.len]; have := NM.out; omega) HF.out _ ST0.out).mono ?_); rintro e wx ⟨rfl, hS⟩; refine ⟨_, rfl, ?_⟩; have ST0 := Aside0.mk hS; clear hS))
                go_roundg ky
                case measure => have := HN.out; omega
                case rel => exact ⟨n + 1, s', congrArg (Value.int .i64) HNW.out, ⟨by have := HN.out; omega⟩, PS2, ST0⟩
              | zero =>
                have hni : n = i := by have := HN.out; omega
                have PS := Aside0.mk (show Pass V2 i i D s from hni ▸ PS.out)
                have n1 : decide ((n : Int) < (i : Int)) = false := decide_eq_false (by omega)
                have n2 : (n < i) = False := eq_false (by omega)
                have n3 : ((n : Int) < (i : Int)) = False := eq_false (by omega)
                clear hni
                obtain ⟨c, hc⟩ : ∃ c : Int, D + (i : Int) = c := ⟨_, rfl⟩
                have q4 : wr.cell? ⟨g, 4, none⟩ = some (.int .i64 c) := by have := ST0.out.count; rw [PS.out.done, hc] at this; exact this
                have g1 : decide (c > (i : Int)) = true := decide_eq_true (by have := HD.out; omega)
                have g3 : decide ((i : Int) < c) = true := g1
                have g2 : decide (c ≤ 2 * (i : Int)) = true := decide_eq_true (by have := HD.out; omega)
                clear hc
                go_wp2_with (first | ((with_reducible refine gate_dst (N := 130) rfl ?_); (with_reducible refine gate_callee (f := 34) rfl ?_); refine goesL_ (some 130) rfl rfl Try.func34 (by kernel_rfl) rfl #[.pointer (some ⟨g, 0, none⟩)] rfl (by (try simp only [List.map_toArray, List.map_cons, List.map_nil]); first | done | rfl) ?_; (refine (Count_in _ g _ q4).mono ?_); rintro e wx ⟨rfl, rfl⟩; refine ⟨_, rfl, ?_⟩))
                refine (Count_in _ g _ q4).mono ?_
                rintro e wx ⟨rfl, rfl⟩
                go_wp2
                go_ret
                exact ⟨rfl, ST0.out.bel⟩
theorem walk_ok (A0 : Option Addr) (c0 : Nat) (l0 : List Int) {W : World} (hr0 : Kd.C (Kd.int .i64) W A0 l0.length l0) (hc0 : l0.length ≤ c0) {p q r : Prop} (ok0 : l0.length ≤ 9223372036854775807 ∧ p) (A1 : Option Addr) (c1 : Nat) (l1 : List S52) (hr1 : Kd.C k52 W A1 l1.length l1) (hc1 : l1.length ≤ c1) (ok1 : l1.length ≤ 9223372036854775807 ∧ q) (a2 : Int) (ok2 : r) :
    Calls Try.prog 9 #[.slice A0 l0.length c0, .slice A1 l1.length c1, .int .i64 a2] W fun e w' => e = .returned (.bool true) ∧ Below W.heap.size W w' :=
  walk A0 c0 l0 hr0 hc0 ok0.1 A1 c1 l1 hr1 hc1 ok1.1 a2
end Go.Proofs.Ytdopeneehminaaa.GraphOnceWalkGraphOnce
