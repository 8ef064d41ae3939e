/- The walk of the law GraphPlays. Under no condition but what stands at it. -/
import Derived.Test.YtdopeneehminaaaGraphKindsGraphPlays
import Derived.Outline
namespace Go.Proofs.Ytdopeneehminaaa.GraphPlaysWalkGraphPlays
open Go Go.RowKit Go.Proofs.YtdopeneehminaaaW.PrintWords Go.Proofs.YtdopeneehminaaaW.PrintLast Go.Proofs.YtdopeneehminaaaW.PrintMore Go.Proofs.Ytdopeneehminaaa.Fnv Go.Proofs.Ytdopeneehminaaa.PGraphPlays Go.Proofs.Ytdopeneehminaaa.GraphMemGraphPlays Go.Proofs.Ytdopeneehminaaa.GraphAtGraphPlays Go.Proofs.Ytdopeneehminaaa.GraphSetGraphPlays Go.Proofs.Ytdopeneehminaaa.GraphAddGraphPlays Go.Proofs.Ytdopeneehminaaa.NumGraphPlays Go.Proofs.Ytdopeneehminaaa.GraphWiGraphPlays Go.Proofs.Ytdopeneehminaaa.GraphRunsGraphPlays Go.Proofs.Ytdopeneehminaaa.GraphNewGraphPlays Go.Proofs.Ytdopeneehminaaa.GraphTwoGraphPlays Go.Proofs.Ytdopeneehminaaa.GraphMoveGraphPlays Go.Proofs.Ytdopeneehminaaa.GraphWhereGraphPlays Go.Proofs.Ytdopeneehminaaa.GraphPSGraphPlays Go.Proofs.Ytdopeneehminaaa.GraphStepGraphPlays Go.Proofs.Ytdopeneehminaaa.GraphKindsGraphPlays
set_option linter.unusedVariables false
set_option linter.unusedSimpArgs false
theorem PS.start {W w w1 : World} {g m : Nat} (hB : w.heap[g]? = some (.cells #[.slice none 0 0, .slice none 0 0, .slice none 0 0, .slice none 0 0, .int .i64 0] tG (0, 0))) (hg : W.heap.size ≤ g) (hb : Below W.heap.size W w) (hb1 : Below w.heap.size w w1) (hM : w1.heap[m]? = some (.cells #[.slice none 0 0, .slice none 0 0] tN (0, 0))) (hm : w.heap.size ≤ m) :
    PS W w1 g m (.slice none 0 0) (.slice none 0 0) (.slice none 0 0) (.slice none 0 0) (.slice none 0 0) (.slice none 0 0) ⟨[], [], [], [], 0⟩ [] [] :=
  ⟨blk_below hB hb1, hg, RW.nil W w1 (below_step hb hb1), hM, Nat.le_trans hb.size hm, own_nil _ _ _ _, own_nil _ _ _ _, ne_nil _, ne_nil _, ne_nil _⟩
theorem Sane.nil (n : Int) : Sane (fun _ => pl0) (fun _ => 0) ⟨[], [], [], [], n⟩ := ⟨rfl, rfl, rfl, by simp, fun i h => by simp at h, fun i h => by simp at h, fun i h => by simp at h, fun i h => by simp at h, fun i h => by simp at h⟩
set_option maxHeartbeats 16000000 in
set_option maxRecDepth 100000 in
theorem walk (A0 : Option Addr) (c0 : Nat) (l0 : List S67) {W : World} (hr0 : Kd.C k67 W A0 l0.length l0) (hc0 : l0.length ≤ c0) (ok0 : l0.length ≤ 9223372036854775807) (A1 : Option Addr) (c1 : Nat) (l1 : List S52) (hr1 : Kd.C k52 W A1 l1.length l1) (hc1 : l1.length ≤ c1) (ok1 : l1.length ≤ 9223372036854775807) :
    Calls Try.prog 10 #[.slice A0 l0.length c0, .slice A1 l1.length c1] W fun e w' => e = .returned (.bool true) ∧ Below W.heap.size W w' := by
  have hu66 := Try.underlying66
  have hu52 := Try.underlying52
  have hu27 := Try.underlying27
  have hu67 := Try.underlying67
  have HR0 := Aside0.mk hr0
  have HR1 := Aside0.mk hr1
  clear hr0 hr1 hc0 hc1
  have L0 := Aside0.mk ok0
  have L1 := Aside0.mk ok1
  clear ok0 ok1
  go_enter Try.func10, Try.ntmps10
  go_wp2_with (first | ((with_reducible refine gate_dst (N := 14) rfl ?_); (with_reducible refine gate_callee (f := 29) rfl ?_); refine goesL_ (some 14) rfl rfl Try.func29 (by kernel_rfl) rfl #[] rfl (by (try simp only [List.map_toArray, List.map_cons, List.map_nil]); first | done | rfl) ?_; (refine (New_in W).mono ?_); rintro e w1 ⟨gg, rfl, hB, hg, hb⟩; refine ⟨_, rfl, ?_⟩; have HB0 := Aside0.mk hb; have e0 := (blk_cell hB 0).trans rfl; clear hB hg hb))
  refine (Size_in _ gg 0 0 none e0).mono ?_
  rintro e w2 ⟨rfl, hw_⟩
  subst hw_
  clear e0
  go_upto_region 6 with (first | ((with_reducible refine gate_dst (N := 22) rfl ?_); (with_reducible refine gate_callee (f := 29) rfl ?_); refine goesL_ (some 22) rfl rfl Try.func29 (by kernel_rfl) rfl #[] rfl (by (try simp only [List.map_toArray, List.map_cons, List.map_nil]); first | done | rfl) ?_; (refine (New_in _).mono ?_); rintro e w3 ⟨g, rfl, hB, hg, hb⟩; refine ⟨_, rfl, ?_⟩; have BG := Aside0.mk hB; have HG := Aside0.mk (Nat.le_trans HB0.out.size hg); have HB1 := Aside0.mk (below_step HB0.out hb); clear hB hg hb HB0) | ((with_reducible refine gate_dst (N := 7) rfl ?_); refine box_event ?hg (N := 7) ?hd (cs := #[.slice none 0 0, .slice none 0 0]) (t := tN) ?hr ?_; (case hd => rfl); (case hg => rfl); (case hr => first | (go_simp; done) | (go_simp; rfl)); intro m hg w4 hbox hb; have PSH := Aside0.mk (PS.start BG.out HG.out HB1.out hb hbox (Nat.le_of_eq hg.symm)); clear hg hbox hb BG HG HB1))
  go_wp2
  go_loopg [25] l0.length (fun kq v25 wr => ∃ (k : Nat) (s : GS) (V : Nat → Pl) (r : Nat → Nat) (v0 v1 v2 v3 vu vo : Value), v25 = .int .i64 (k : Int) ∧ Aside0 (k + kq = l0.length) ∧ Aside0 (Sane V r s) ∧ Aside0 (PS W wr g m v0 v1 v2 v3 vu vo s s.up s.own))
  case atStart => exact ⟨0, _, _, _, _, _, _, _, _, _, rfl, ⟨by omega⟩, ⟨Sane.nil 0⟩, PSH⟩
  case round =>
    clear PSH
    obtain ⟨k, s, V, r, v0, v1, v2, v3, vu, vo, rfl, HK, HS, PSH⟩ := hrel
    cases gk with
    | succ kz =>
      have hk : k < l0.length := by have := HK.out; omega
      have i0 : ((0 : Int) ≤ (k : Int)) = True := eq_true (by omega)
      have i1 : decide ((k : Int) < (l0.length : Int)) = true := decide_eq_true (by omega)
      have i2 : ((k : Int) < (l0.length : Int)) = True := eq_true (by omega)
      have i3 : (k < l0.length) = True := eq_true hk
      obtain ⟨ad, rfl, p0, p1, p2⟩ := at_T67 HR0.out (k : Int) (by omega) (by omega)
      obtain ⟨a, ha⟩ : ∃ a, (rd_T67 l0 (k : Int)).f0 = a := ⟨_, rfl⟩
      obtain ⟨b, hb⟩ : ∃ b, (rd_T67 l0 (k : Int)).f1 = b := ⟨_, rfl⟩
      obtain ⟨c, hc⟩ : ∃ c, (rd_T67 l0 (k : Int)).f2 = c := ⟨_, rfl⟩
      rw [ha, Int.toNat_natCast] at p0
      rw [hb, Int.toNat_natCast] at p1
      rw [hc, Int.toNat_natCast] at p2
      replace p0 := pw_cell_below PSH.out.rw.bel p0
      replace p1 := pw_cell_below PSH.out.rw.bel p1
      replace p2 := pw_cell_below PSH.out.rw.bel p2
      have HK2 := Aside0.mk hk
      clear hk ha hb hc
      go_upto_region 9 with (first | ((with_reducible refine gate_dst (N := 9) rfl ?_); refine box_event ?hg (N := 9) ?hd (cs := #[.int .i64 0, .int .i64 0, .int .i64 0]) (t := tO) ?hr ?_; (case hd => rfl); (case hg => rfl); (case hr => first | (go_simp; done) | (go_simp; rfl)); intro g9 hg wa hbox hb; have HE := Aside0.mk hb; have GE := Aside0.mk (Nat.le_of_eq hg.symm); have B9 := Aside0.mk hbox; clear hg hbox hb p0 p1 p2; have cz0 := (blk_cell B9.out 0).trans rfl; have fz0 := blk_frozen B9.out 0; have cz1 := (blk_cell B9.out 1).trans rfl; have fz1 := blk_frozen B9.out 1; have cz2 := (blk_cell B9.out 2).trans rfl; have fz2 := blk_frozen B9.out 2))
      have HE := Aside0.mk (show Below wr.heap.size wr (((wa.setCell ⟨g9, 0, none⟩ (.int .i64 a)).setCell ⟨g9, 1, none⟩ (.int .i64 b)).setCell ⟨g9, 2, none⟩ (.int .i64 c)) from below_set (below_set (below_set (HE.out) GE.out) GE.out) GE.out)
      have PSH := Aside0.mk (PSH.out.below HE.out)
      have B9 := Aside0.mk (show ((((wa.setCell ⟨g9, 0, none⟩ (.int .i64 a)).setCell ⟨g9, 1, none⟩ (.int .i64 b)).setCell ⟨g9, 2, none⟩ (.int .i64 c))).heap[g9]? = some (.cells #[.int .i64 a, .int .i64 b, .int .i64 c] tO (0, 0)) from blk_put (blk_put (blk_put (B9.out) 0 (.int .i64 a) rfl) 1 (.int .i64 b) rfl) 2 (.int .i64 c) rfl)
      clear HE GE cz0 fz0 cz1 fz1 cz2 fz2
      generalize (((wa.setCell ⟨g9, 0, none⟩ (.int .i64 a)).setCell ⟨g9, 1, none⟩ (.int .i64 b)).setCell ⟨g9, 2, none⟩ (.int .i64 c)) = wb at PSH B9 ⊢
      clear i0 i1 i2 i3
      go_upto_region 10 with (first | ((with_reducible refine gate_dst (N := 10) rfl ?_); refine box_event ?hg (N := 10) ?hd (cs := #[.int .i64 0, .int .i64 0, .int .i64 0, .int .i64 0]) (t := tP) ?hr ?_; (case hd => rfl); (case hg => rfl); (case hr => first | (go_simp; done) | (go_simp; rfl)); intro g10 hg wc hbox hb; have HE := Aside0.mk hb; have GE := Aside0.mk (Nat.le_of_eq hg.symm); have B10 := Aside0.mk hbox; clear hg hbox hb; have cz0 := (blk_cell B10.out 0).trans rfl; have fz0 := blk_frozen B10.out 0; have cz1 := (blk_cell B10.out 1).trans rfl; have fz1 := blk_frozen B10.out 1; have cz2 := (blk_cell B10.out 2).trans rfl; have fz2 := blk_frozen B10.out 2; have cz3 := (blk_cell B10.out 3).trans rfl; have fz3 := blk_frozen B10.out 3))
      have OFF := Aside0.mk (PSH.out.away GE.out)
      have E9 := Aside0.mk (show g9 ≠ g10 from Nat.ne_of_lt (Nat.lt_of_lt_of_le (blk_lt B9.out) GE.out))
      have HE := Aside0.mk (show Below wb.heap.size wb ((((wc.setCell ⟨g10, 0, none⟩ (.int .i64 0)).setCell ⟨g10, 1, none⟩ (.int .i64 0)).setCell ⟨g10, 2, none⟩ (.int .i64 0)).setCell ⟨g10, 3, none⟩ (.int .i64 65536)) from below_set (below_set (below_set (below_set (HE.out) GE.out) GE.out) GE.out) GE.out)
      have PSH := Aside0.mk (PSH.out.below HE.out)
      have B9 := Aside0.mk (blk_below B9.out HE.out)
      have B10 := Aside0.mk (show (((((wc.setCell ⟨g10, 0, none⟩ (.int .i64 0)).setCell ⟨g10, 1, none⟩ (.int .i64 0)).setCell ⟨g10, 2, none⟩ (.int .i64 0)).setCell ⟨g10, 3, none⟩ (.int .i64 65536))).heap[g10]? = some (.cells #[.int .i64 0, .int .i64 0, .int .i64 0, .int .i64 65536] tP (0, 0)) from blk_put (blk_put (blk_put (blk_put (B10.out) 0 (.int .i64 0) rfl) 1 (.int .i64 0) rfl) 2 (.int .i64 0) rfl) 3 (.int .i64 65536) rfl)
      clear HE GE cz0 fz0 cz1 fz1 cz2 fz2 cz3 fz3
      generalize ((((wc.setCell ⟨g10, 0, none⟩ (.int .i64 0)).setCell ⟨g10, 1, none⟩ (.int .i64 0)).setCell ⟨g10, 2, none⟩ (.int .i64 0)).setCell ⟨g10, 3, none⟩ (.int .i64 65536)) = wd at PSH B9 B10 ⊢
      go_upto_if 33 with fail
      go_cut [40] (fun v40 w' => ∃ p : Pl, Aside0 (w'.heap[g10]? = some (.cells #[.int .i64 p.x, .int .i64 p.y, .int .i64 p.a, .int .i64 p.s] tP (0, 0))) ∧ Aside0 (w'.heap[g9]? = some (.cells #[.int .i64 a, .int .i64 b, .int .i64 c] tO (0, 0))) ∧ Aside0 (PS W w' g m v0 v1 v2 v3 vu vo s s.up s.own))
      case first =>
        obtain ⟨bp, hbp⟩ : ∃ b, decide (0 < l1.length) = b := ⟨_, rfl⟩
        rw [hbp]
        cases bp with
        | true =>
          have hpos : 0 < l1.length := of_decide_eq_true hbp
          obtain ⟨z, hz⟩ : ∃ z, belowV (k : Int) (l1.length : Int) = z := ⟨_, rfl⟩
          have FZ := Aside0.mk (below_f (k : Int) (l1.length : Int) (by omega))
          have HZ := belowV_range (k : Int) (l1.length : Int) (by omega) (by have := L1.out; omega)
          rw [hz] at FZ HZ
          obtain ⟨ap, rfl, x0, x1, x2, x3⟩ := at_T52 HR1.out z HZ.1 HZ.2
          obtain ⟨q, hq⟩ : ∃ q : Pl, plS (rd_T52 l1 z) = q := ⟨_, rfl⟩
          have y0 : (rd_T52 l1 z).f0.f0 = q.x := by rw [← hq]; rfl
          have y1 : (rd_T52 l1 z).f0.f1 = q.y := by rw [← hq]; rfl
          have y2 : (rd_T52 l1 z).f1 = q.a := by rw [← hq]; rfl
          have y3 : (rd_T52 l1 z).f2 = q.s := by rw [← hq]; rfl
          rw [y0] at x0
          rw [y1] at x1
          rw [y2] at x2
          rw [y3] at x3
          have XH := Aside0.mk (And.intro (pw_cell_below PSH.out.rw.bel x0) (And.intro (pw_cell_below PSH.out.rw.bel x1) (And.intro (pw_cell_below PSH.out.rw.bel x2) (pw_cell_below PSH.out.rw.bel x3))))
          have j0 : (0 ≤ z) = True := eq_true HZ.1
          have j1 : (z < (l1.length : Int)) = True := eq_true HZ.2
          clear x0 x1 x2 x3 y0 y1 y2 y3 hq hz HZ hpos hbp
          go_wp2_with (first | ((with_reducible refine gate_dst (N := 38) rfl ?_); (with_reducible refine gate_callee (f := 28) rfl ?_); refine goesL_ (some 38) rfl rfl Try.func28 (by kernel_rfl) rfl #[.int .i64 (k : Int), .int .i64 (l1.length : Int)] rfl (by (try simp only [List.map_toArray, List.map_cons, List.map_nil]); first | done | rfl) ?_; (refine (tourref5_Below.calls (k : Int) (l1.length : Int) z _ FZ.out).mono ?_); rintro e we ⟨rfl, hb0⟩; refine ⟨_, rfl, ?_⟩; have hb := hb0.below; have PSH := Aside0.mk (PSH.out.below hb); have B9 := Aside0.mk (blk_below B9.out hb); have B10 := Aside0.mk (blk_below B10.out hb); have x0 := pw_cell_below hb XH.out.1; have x1 := pw_cell_below hb XH.out.2.1; have x2 := pw_cell_below hb XH.out.2.2.1; have x3 := pw_cell_below hb XH.out.2.2.2; have B10' := Aside0.mk (GraphAtGraphPlays.put4 B10.out (.int .i64 q.x) (.int .i64 q.y) (.int .i64 q.a) (.int .i64 q.s)); have B9' := Aside0.mk (far4b B9.out E9.out (.int .i64 q.x) (.int .i64 q.y) (.int .i64 q.a) (.int .i64 q.s)); have PSH' := Aside0.mk ((((PSH.out.off OFF.out 0 (.int .i64 q.x)).off OFF.out 1 (.int .i64 q.y)).off OFF.out 2 (.int .i64 q.a)).off OFF.out 3 (.int .i64 q.s)); clear hb hb0; have cz0 := (blk_cell B10.out 0).trans rfl; have fz0 := blk_frozen B10.out 0; have cz1 := (blk_cell B10.out 1).trans rfl; have fz1 := blk_frozen B10.out 1; have cz2 := (blk_cell B10.out 2).trans rfl; have fz2 := blk_frozen B10.out 2; have cz3 := (blk_cell B10.out 3).trans rfl; have fz3 := blk_frozen B10.out 3))
          go_meet
          exact ⟨q, B10', B9', PSH'⟩
        | false =>
          have n1 : (0 < l1.length) = False := eq_false (of_decide_eq_false hbp)
          go_wp2_with fail
          go_meet
          exact ⟨⟨0, 0, 0, 65536⟩, B10, B9, PSH⟩
      case rest =>
        clear B10 B9 PSH
        obtain ⟨p, B10, B9, PSH⟩ := hcut
        have HKW := Aside0.mk (show wrap64 ((k : Int) + 1) = (k : Int) + 1 from by have := HK2.out; have := L0.out; unfold wrap64; omega)
        go_upto_region 12 with fail
        have PSH := Aside0.mk PSH.out.drew
        have B9 := Aside0.mk (blk_drew B9.out)
        have B10 := Aside0.mk (blk_drew B10.out)
        refine start_ (n := 13) (S := fun w' => w'.cell? ⟨g9, 0, none⟩ = some (.int .i64 a) ∧ w'.cell? ⟨g9, 1, none⟩ = some (.int .i64 b) ∧ w'.cell? ⟨g9, 2, none⟩ = some (.int .i64 c) ∧ w'.cell? ⟨g10, 0, none⟩ = some (.int .i64 p.x) ∧ w'.cell? ⟨g10, 1, none⟩ = some (.int .i64 p.y) ∧ w'.cell? ⟨g10, 2, none⟩ = some (.int .i64 p.a) ∧ w'.cell? ⟨g10, 3, none⟩ = some (.int .i64 p.s)) (ds := [3, 4, 5, 6, 7, 8, 9, 10, 11, 12]) #[false, false, false, false, false, false, false, false, false, false, false, false, false] (by kernel_rfl) rfl rfl ⟨(blk_cell B9.out 0).trans rfl, (blk_cell B9.out 1).trans rfl, (blk_cell B9.out 2).trans rfl, (blk_cell B10.out 0).trans rfl, (blk_cell B10.out 1).trans rfl, (blk_cell B10.out 2).trans rfl, (blk_cell B10.out 3).trans rfl⟩ (fun hHeld => ?_)
        generalize wc.drew = wo at PSH B9 B10 hHeld ⊢
        refine pure_ (i := 0) (N := some 41) (v := ?_) (a' := ?_) #[true, false, false, false, false, false, false, false, false, false, false, false, false] rfl rfl (by kernel_rfl) (fun _ _ _ h => h) (Or.inl ⟨by rfl, ?_⟩) ?_ ?_
        rotate_left
        · intro w'
          go_simp
          with_reducible rfl
        rotate_left
        · simp only [Act.put, List.setIfInBounds_toArray, List.set_cons_zero, List.set_cons_succ, i64_w, i32_w]
          rfl
        refine take_ (i := 1) (N := some 42) (v := ?_) (a' := ?_) #[true, true, false, false, false, false, false, false, false, false, false, false, false] rfl rfl (by kernel_rfl) (fun _ _ _ h => h) (Or.inl ⟨by rfl, ?_⟩) hHeld ?_ ?_
        rotate_left
        · rintro w' ⟨s0, s1, s2, s3, s4, s5, s6⟩
          go_simp
          with_reducible rfl
        rotate_left
        · simp only [Act.put, List.setIfInBounds_toArray, List.set_cons_zero, List.set_cons_succ, i64_w, i32_w]
          rfl
        refine take_ (i := 2) (N := some 43) (v := ?_) (a' := ?_) #[true, true, true, false, false, false, false, false, false, false, false, false, false] rfl rfl (by kernel_rfl) (fun _ _ _ h => h) (Or.inl ⟨by rfl, ?_⟩) hHeld ?_ ?_
        rotate_left
        · rintro w' ⟨s0, s1, s2, s3, s4, s5, s6⟩
          go_simp
          with_reducible rfl
        rotate_left
        · simp only [Act.put, List.setIfInBounds_toArray, List.set_cons_zero, List.set_cons_succ, i64_w, i32_w]
          rfl
        refine last_ (i := 3) (N := some 44) #[true, true, true, true, false, false, false, false, false, false, false, false, false] rfl rfl (by kernel_rfl) (by decide) (fun K hK => ?_)
        refine goes_ Try.func36 (by kernel_rfl) rfl #[.pointer (some ⟨g, 0, none⟩), .pointer (some ⟨m, 0, none⟩), .agg #[.int .i64 a, .int .i64 b, .int .i64 c], .agg #[.int .i64 p.x, .int .i64 p.y, .int .i64 p.a, .int .i64 p.s]] (by rfl) rfl rfl (by simp only [List.map_toArray, List.map_cons, List.map_nil]; rfl) ?_
        with_reducible refine (step_any s HS.out a b c p _ PSH.out).mono ?_
        rintro e wp ⟨rfl, s', V', r', u0, u1, u2, u3, nu, no, hs', hP⟩
        refine ⟨_, rfl, ?_⟩
        have HS2 := Aside0.mk hs'
        have PSH := Aside0.mk hP
        obtain ⟨Au, cu, rfl⟩ := own_slice PSH.out.lu
        clear hs' hP B9 B10
        refine hK.out _ _ ?_
        clear hK K
        refine norm_ (a' := ?_) ?_ ?_
        rotate_left
        · show Act.put _ (some 44) _ = _
          simp only [Act.put, List.setIfInBounds_toArray, List.set_cons_zero, List.set_cons_succ, i64_w, i32_w]
          rfl
        refine swap_ (fun w' => w'.cell? ⟨m, 0, none⟩ = some (.slice Au s'.up.length cu)) (by kernel_rfl) ?_
        have hHeld : wp.cell? ⟨m, 0, none⟩ = some (.slice Au s'.up.length cu) := (blk_cell PSH.out.mbox 0).trans rfl
        refine pure_ (i := 4) (N := some 45) (v := ?_) (a' := ?_) #[true, true, true, true, true, false, false, false, false, false, false, false, false] rfl rfl (by kernel_rfl) (fun _ _ _ h => h) (Or.inl ⟨by rfl, ?_⟩) ?_ ?_
        rotate_left
        · intro w'
          go_simp
          with_reducible rfl
        rotate_left
        · simp only [Act.put, List.setIfInBounds_toArray, List.set_cons_zero, List.set_cons_succ, i64_w, i32_w]
          rfl
        refine pure_ (i := 5) (N := some 46) (v := ?_) (a' := ?_) #[true, true, true, true, true, true, false, false, false, false, false, false, false] rfl rfl (by kernel_rfl) (fun _ _ _ h => h) (Or.inl ⟨by rfl, ?_⟩) ?_ ?_
        rotate_left
        · intro w'
          go_simp
          with_reducible rfl
        rotate_left
        · simp only [Act.put, List.setIfInBounds_toArray, List.set_cons_zero, List.set_cons_succ, i64_w, i32_w]
          rfl
        refine pure_ (i := 6) (N := some 47) (v := ?_) (a' := ?_) #[true, true, true, true, true, true, true, false, false, false, false, false, false] rfl rfl (by kernel_rfl) (fun _ _ _ h => h) (Or.inl ⟨by rfl, ?_⟩) ?_ ?_
        rotate_left
        · intro w'
          go_simp
          with_reducible rfl
        rotate_left
        · simp only [Act.put, List.setIfInBounds_toArray, List.set_cons_zero, List.set_cons_succ, i64_w, i32_w]
          rfl
        refine pure_ (i := 8) (N := some 49) (v := ?_) (a' := ?_) #[true, true, true, true, true, true, true, false, true, false, false, false, false] rfl rfl (by kernel_rfl) (fun _ _ _ h => h) (Or.inl ⟨by rfl, ?_⟩) ?_ ?_
        rotate_left
        · intro w'
          go_simp
          with_reducible rfl
        rotate_left
        · simp only [Act.put, List.setIfInBounds_toArray, List.set_cons_zero, List.set_cons_succ, i64_w, i32_w]
          rfl
        refine take_ (i := 9) (N := some 50) (v := ?_) (a' := ?_) #[true, true, true, true, true, true, true, false, true, true, false, false, false] rfl rfl (by kernel_rfl) (fun _ _ _ h => h) (Or.inl ⟨by rfl, ?_⟩) hHeld ?_ ?_
        rotate_left
        · intro w' s0
          go_simp
          with_reducible rfl
        rotate_left
        · simp only [Act.put, List.setIfInBounds_toArray, List.set_cons_zero, List.set_cons_succ, i64_w, i32_w]
          rfl
        refine pure_ (i := 10) (N := some 51) (v := ?_) (a' := ?_) #[true, true, true, true, true, true, true, false, true, true, true, false, false] rfl rfl (by kernel_rfl) (fun _ _ _ h => h) (Or.inl ⟨by rfl, ?_⟩) ?_ ?_
        rotate_left
        · intro w'
          go_simp
          with_reducible rfl
        rotate_left
        · simp only [Act.put, List.setIfInBounds_toArray, List.set_cons_zero, List.set_cons_succ, i64_w, i32_w]
          rfl
        refine one_ (i := 7) (N := some 48) #[true, true, true, true, true, true, true, true, true, true, true, false, false] rfl rfl (by kernel_rfl) (by decide) (fun K hK => ?_)
        obtain ⟨Ag, cg, e0⟩ := PSH.out.size
        refine goes_ Try.func33 (by kernel_rfl) rfl #[.pointer (some ⟨g, 0, none⟩)] (by rfl) rfl rfl (by simp only [List.map_toArray, List.map_cons, List.map_nil]; rfl) ?_
        with_reducible refine (Size_in _ g s'.up.length cg Ag e0).mono ?_
        rintro e wq ⟨rfl, hw_⟩
        refine ⟨_, rfl, ?_⟩
        subst hw_
        clear e0
        refine hK.out _ _ ((blk_cell PSH.out.mbox 0).trans rfl) (fun hHeld => ?_)
        clear hK K
        refine norm_ (a' := ?_) ?_ ?_
        rotate_left
        · show Act.put _ (some 48) _ = _
          simp only [Act.put, List.setIfInBounds_toArray, List.set_cons_zero, List.set_cons_succ, i64_w, i32_w]
          rfl
        refine pure_ (i := 11) (N := some 52) (v := ?_) (a' := ?_) #[true, true, true, true, true, true, true, true, true, true, true, true, false] rfl rfl (by kernel_rfl) (fun _ _ _ h => h) (Or.inl ⟨by rfl, ?_⟩) ?_ ?_
        rotate_left
        · intro w'
          go_simp
          with_reducible rfl
        rotate_left
        · simp only [Act.put, List.setIfInBounds_toArray, List.set_cons_zero, List.set_cons_succ, i64_w, i32_w]
          rfl
        refine pure_ (i := 12) (N := some 53) (v := ?_) (a' := ?_) #[true, true, true, true, true, true, true, true, true, true, true, true, true] rfl rfl (by kernel_rfl) (fun _ _ _ h => h) (Or.inl ⟨by rfl, ?_⟩) ?_ ?_
        rotate_left
        · intro w'
          go_simp
          with_reducible rfl
        rotate_left
        · simp only [Act.put, List.setIfInBounds_toArray, List.set_cons_zero, List.set_cons_succ, i64_w, i32_w]
          rfl
        refine done_ (by kernel_rfl) ?_

        go_wp2
        go_roundg kz
        case measure => have := HK.out; omega
        case rel => exact ⟨k + 1, s', V', r', _, _, _, _, _, _, congrArg (Value.int .i64) HKW.out, ⟨by have := HK.out; omega⟩, HS2, PSH⟩
    | zero =>
      obtain rfl : k = l0.length := by have := HK.out; omega
      have i1 : decide ((l0.length : Int) < (l0.length : Int)) = false := decide_eq_false (by omega)
      obtain ⟨Au, cu, rfl⟩ := own_slice PSH.out.lu
      obtain ⟨m0, m1⟩ := two2 PSH.out.mbox
      have HL := Aside0.mk HS.out.le
      go_wp2
      clear m0 m1
      go_loopg [58] s.up.length (fun kq v58 wr => ∃ (j : Nat) (s' : GS) (V' : Nat → Pl) (r' : Nat → Nat) (u0 u1 u2 u3 nu no : Value), v58 = .int .i64 (j : Int) ∧ Aside0 (j + kq = s.up.length) ∧ Aside0 (Sane V' r' s') ∧ Aside0 (PS W wr g m u0 u1 u2 u3 nu no s' s'.up s'.own) ∧ Aside0 (s'.up.length = s.up.length))
      case atStart => exact ⟨0, s, V, r, _, _, _, _, _, _, rfl, ⟨by omega⟩, HS, PSH, ⟨rfl⟩⟩
      case round =>
        clear PSH HS
        obtain ⟨j, s', V', r', u0, u1, u2, u3, nu, no, rfl, HJ, HS, PSH, SL⟩ := hrel
        cases gk with
        | succ ky =>
          have N0 := Aside0.mk (show j < s.up.length from by have := HJ.out; omega)
          have N1 := Aside0.mk (show j < s'.up.length from by rw [SL.out]; exact N0.out)
          have n1 : decide ((j : Int) < (s.up.length : Int)) = true := decide_eq_true (by have := N0.out; omega)
          have n2 : (j < s.up.length) = True := eq_true N0.out
          have HJW := Aside0.mk (show wrap64 ((j : Int) + 1) = (j : Int) + 1 from by have := N0.out; have := HL.out; unfold wrap64; omega)
          obtain ⟨A2, c2, rfl⟩ := own_slice PSH.out.lu
          obtain ⟨A3, c3, rfl⟩ := own_slice PSH.out.lo
          obtain ⟨s2, ⟨ka, hka⟩, hs', ha⟩ := at_ev V' r' (r' j + 1) s' j (Nat.lt_succ_self _) HS.out N1.out
          obtain ⟨kw, hkw⟩ := wh_ev HS.out (r' j + 1) j (Nat.lt_succ_self _) N1.out
          obtain ⟨q, hq⟩ : ∃ q, V' j = q := ⟨_, rfl⟩
          have FA := Aside0.mk (show atF ka s' j = some (q, s2) from hq ▸ hka ka (Nat.le_refl _))
          have FW := Aside0.mk (show whF kw s'.up s'.own j = some q from hq ▸ hkw kw (Nat.le_refl _))
          have HS2 := Aside0.mk hs'
          have UO := Aside0.mk (And.intro ha.up ha.own)
          have LL := Aside0.mk (show s'.own.length = s'.up.length ∧ s'.kn.length = s'.up.length ∧ s'.wh.length = s'.up.length from ⟨HS.out.l1, HS.out.l2, HS.out.l3⟩)
          clear hka hkw hs' ha hq
          go_upto_region 19 with (first | ((with_reducible refine gate_dst (N := 64) rfl ?_); (with_reducible refine gate_callee (f := 32) rfl ?_); refine goesL_ (some 64) rfl rfl Try.func32 (by kernel_rfl) rfl #[.pointer (some ⟨g, 0, none⟩), .int .i64 (j : Int)] rfl (by (try simp only [List.map_toArray, List.map_cons, List.map_nil]); first | done | rfl) ?_; (refine (At_ps PSH.out ka j q s2 N1.out LL.out.1 LL.out.2.1 LL.out.2.2 FA.out).mono ?_); rintro e w4 ⟨rfl, t0, t1, t2, t3, hP⟩; refine ⟨_, rfl, ?_⟩; have PSH := Aside0.mk hP; clear hP) | ((with_reducible refine gate_dst (N := 12) rfl ?_); refine box_event ?hg (N := 12) ?hd (cs := #[.int .i64 0, .int .i64 0, .int .i64 0, .int .i64 0]) (t := tP) ?hr ?_; (case hd => rfl); (case hg => rfl); (case hr => first | (go_simp; done) | (go_simp; rfl)); intro g12 hg wu hbox hb; have HE := Aside0.mk hb; have GE := Aside0.mk (Nat.le_of_eq hg.symm); have B12 := Aside0.mk hbox; clear hg hbox hb; have cz0 := (blk_cell B12.out 0).trans rfl; have fz0 := blk_frozen B12.out 0; have cz1 := (blk_cell B12.out 1).trans rfl; have fz1 := blk_frozen B12.out 1; have cz2 := (blk_cell B12.out 2).trans rfl; have fz2 := blk_frozen B12.out 2; have cz3 := (blk_cell B12.out 3).trans rfl; have fz3 := blk_frozen B12.out 3))
          have HE := Aside0.mk (show Below w4.heap.size w4 ((((wu.setCell ⟨g12, 0, none⟩ (.int .i64 q.x)).setCell ⟨g12, 1, none⟩ (.int .i64 q.y)).setCell ⟨g12, 2, none⟩ (.int .i64 q.a)).setCell ⟨g12, 3, none⟩ (.int .i64 q.s)) from below_set (below_set (below_set (below_set (HE.out) GE.out) GE.out) GE.out) GE.out)
          have PSH := Aside0.mk (PSH.out.below HE.out)
          have B12 := Aside0.mk (show (((((wu.setCell ⟨g12, 0, none⟩ (.int .i64 q.x)).setCell ⟨g12, 1, none⟩ (.int .i64 q.y)).setCell ⟨g12, 2, none⟩ (.int .i64 q.a)).setCell ⟨g12, 3, none⟩ (.int .i64 q.s))).heap[g12]? = some (.cells #[.int .i64 q.x, .int .i64 q.y, .int .i64 q.a, .int .i64 q.s] tP (0, 0)) from blk_put (blk_put (blk_put (blk_put (B12.out) 0 (.int .i64 q.x) rfl) 1 (.int .i64 q.y) rfl) 2 (.int .i64 q.a) rfl) 3 (.int .i64 q.s) rfl)
          clear HE GE cz0 fz0 cz1 fz1 cz2 fz2 cz3 fz3
          generalize ((((wu.setCell ⟨g12, 0, none⟩ (.int .i64 q.x)).setCell ⟨g12, 1, none⟩ (.int .i64 q.y)).setCell ⟨g12, 2, none⟩ (.int .i64 q.a)).setCell ⟨g12, 3, none⟩ (.int .i64 q.s)) = wv at PSH B12 ⊢
          have PSH := Aside0.mk PSH.out.drew
          have B12 := Aside0.mk (blk_drew B12.out)
          refine start_ (n := 9) (S := fun w' => w'.cell? ⟨g12, 0, none⟩ = some (.int .i64 q.x) ∧ w'.cell? ⟨g12, 1, none⟩ = some (.int .i64 q.y) ∧ w'.cell? ⟨g12, 2, none⟩ = some (.int .i64 q.a) ∧ w'.cell? ⟨g12, 3, none⟩ = some (.int .i64 q.s) ∧ w'.cell? ⟨m, 0, none⟩ = some (.slice A2 s'.up.length c2) ∧ w'.cell? ⟨m, 1, none⟩ = some (.slice A3 s'.own.length c3)) (ds := []) #[false, false, false, false, false, false, false, false, false] (by kernel_rfl) rfl rfl ⟨(blk_cell B12.out 0).trans rfl, (blk_cell B12.out 1).trans rfl, (blk_cell B12.out 2).trans rfl, (blk_cell B12.out 3).trans rfl, (blk_cell PSH.out.mbox 0).trans rfl, (blk_cell PSH.out.mbox 1).trans rfl⟩ (fun hHeld => ?_)
          generalize wv.drew = wd6 at PSH B12 hHeld ⊢
          refine pure_ (i := 0) (N := some 67) (v := ?_) (a' := ?_) #[true, false, false, false, false, false, false, false, false] rfl rfl (by kernel_rfl) (fun _ _ _ h => h) (Or.inl ⟨by rfl, ?_⟩) ?_ ?_
          rotate_left
          · intro w'
            go_simp
            with_reducible rfl
          rotate_left
          · simp only [Act.put, List.setIfInBounds_toArray, List.set_cons_zero, List.set_cons_succ, i64_w, i32_w]
            rfl
          refine pure_ (i := 1) (N := some 68) (v := ?_) (a' := ?_) #[true, true, false, false, false, false, false, false, false] rfl rfl (by kernel_rfl) (fun _ _ _ h => h) (Or.inl ⟨by rfl, ?_⟩) ?_ ?_
          rotate_left
          · intro w'
            go_simp
            with_reducible rfl
          rotate_left
          · simp only [Act.put, List.setIfInBounds_toArray, List.set_cons_zero, List.set_cons_succ, i64_w, i32_w]
            rfl
          refine pure_ (i := 2) (N := some 69) (v := ?_) (a' := ?_) #[true, true, true, false, false, false, false, false, false] rfl rfl (by kernel_rfl) (fun _ _ _ h => h) (Or.inl ⟨by rfl, ?_⟩) ?_ ?_
          rotate_left
          · intro w'
            go_simp
            with_reducible rfl
          rotate_left
          · simp only [Act.put, List.setIfInBounds_toArray, List.set_cons_zero, List.set_cons_succ, i64_w, i32_w]
            rfl
          refine pure_ (i := 5) (N := some 72) (v := ?_) (a' := ?_) #[true, true, true, false, false, true, false, false, false] rfl rfl (by kernel_rfl) (fun _ _ _ h => h) (Or.inl ⟨by rfl, ?_⟩) ?_ ?_
          rotate_left
          · intro w'
            go_simp
            with_reducible rfl
          rotate_left
          · simp only [Act.put, List.setIfInBounds_toArray, List.set_cons_zero, List.set_cons_succ, i64_w, i32_w]
            rfl
          refine take_ (i := 3) (N := some 70) (v := ?_) (a' := ?_) #[true, true, true, true, false, true, false, false, false] rfl rfl (by kernel_rfl) (fun _ _ _ h => h) (Or.inl ⟨by rfl, ?_⟩) hHeld ?_ ?_
          rotate_left
          · rintro w' ⟨s0, s1, s2, s3, s4, s5⟩
            go_simp
            with_reducible rfl
          rotate_left
          · simp only [Act.put, List.setIfInBounds_toArray, List.set_cons_zero, List.set_cons_succ, i64_w, i32_w]
            rfl
          refine take_ (i := 4) (N := some 71) (v := ?_) (a' := ?_) #[true, true, true, true, true, true, false, false, false] rfl rfl (by kernel_rfl) (fun _ _ _ h => h) (Or.inl ⟨by rfl, ?_⟩) hHeld ?_ ?_
          rotate_left
          · rintro w' ⟨s0, s1, s2, s3, s4, s5⟩
            go_simp
            with_reducible rfl
          rotate_left
          · simp only [Act.put, List.setIfInBounds_toArray, List.set_cons_zero, List.set_cons_succ, i64_w, i32_w]
            rfl
          refine one_ (i := 6) (N := some 73) #[true, true, true, true, true, true, true, false, false] rfl rfl (by kernel_rfl) (by decide) (fun K hK => ?_)
          refine goes_ Try.func37 (by kernel_rfl) rfl #[.agg #[.slice A2 s'.up.length c2, .slice A3 s'.own.length c3], .int .i64 (j : Int)] (by rfl) rfl rfl (by simp only [List.map_toArray, List.map_cons, List.map_nil]; rfl) ?_
          with_reducible refine (where_any kw j q FW.out A2 A3 _ PSH.out.nd).mono ?_
          rintro e w5 ⟨rfl, hb⟩
          refine ⟨_, rfl, ?_⟩
          have PSH := Aside0.mk (PSH.out.below hb)
          have B12 := Aside0.mk (blk_below B12.out hb)
          clear hb
          refine hK.out _ _ ⟨(blk_cell B12.out 0).trans rfl, (blk_cell B12.out 1).trans rfl, (blk_cell B12.out 2).trans rfl, (blk_cell B12.out 3).trans rfl, (blk_cell PSH.out.mbox 0).trans rfl, (blk_cell PSH.out.mbox 1).trans rfl⟩ (fun hHeld => ?_)
          clear hK K
          refine norm_ (a' := ?_) ?_ ?_
          rotate_left
          · show Act.put _ (some 73) _ = _
            simp only [Act.put, List.setIfInBounds_toArray, List.set_cons_zero, List.set_cons_succ, i64_w, i32_w]
            rfl
          refine pure_ (i := 7) (N := some 74) (v := ?_) (a' := ?_) #[true, true, true, true, true, true, true, true, false] rfl rfl (by kernel_rfl) (fun _ _ _ h => h) (Or.inl ⟨by rfl, ?_⟩) ?_ ?_
          rotate_left
          · intro w'
            go_simp
            with_reducible rfl
          rotate_left
          · simp only [Act.put, List.setIfInBounds_toArray, List.set_cons_zero, List.set_cons_succ, i64_w, i32_w]
            rfl
          refine pure_ (i := 8) (N := some 75) (v := ?_) (a' := ?_) #[true, true, true, true, true, true, true, true, true] rfl rfl (by kernel_rfl) (fun _ _ _ h => h) (Or.inl ⟨by rfl, ?_⟩) ?_ ?_
          rotate_left
          · intro w'
            go_simp
            with_reducible rfl
          rotate_left
          · simp only [Act.put, List.setIfInBounds_toArray, List.set_cons_zero, List.set_cons_succ, i64_w, i32_w]
            rfl
          refine done_ (by kernel_rfl) ?_

          go_wp2
          go_roundg ky
          case measure => have := HJ.out; omega
          case rel => exact ⟨j + 1, s2, V', r', _, _, _, _, _, _, congrArg (Value.int .i64) HJW.out, ⟨by have := HJ.out; omega⟩, HS2, ⟨by rw [UO.out.1, UO.out.2]; exact PSH.out⟩, ⟨by rw [UO.out.1]; exact SL.out⟩⟩
        | zero =>
          obtain rfl : j = s.up.length := by have := HJ.out; omega
          have n1 : decide ((s.up.length : Int) < (s.up.length : Int)) = false := decide_eq_false (by omega)
          go_wp2
          go_ret
          exact ⟨rfl, PSH.out.rw.bel⟩
theorem walk_ok (A0 : Option Addr) (c0 : Nat) (l0 : List S67) {W : World} (hr0 : Kd.C k67 W A0 l0.length l0) (hc0 : l0.length ≤ c0) {p q : Prop} (ok0 : l0.length ≤ 9223372036854775807 ∧ p) (A1 : Option Addr) (c1 : Nat) (l1 : List S52) (hr1 : Kd.C k52 W A1 l1.length l1) (hc1 : l1.length ≤ c1) (ok1 : l1.length ≤ 9223372036854775807 ∧ q) :
    Calls Try.prog 10 #[.slice A0 l0.length c0, .slice A1 l1.length c1] W fun e w' => e = .returned (.bool true) ∧ Below W.heap.size W w' :=
  walk A0 c0 l0 hr0 hc0 ok0.1 A1 c1 l1 hr1 hc1 ok1.1
end Go.Proofs.Ytdopeneehminaaa.GraphPlaysWalkGraphPlays
