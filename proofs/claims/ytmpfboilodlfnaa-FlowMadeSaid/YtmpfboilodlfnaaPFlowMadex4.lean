-- Printed by a program: the print with changes of this session (wip/printpatch.py).
import Derived.Test.YtmpfboilodlfnaaPFlowMadex0
import Derived.Test.YtmpfboilodlfnaaPFlowMadex1
import Derived.Test.YtmpfboilodlfnaaPFlowMadex2
import Derived.Test.YtmpfboilodlfnaaPFlowMadex3
namespace Go.Proofs.Ytmpfboilodlfnaa.PFlowMade
open Go.Proofs.Ytmpfboilodlfnaa.Fnv Go.Proofs.Ytmpfboilodlfnaa.Ary
open Go.RowKit Go.Proofs.YtmpfboilodlfnaaW.PrintWords Go.Proofs.YtmpfboilodlfnaaW.PrintLast Go.Proofs.YtmpfboilodlfnaaW.PrintMore
attribute [local go_sem] max2_int min2_int max_two min_two max_three min_three max_four min_four   -- for this text's walks alone
set_option linter.unusedVariables false
set_option linter.unusedSimpArgs false

/-! ### flow_Walk: function 15 -/
mutual
def flow_Walk.j0 : Nat → List Int → Int → List Int → Bool → Int → Int → List Int → Option (List Int × Int)
 | 0, _, _, _, _, _, _, _ => none
 | k + 1, x1, x2, x8, x29, x120000, x120001, x120002 => if x29 = true then (some (([] : List Int), 1)) else ((flow_Field.f k x120000 x120001 x120002 x1).bind fun bt124 => (if 0 ≤ x2 then (if x2 < (bt124.1.length : Int) then (if (rd bt124.1 x2) < 0 then (some (([] : List Int), 4)) else (flow_Walk.l0 k x2 x8 (([x2] : List Int)) x120000 x120001 x120002)) else (none)) else (none)))
def flow_Walk.l0 : Nat → Int → List Int → List Int → Int → Int → List Int → Option (List Int × Int)
 | 0, _, _, _, _, _, _ => none
 | k + 1, x2, x8, x12, x120000, x120001, x120002 => if 0 ≤ x2 then (if x2 < (x8.length : Int) then (if (rd x8 x2) = 0 then (some (x12, 0)) else ((flow_Step.f k x120000 x120001 x120002 x2 (rd x8 x2)).bind fun t134 => (if x12.length < 17592186044416 then (flow_Walk.l0 k t134 x8 (x12 ++ [t134]) x120000 x120001 x120002) else (none)))) else (none)) else (none)
end
def flow_Walk.f (k : Nat) (a0_0 : Int) (a0_1 : Int) (l0_2 : List Int) (l1 : List Int) (a2 : Int) : Option (List Int × Int) := (flow_Ways.f k a0_0 a0_1 l0_2 l1).bind fun bt120 => (if bt120.2 = 0 then (if a2 < 0 then (flow_Walk.j0 k l1 a2 bt120.1 true a0_0 a0_1 l0_2) else (flow_Walk.j0 k l1 a2 bt120.1 (decide (a2 ≥ (bt120.1.length : Int))) a0_0 a0_1 l0_2)) else (some (([] : List Int), bt120.2)))
theorem flow_Walk.mono_l : ∀ k, (∀ y0 y1 y2 y3 y4 y5 y6, LeO (flow_Walk.j0 k y0 y1 y2 y3 y4 y5 y6) (flow_Walk.j0 (k + 1) y0 y1 y2 y3 y4 y5 y6)) ∧ (∀ y0 y1 y2 y3 y4 y5, LeO (flow_Walk.l0 k y0 y1 y2 y3 y4 y5) (flow_Walk.l0 (k + 1) y0 y1 y2 y3 y4 y5))
 | 0 => ⟨fun _ _ _ _ _ _ _ r h => by simp [flow_Walk.j0] at h, fun _ _ _ _ _ _ r h => by simp [flow_Walk.l0] at h⟩
 | k + 1 => by
  obtain ⟨ih0, ih1⟩ := flow_Walk.mono_l k
  refine ⟨?_, ?_⟩
  ·intro y0 y1 y2 y3 y4 y5 y6
   unfold flow_Walk.j0
   repeat' first
   | (with_reducible exact ih0 _ _ _ _ _ _ _)
   | (with_reducible exact ih1 _ _ _ _ _ _)
   | (with_reducible exact flow_Field.mono _ _ _ _ _)
   | (with_reducible exact flow_Step.mono _ _ _ _ _ _)
   | (with_reducible exact flow_Ways.mono _ _ _ _ _)
   | (with_reducible exact LeO.refl _)
   | (with_reducible exact LeO.none _)
   | (with_reducible refine LeO.ite ?_ ?_)
   | (with_reducible refine LeO.bind ?_ (fun _ => ?_))
   | exact ih0 _ _ _ _ _ _ _
   | exact ih1 _ _ _ _ _ _
   | exact flow_Field.mono _ _ _ _ _
   | exact flow_Step.mono _ _ _ _ _ _
   | exact flow_Ways.mono _ _ _ _ _
   | exact LeO.none _
   | refine LeO.ite ?_ ?_
   | refine LeO.bind ?_ (fun _ => ?_)
  ·intro y0 y1 y2 y3 y4 y5
   unfold flow_Walk.l0
   repeat' first
   | (with_reducible exact ih0 _ _ _ _ _ _ _)
   | (with_reducible exact ih1 _ _ _ _ _ _)
   | (with_reducible exact flow_Field.mono _ _ _ _ _)
   | (with_reducible exact flow_Step.mono _ _ _ _ _ _)
   | (with_reducible exact flow_Ways.mono _ _ _ _ _)
   | (with_reducible exact LeO.refl _)
   | (with_reducible exact LeO.none _)
   | (with_reducible refine LeO.ite ?_ ?_)
   | (with_reducible refine LeO.bind ?_ (fun _ => ?_))
   | exact ih0 _ _ _ _ _ _ _
   | exact ih1 _ _ _ _ _ _
   | exact flow_Field.mono _ _ _ _ _
   | exact flow_Step.mono _ _ _ _ _ _
   | exact flow_Ways.mono _ _ _ _ _
   | exact LeO.none _
   | refine LeO.ite ?_ ?_
   | refine LeO.bind ?_ (fun _ => ?_)
theorem flow_Walk.mono : ∀ a0 a1 a2 a3 a4 k, LeO (flow_Walk.f k a0 a1 a2 a3 a4) (flow_Walk.f (k + 1) a0 a1 a2 a3 a4) := by
 intro a0 a1 a2 a3 a4 k
 obtain ⟨ih0, ih1⟩ := flow_Walk.mono_l k
 unfold flow_Walk.f
 repeat' first
   | (with_reducible exact ih0 _ _ _ _ _ _ _)
   | (with_reducible exact ih1 _ _ _ _ _ _)
   | (with_reducible exact flow_Field.mono _ _ _ _ _)
   | (with_reducible exact flow_Step.mono _ _ _ _ _ _)
   | (with_reducible exact flow_Ways.mono _ _ _ _ _)
   | (with_reducible exact LeO.refl _)
   | (with_reducible exact LeO.none _)
   | (with_reducible refine LeO.ite ?_ ?_)
   | (with_reducible refine LeO.bind ?_ (fun _ => ?_))
   | exact ih0 _ _ _ _ _ _ _
   | exact ih1 _ _ _ _ _ _
   | exact flow_Field.mono _ _ _ _ _
   | exact flow_Step.mono _ _ _ _ _ _
   | exact flow_Ways.mono _ _ _ _ _
   | exact LeO.none _
   | refine LeO.ite ?_ ?_
   | refine LeO.bind ?_ (fun _ => ?_)
def flow_Walk.T11 : Bool × List (List Nat × List Nat) := (true, [([], []), ([], []), ([], []), ([], []), ([2, 3], [2, 3]), ([4], [4]), ([0, 1, 5], [0, 1, 5]), ([6, 6, 0, 1, 2, 3, 4, 5, 6], [1, 3, 6])])
def flow_Walk.B11 : List Nat := [0, 0, 0, 0, 12, 28, 63, 127]
theorem flow_Walk.tab11 : rtab .any (opsOf Try.f15 11) = flow_Walk.T11 := by kernel_rfl
theorem flow_Walk.bits11 : waitsOk flow_Walk.T11.2 flow_Walk.B11 = true := by kernel_rfl
set_option maxHeartbeats 8000000 in
set_option maxRecDepth 100000 in
theorem flow_Walk.calls (k : Nat) (a0_0 : Int) (a0_1 : Int) (A0_2 : Option Addr) (c0_2 : Nat) (l0_2 : List Int) (A1 : Option Addr) (c1 : Nat) (l1 : List Int) (a2 : Int) (r1 : List Int) (r2 : Int) (w : World) (hr0_2 : Kd.C (Kd.int .i64) w A0_2 l0_2.length l0_2) (hc0_2 : l0_2.length ≤ c0_2) (hr1 : Kd.C (Kd.int .i64) w A1 l1.length l1) (hc1 : l1.length ≤ c1) (h : flow_Walk.f k a0_0 a0_1 l0_2 l1 a2 = some (r1, r2)) :
  Calls Try.prog 15 #[.agg #[.int .i64 a0_0, .int .i64 a0_1, .slice A0_2 l0_2.length c0_2], .slice A1 l1.length c1, .int .i64 a2] w fun e w' => ∃ v0_ : Value, e = .returned (.tuple #[v0_, .int .i64 r2]) ∧ Kd.R (Kd.int .i64) 3 w' w.heap.size (fun _ => True) v0_ r1 ∧ Below w.heap.size w w' := by
 have hu25 := Try.underlying25
 have HR0_2 := Aside0.mk hr0_2
 have HC0_2 := Aside0.mk hc0_2
 clear hr0_2 hc0_2
 have HR1 := Aside0.mk hr1
 have HC1 := Aside0.mk hc1
 clear hr1 hc1
 have HB := Aside0.mk (Below.refl w.heap.size w)
 have H : ((flow_Ways.f k a0_0 a0_1 l0_2 l1).bind fun bt120 => (if bt120.2 = 0 then (if a2 < 0 then (flow_Walk.j0 k l1 a2 bt120.1 true a0_0 a0_1 l0_2) else (flow_Walk.j0 k l1 a2 bt120.1 (decide (a2 ≥ (bt120.1.length : Int))) a0_0 a0_1 l0_2)) else (some (([] : List Int), bt120.2)))) = some (r1, r2) := h
 clear h
 replace H := Option.bind_eq_some_iff.mp H
 obtain ⟨⟨t120, t123⟩, A40, H⟩ := H
 replace H : (if t123 = 0 then (if a2 < 0 then (flow_Walk.j0 k l1 a2 t120 true a0_0 a0_1 l0_2) else (flow_Walk.j0 k l1 a2 t120 (decide (a2 ≥ (t120.length : Int))) a0_0 a0_1 l0_2)) else (some (([] : List Int), t123))) = some (r1, r2) := H
 have A4 := Aside0.mk A40
 clear A40
 by_cases c5 : t123 = 0
 ·rw [if_pos c5] at H
  have c5b0 : (t123 == 0) = true := beq_iff_eq.mpr c5
  have c5b1 : (t123 != 0) = false := bne_eq_false_iff_eq.mpr c5
  clear c5
  have HC6 := Aside0.mk H
  clear H
  go_enter Try.func15, Try.ntmps15
  go_upto_region 4 with (first | ((with_reducible refine gate_dst (N := 3) rfl ?_); (try (refine gate_guard (by rfl) ?_; dsimp only)); refine box_event ?hg (N := 3) ?hd (cs := #[.int .i64 a0_0, .int .i64 a0_1, .slice A0_2 l0_2.length c0_2]) (t := 25) ?hr ?_; (case hd => rfl); (case hg => rfl); (case hr => first | (go_simp; done) | (go_simp; rfl)); intro gb119 hg w7 hbox hb; have n0_ := Aside0.mk (below_step (by repeat (first | (with_reducible first | exact HB.out | apply below_alloc | apply pw_below_drewN | apply below_drew1) | exact HB.out)) hb); have n1_ := Aside0.mk (hbox); have n2_ := Aside0.mk ((by rw [hg]; exact (below_size (by repeat (first | (with_reducible first | exact HB.out | apply below_alloc | apply pw_below_drewN | apply below_drew1) | exact HB.out))) : w.heap.size ≤ gb119)); have n3_ := Aside0.mk ((by rw [hg]; exact (below_size (by repeat (first | (with_reducible first | exact HB.out | apply below_alloc | apply pw_below_drewN | apply below_drew1) | exact HB.out))) : w.heap.size ≤ gb119)); clear HB; have HB := n0_; have BK119 := n1_; have GW119 := n2_; have GE119 := n3_; clear n0_ n1_ n2_ n3_; clear hb hbox hg; have hcz8_0 : w7.cell? ⟨gb119, 0, none⟩ = some (.int .i64 a0_0) := (blk_cell BK119.out 0).trans rfl; have hcz8_1 : w7.cell? ⟨gb119, 1, none⟩ = some (.int .i64 a0_1) := (blk_cell BK119.out 1).trans rfl; have hcz8_2 : w7.cell? ⟨gb119, 2, none⟩ = some (.slice A0_2 l0_2.length c0_2) := (blk_cell BK119.out 2).trans rfl; have hfz8_0 := blk_frozen BK119.out 0; have hfz8_1 := blk_frozen BK119.out 1; have hfz8_2 := blk_frozen BK119.out 2) | ((with_reducible refine gate_callee (f := 22) rfl ?_); refine goesL_ (some 16) rfl rfl Try.func22 (by kernel_rfl) rfl #[.agg #[.int .i64 a0_0, .int .i64 a0_1, .slice A0_2 l0_2.length c0_2], .slice A1 l1.length c1] rfl (by (try simp only [zm1, zm2, zm3]); first | done | rfl) ?_; (with_reducible refine (flow_Ways.calls k a0_0 a0_1 _ _ l0_2 _ _ l1 t120 t123 _ ?side1 ?side2 ?side3 ?side4 A4.out).mono ?_); (case side1 => repeat (first | exact (Kd.C_below HR0_2.out HB.out) | (with_reducible refine Kd.C_alloc ?_ _) | (with_reducible refine Kd.C_drewN ?_ _) | (with_reducible refine Kd.C_drew ?_))); (case side2 => exact HC0_2.out); (case side3 => repeat (first | exact (Kd.C_below HR1.out HB.out) | (with_reducible refine Kd.C_alloc ?_ _) | (with_reducible refine Kd.C_drewN ?_ _) | (with_reducible refine Kd.C_drew ?_))); (case side4 => exact HC1.out); rintro e w9 ⟨v121, rfl, ho0, hb⟩; refine ⟨_, rfl, ?_⟩; have n0_ := Aside0.mk (Kd.R_lower ho0 (below_size (by repeat (first | (with_reducible first | exact HB.out | apply below_alloc | apply pw_below_drewN | apply below_drew1 | refine below_set ?_ GE119.out) | exact HB.out)))); have n1_ := Aside0.mk (bb hb BK119.out); have n2_ := Aside0.mk (below_step (by repeat (first | (with_reducible first | exact HB.out | apply below_alloc | apply pw_below_drewN | apply below_drew1 | refine below_set ?_ GE119.out) | exact HB.out)) hb); clear BK119; clear HB; have HO122 := n0_; have BK119 := n1_; have HB := n2_; clear n0_ n1_ n2_; (try clear hb); (try clear hb2); (try clear hk); (try clear hi); (try clear ho0)))
  (try simp only [Act.put, zq1, zq2, zq3])
  go_cut [29] (fun v29 wc => ∃ (kq : Nat) (x29_5 : Bool), v29 = .bool x29_5 ∧ Aside0 (flow_Walk.j0 kq l1 a2 t120 x29_5 a0_0 a0_1 l0_2 = some (r1, r2)) ∧ Aside0 (kq ≤ k) ∧ Aside0 (Kd.R (Kd.int .i64) 3 wc w.heap.size (fun _ => True) v121 t120) ∧ Aside0 (wc.heap[gb119]? = some (.cells #[.int .i64 a0_0, .int .i64 a0_1, (.slice A0_2 l0_2.length c0_2)] 25 (0, 0))) ∧ Aside0 (Below w.heap.size w wc))
  case first =>
   have H := HC6.out
   clear HC6
   by_cases c10 : a2 < 0
   ·rw [if_pos c10] at H
    have c10b0 : decide (a2 < 0) = true := decide_eq_true c10
    clear c10
    (first | rw [c10b0] | (simp only [i64_w, i32_w]; rw [c10b0]) | skip)
    have H' := Aside0.mk H
    clear H
    go_wp2
    go_meet
    case rel => exact ⟨_, (true), (by first | rfl | (simp; done) | (simp [*]; done)), H', ⟨by first | omega | exact Nat.le_refl _⟩, ⟨by (with_reducible repeat (first | apply Kd.R_alloc | apply Kd.R_drewN | apply Kd.R_drew)); exact HO122.out⟩, ⟨BK119.out⟩, ⟨by repeat (first | (with_reducible first | exact HB.out | apply below_alloc | apply pw_below_drewN | apply below_drew1 | refine below_set ?_ GE119.out) | exact HB.out)⟩⟩
   ·rw [if_neg c10] at H
    have c10b0 : decide (a2 < 0) = false := decide_eq_false c10
    clear c10
    (first | rw [c10b0] | (simp only [i64_w, i32_w]; rw [c10b0]) | skip)
    have H' := Aside0.mk H
    clear H
    obtain ⟨Ao11, co11, eo11⟩ := Kd.R_slice HO122.out
    subst eo11
    go_wp2
    go_meet
    case rel => exact ⟨_, (decide (a2 ≥ (t120.length : Int))), (by first | rfl | (simp; done) | (simp [*]; done)), H', ⟨by first | omega | exact Nat.le_refl _⟩, ⟨by (with_reducible repeat (first | apply Kd.R_alloc | apply Kd.R_drewN | apply Kd.R_drew)); exact HO122.out⟩, ⟨BK119.out⟩, ⟨by repeat (first | (with_reducible first | exact HB.out | apply below_alloc | apply pw_below_drewN | apply below_drew1 | refine below_set ?_ GE119.out) | exact HB.out)⟩⟩
  case rest =>
   clear HC6
   try clear c1; try clear c2; try clear p2; try clear c5; try clear c5b0; try clear c5b1; try clear c10; try clear c10b0
   try clear hcz8_0; try clear hcz8_1; try clear hcz8_2; try clear hfz8_0; try clear hfz8_1; try clear hfz8_2
   obtain ⟨kq, x29_5, rfl, HA, HJ5, HO_8, BK119, HB⟩ := hcut
   cases kq with
   | zero => exact absurd HA.out (by simp [flow_Walk.j0])
   | succ kj5 =>
    have H := HA.out
    clear HA
    simp only [flow_Walk.j0] at H
    by_cases c12 : x29_5 = true
    ·subst c12
     have H1 : (some (([] : List Int), 1)) = some (r1, r2) := by rw [if_pos rfl] at H; exact H
     clear H
     have H := H1
     clear H1
     simp only [Option.some.injEq, Prod.mk.injEq] at H
     obtain ⟨rfl, rfl⟩ := H
     go_wp2
     go_ret2
     exact ⟨_, by first | rfl | (simp [errW_none, errW_some] <;> rfl) | (simp [*, errW_none, errW_some] <;> rfl), by first | exact Kd.R_nil _ _ _ _ _ | exact Kd.N_nil _ _ _ _ _ | exact Kd.V_nil _ _ _ _ _ | exact Kd.Q_nil _ _ _ _ _ | exact Kd.S_nil _ _ _ _ _, by repeat (first | (with_reducible first | exact HB.out | apply below_alloc | apply pw_below_drewN | apply below_drew1 | refine below_set ?_ GE119.out) | exact HB.out)⟩
    ·replace c12 := Bool.eq_false_iff.mpr c12
     subst c12
     have H1 : ((flow_Field.f kj5 a0_0 a0_1 l0_2 l1).bind fun bt124 => (if 0 ≤ a2 then (if a2 < (bt124.1.length : Int) then (if (rd bt124.1 a2) < 0 then (some (([] : List Int), 4)) else (flow_Walk.l0 kj5 a2 t120 (([a2] : List Int)) a0_0 a0_1 l0_2)) else (none)) else (none))) = some (r1, r2) := by rw [if_neg (show ¬ (false = true) by decide)] at H; exact H
     clear H
     have H := H1
     clear H1
     replace H := Option.bind_eq_some_iff.mp H
     obtain ⟨⟨t124, t127⟩, A130, H⟩ := H
     replace H : (if 0 ≤ a2 then (if a2 < (t124.length : Int) then (if (rd t124 a2) < 0 then (some (([] : List Int), 4)) else (flow_Walk.l0 kj5 a2 t120 (([a2] : List Int)) a0_0 a0_1 l0_2)) else (none)) else (none)) = some (r1, r2) := H
     have A13 := Aside0.mk A130
     clear A130
     by_cases c14 : 0 ≤ a2
     ·rw [if_pos c14] at H
      have c14b0 : decide (0 ≤ a2) = true := decide_eq_true c14
      clear c14
      by_cases c15 : a2 < (t124.length : Int)
      ·rw [if_pos c15] at H
       have c15b0 : decide (a2 < (t124.length : Int)) = true := decide_eq_true c15
       clear c15
       by_cases c16 : (rd t124 a2) < 0
       ·rw [if_pos c16] at H
        have c16b0 : decide ((rd t124 a2) < 0) = true := decide_eq_true c16
        clear c16
        simp only [Option.some.injEq, Prod.mk.injEq] at H
        obtain ⟨rfl, rfl⟩ := H
        have hcz17_0 : wc.cell? ⟨gb119, 0, none⟩ = some (.int .i64 a0_0) := (blk_cell BK119.out 0).trans rfl
        have hcz17_1 : wc.cell? ⟨gb119, 1, none⟩ = some (.int .i64 a0_1) := (blk_cell BK119.out 1).trans rfl
        have hcz17_2 : wc.cell? ⟨gb119, 2, none⟩ = some (.slice A0_2 l0_2.length c0_2) := (blk_cell BK119.out 2).trans rfl
        have hfz17_0 := blk_frozen BK119.out 0
        have hfz17_1 := blk_frozen BK119.out 1
        have hfz17_2 := blk_frozen BK119.out 2
        go_wp2_with (first | ((with_reducible refine gate_callee (f := 10) rfl ?_); refine goesL_ (some 33) rfl rfl Try.func10 (by kernel_rfl) rfl #[.agg #[.int .i64 a0_0, .int .i64 a0_1, .slice A0_2 l0_2.length c0_2], .slice A1 l1.length c1] rfl (by (try simp only [zm1, zm2, zm3]); first | done | rfl) ?_; (with_reducible refine (flow_Field.calls kj5 a0_0 a0_1 _ _ l0_2 _ _ l1 t124 t127 _ ?side1 ?side2 ?side3 ?side4 A13.out).mono ?_); (case side1 => repeat (first | exact (Kd.C_below HR0_2.out HB.out) | (with_reducible refine Kd.C_alloc ?_ _) | (with_reducible refine Kd.C_drewN ?_ _) | (with_reducible refine Kd.C_drew ?_))); (case side2 => exact HC0_2.out); (case side3 => repeat (first | exact (Kd.C_below HR1.out HB.out) | (with_reducible refine Kd.C_alloc ?_ _) | (with_reducible refine Kd.C_drewN ?_ _) | (with_reducible refine Kd.C_drew ?_))); (case side4 => exact HC1.out); rintro e w18 ⟨v125, rfl, ho0, hb⟩; refine ⟨_, rfl, ?_⟩; have n0_ := Aside0.mk (Kd.R_elder' (by (with_reducible repeat (first | apply Kd.R_alloc | apply Kd.R_drewN | apply Kd.R_drew)); exact HO_8.out) (Kd.R_base ho0) hb); have n1_ := Aside0.mk (Kd.R_lower (Kd.R_new' ho0 (Kd.R_lt (by (with_reducible repeat (first | apply Kd.R_alloc | apply Kd.R_drewN | apply Kd.R_drew)); exact HO_8.out))) (below_size (by repeat (first | (with_reducible first | exact HB.out | apply below_alloc | apply pw_below_drewN | apply below_drew1 | refine below_set ?_ GE119.out) | exact HB.out)))); have n2_ := Aside0.mk (bb hb BK119.out); have n3_ := Aside0.mk (below_step (by repeat (first | (with_reducible first | exact HB.out | apply below_alloc | apply pw_below_drewN | apply below_drew1 | refine below_set ?_ GE119.out) | exact HB.out)) hb); clear HO_8; clear BK119; clear HB; have HO_8 := n0_; have HO126 := n1_; have BK119 := n2_; have HB := n3_; clear n0_ n1_ n2_ n3_; (try clear hb); (try clear hb2); (try clear hk); (try clear hi); (try clear ho0); obtain ⟨Ao19, co19, eo19⟩ := Kd.R_slice HO126.out; subst eo19; have p128 : 0 ≤ (a2 : Int) := of_decide_eq_true (by first | (with_reducible assumption) | assumption); have q128 : a2 < (t124.length : Int) := of_decide_eq_true (by first | (with_reducible assumption) | assumption); obtain ⟨ad128, e128, hx128_0⟩ := Kd.at_int (Kd.R_reads' HO126.out).2.2 a2 p128 q128; cases e128; replace p128 := eq_true p128; replace q128 := eq_true q128))
        go_ret2
        exact ⟨_, by first | rfl | (simp [errW_none, errW_some] <;> rfl) | (simp [*, errW_none, errW_some] <;> rfl), by first | exact Kd.R_nil _ _ _ _ _ | exact Kd.N_nil _ _ _ _ _ | exact Kd.V_nil _ _ _ _ _ | exact Kd.Q_nil _ _ _ _ _ | exact Kd.S_nil _ _ _ _ _, by repeat (first | (with_reducible first | exact HB.out | apply below_alloc | apply pw_below_drewN | apply below_drew1 | refine below_set ?_ GE119.out) | exact HB.out)⟩
       ·rw [if_neg c16] at H
        have c16b0 : decide ((rd t124 a2) < 0) = false := decide_eq_false c16
        clear c16
        obtain ⟨y129, hy129⟩ : ∃ y_ : List Int, y_ = (([a2] : List Int)) := ⟨_, rfl⟩
        replace H : (flow_Walk.l0 kj5 a2 t120 y129 a0_0 a0_1 l0_2) = some (r1, r2) := by first | (rw [hy129]; with_reducible exact H) | (have H2_ := (Option.bind_some _ _).symm.trans H; rw [hy129]; with_reducible exact H2_) | (have H2_ := (Option.bind_some _ _).symm.trans H; with_reducible exact H2_) | with_reducible exact H | (rw [hy129]; exact H) | exact H
        have Ny129 := Aside0.mk hy129
        clear hy129
        have H' := Aside0.mk H
        clear H
        have hcz20_0 : wc.cell? ⟨gb119, 0, none⟩ = some (.int .i64 a0_0) := (blk_cell BK119.out 0).trans rfl
        have hcz20_1 : wc.cell? ⟨gb119, 1, none⟩ = some (.int .i64 a0_1) := (blk_cell BK119.out 1).trans rfl
        have hcz20_2 : wc.cell? ⟨gb119, 2, none⟩ = some (.slice A0_2 l0_2.length c0_2) := (blk_cell BK119.out 2).trans rfl
        have hfz20_0 := blk_frozen BK119.out 0
        have hfz20_1 := blk_frozen BK119.out 1
        have hfz20_2 := blk_frozen BK119.out 2
        go_wp2_with (first | ((with_reducible refine gate_callee (f := 10) rfl ?_); refine goesL_ (some 33) rfl rfl Try.func10 (by kernel_rfl) rfl #[.agg #[.int .i64 a0_0, .int .i64 a0_1, .slice A0_2 l0_2.length c0_2], .slice A1 l1.length c1] rfl (by (try simp only [zm1, zm2, zm3]); first | done | rfl) ?_; (with_reducible refine (flow_Field.calls kj5 a0_0 a0_1 _ _ l0_2 _ _ l1 t124 t127 _ ?side1 ?side2 ?side3 ?side4 A13.out).mono ?_); (case side1 => repeat (first | exact (Kd.C_below HR0_2.out HB.out) | (with_reducible refine Kd.C_alloc ?_ _) | (with_reducible refine Kd.C_drewN ?_ _) | (with_reducible refine Kd.C_drew ?_))); (case side2 => exact HC0_2.out); (case side3 => repeat (first | exact (Kd.C_below HR1.out HB.out) | (with_reducible refine Kd.C_alloc ?_ _) | (with_reducible refine Kd.C_drewN ?_ _) | (with_reducible refine Kd.C_drew ?_))); (case side4 => exact HC1.out); rintro e w21 ⟨v125, rfl, ho0, hb⟩; refine ⟨_, rfl, ?_⟩; have n0_ := Aside0.mk (Kd.R_elder' (by (with_reducible repeat (first | apply Kd.R_alloc | apply Kd.R_drewN | apply Kd.R_drew)); exact HO_8.out) (Kd.R_base ho0) hb); have n1_ := Aside0.mk (Kd.R_lower (Kd.R_new' ho0 (Kd.R_lt (by (with_reducible repeat (first | apply Kd.R_alloc | apply Kd.R_drewN | apply Kd.R_drew)); exact HO_8.out))) (below_size (by repeat (first | (with_reducible first | exact HB.out | apply below_alloc | apply pw_below_drewN | apply below_drew1 | refine below_set ?_ GE119.out) | exact HB.out)))); have n2_ := Aside0.mk (bb hb BK119.out); have n3_ := Aside0.mk (below_step (by repeat (first | (with_reducible first | exact HB.out | apply below_alloc | apply pw_below_drewN | apply below_drew1 | refine below_set ?_ GE119.out) | exact HB.out)) hb); clear HO_8; clear BK119; clear HB; have HO_8 := n0_; have HO126 := n1_; have BK119 := n2_; have HB := n3_; clear n0_ n1_ n2_ n3_; (try clear hb); (try clear hb2); (try clear hk); (try clear hi); (try clear ho0); obtain ⟨Ao22, co22, eo22⟩ := Kd.R_slice HO126.out; subst eo22; have p128 : 0 ≤ (a2 : Int) := of_decide_eq_true (by first | (with_reducible assumption) | assumption); have q128 : a2 < (t124.length : Int) := of_decide_eq_true (by first | (with_reducible assumption) | assumption); obtain ⟨ad128, e128, hx128_0⟩ := Kd.at_int (Kd.R_reads' HO126.out).2.2 a2 p128 q128; cases e128; replace p128 := eq_true p128; replace q128 := eq_true q128) | ((with_reducible refine gate_dst (N := 42) rfl ?_); (try (refine gate_guard (by rfl) ?_; dsimp only)); refine Kd.R_lit (Kd.int .i64) _ 3 ?hg (N := 42) ?hd (xs := ([a2] : List Int)) (inner := [.int .i64 a2]) (ok := fun _ => True) (okp := fun _ => True) ?hr ?hp (fun _ hk => hk) trivial (Below.refl _ _) (Nat.le_refl _) (by simp) ?_; (case hd => rfl); (case hg => rfl); (case hr => first | (go_simp; done) | (go_simp; rfl)); (case hp => exact (Reps.one (show Kd.M (Kd.int .i64) _ _ _ a2 [.int .i64 a2] from rfl) (Reps.none _ _))); intro v130 w23 ho24 hb hg_ hnew_; clear hg_ hnew_; (first | rw [← Ny129.out] at ho24 | (simp only [Int.reduceToNat] at ho24; rw [← Ny129.out] at ho24)); have n0_ := Aside0.mk (Kd.R_elder' (by (with_reducible repeat (first | apply Kd.R_alloc | apply Kd.R_drewN | apply Kd.R_drew)); exact HO_8.out) (Kd.R_base ho24) hb); have n1_ := Aside0.mk (Kd.R_elder' (by (with_reducible repeat (first | apply Kd.R_alloc | apply Kd.R_drewN | apply Kd.R_drew)); exact HO126.out) (Kd.R_base ho24) hb); have n2_ := Aside0.mk (Kd.R_lower (Kd.R_new' (Kd.R_new' ho24 (Kd.R_lt (by (with_reducible repeat (first | apply Kd.R_alloc | apply Kd.R_drewN | apply Kd.R_drew)); exact HO_8.out))) (Kd.R_lt (by (with_reducible repeat (first | apply Kd.R_alloc | apply Kd.R_drewN | apply Kd.R_drew)); exact HO126.out))) (below_size (by repeat (first | (with_reducible first | exact HB.out | apply below_alloc | apply pw_below_drewN | apply below_drew1 | refine below_set ?_ GE119.out) | exact HB.out)))); have n3_ := Aside0.mk (bb hb BK119.out); have n4_ := Aside0.mk (below_step (by repeat (first | (with_reducible first | exact HB.out | apply below_alloc | apply pw_below_drewN | apply below_drew1 | refine below_set ?_ GE119.out) | exact HB.out)) hb); clear HO_8; clear HO126; clear BK119; clear HB; have HO_8 := n0_; have HO126 := n1_; have HO131 := n2_; have BK119 := n3_; have HB := n4_; clear n0_ n1_ n2_ n3_ n4_; clear hb ho24))
        go_loopg [2, 12] kj5 (fun kq v2 v12 w' => ∃ (x2_2 : Int) (x12_2 : List Int), v2 = .int .i64 x2_2 ∧ Aside0 (flow_Walk.l0 kq x2_2 t120 x12_2 a0_0 a0_1 l0_2 = some (r1, r2)) ∧ Aside0 (kq ≤ kj5) ∧ Aside0 (Kd.R (Kd.int .i64) 3 w' w.heap.size (fun k_ => some k_ ≠ (v12 : Value).ownBlock) v121 t120) ∧ Aside0 (Kd.R (Kd.int .i64) 3 w' w.heap.size (fun k_ => some k_ ≠ (v121 : Value).ownBlock) v12 x12_2) ∧ Aside0 (w'.heap[gb119]? = some (.cells #[.int .i64 a0_0, .int .i64 a0_1, (.slice A0_2 l0_2.length c0_2)] 25 (0, 0))) ∧ Aside0 (Below w.heap.size w w'))
        case atStart => exact ⟨(a2), (y129), (by first | rfl | (simp; done) | (simp [*]; done)), H', ⟨Nat.le_refl _⟩, ⟨by (with_reducible repeat (first | apply Kd.R_alloc | apply Kd.R_drewN | apply Kd.R_drew)); exact Kd.R_mono HO_8.out (fun _ hk => hk.2)⟩, ⟨by (with_reducible repeat (first | apply Kd.R_alloc | apply Kd.R_drewN | apply Kd.R_drew)); exact Kd.R_mono HO131.out (fun _ hk => hk.1.2)⟩, ⟨BK119.out⟩, ⟨by repeat (first | (with_reducible first | exact HB.out | apply below_alloc | apply pw_below_drewN | apply below_drew1 | refine below_set ?_ GE119.out) | exact HB.out)⟩⟩
        case round =>
         clear H'
         try clear c1; try clear p1; try clear q1; try clear hx1; try clear c2; try clear p2; try clear c5; try clear c5b0
         try clear c5b1; try clear c10; try clear c10b0; try clear c12; try clear p12; try clear q12; try clear hx12; try clear c14
         try clear c14b0; try clear c15; try clear c15b0; try clear c16; try clear c16b0; try clear c22; try clear hcz17_0; try clear hcz17_1
         try clear hcz17_2; try clear hcz20_0; try clear hcz20_1; try clear hcz20_2; try clear hcz8_0; try clear hcz8_1; try clear hcz8_2; try clear hfz17_0
         try clear hfz17_1; try clear hfz17_2; try clear hfz20_0; try clear hfz20_1; try clear hfz20_2; try clear hfz8_0; try clear hfz8_1; try clear hfz8_2
         try clear hx128_0; try clear p128; try clear p2; try clear q128
         obtain ⟨x2_2, x12_2, rfl, HA, HK2, HO_8, HO_12, BK119, HB⟩ := hrel
         cases gk with
         | zero => exact absurd HA.out (by simp [flow_Walk.l0])
         | succ k2 =>
          have H := HA.out
          clear HA
          simp only [flow_Walk.l0] at H
          by_cases c25 : 0 ≤ x2_2
          ·rw [if_pos c25] at H
           have c25b0 : decide (0 ≤ x2_2) = true := decide_eq_true c25
           clear c25
           by_cases c26 : x2_2 < (t120.length : Int)
           ·rw [if_pos c26] at H
            have c26b0 : decide (x2_2 < (t120.length : Int)) = true := decide_eq_true c26
            clear c26
            by_cases c27 : (rd t120 x2_2) = 0
            ·rw [if_pos c27] at H
             have c27b0 : ((rd t120 x2_2) == 0) = true := beq_iff_eq.mpr c27
             have c27b1 : ((rd t120 x2_2) != 0) = false := bne_eq_false_iff_eq.mpr c27
             clear c27
             simp only [Option.some.injEq, Prod.mk.injEq] at H
             obtain ⟨rfl, rfl⟩ := H
             obtain ⟨Ao28, co28, eo28⟩ := Kd.R_slice HO_8.out
             subst eo28
             have p132 : 0 ≤ (x2_2 : Int) := of_decide_eq_true (by first | (with_reducible assumption) | assumption)
             have q132 : x2_2 < (t120.length : Int) := of_decide_eq_true (by first | (with_reducible assumption) | assumption)
             obtain ⟨ad132, e132, hx132_0⟩ := Kd.at_int (Kd.R_reads' HO_8.out).2.2 x2_2 p132 q132
             cases e132
             replace p132 := eq_true p132
             replace q132 := eq_true q132
             go_wp2
             go_ret2
             exact ⟨_, by first | rfl | (simp [errW_none, errW_some] <;> rfl) | (simp [*, errW_none, errW_some] <;> rfl), by (with_reducible repeat (first | apply Kd.R_alloc | apply Kd.R_drewN | apply Kd.R_drew)); exact Kd.R_mono HO_12.out (fun _ hk => trivial), by repeat (first | (with_reducible first | exact HB.out | apply below_alloc | apply pw_below_drewN | apply below_drew1 | refine below_set ?_ GE119.out) | exact HB.out)⟩
            ·rw [if_neg c27] at H
             have c27b0 : ((rd t120 x2_2) == 0) = false := beq_eq_false_iff_ne.mpr c27
             have c27b1 : ((rd t120 x2_2) != 0) = true := bne_iff_ne.mpr c27
             replace H := Option.bind_eq_some_iff.mp H
             obtain ⟨t134, A290, H⟩ := H
             replace H : (if x12_2.length < 17592186044416 then (flow_Walk.l0 k2 t134 t120 (x12_2 ++ [t134]) a0_0 a0_1 l0_2) else (none)) = some (r1, r2) := H
             have A29 := Aside0.mk A290
             clear A290
             by_cases c30 : x12_2.length < 17592186044416
             ·rw [if_pos c30] at H
              have LMc30 := Aside0.mk c30
              clear c30
              obtain ⟨y135, hy135⟩ : ∃ y_ : List Int, y_ = (x12_2 ++ [t134]) := ⟨_, rfl⟩
              replace H : (flow_Walk.l0 k2 t134 t120 y135 a0_0 a0_1 l0_2) = some (r1, r2) := by first | (rw [hy135]; with_reducible exact H) | (have H2_ := (Option.bind_some _ _).symm.trans H; rw [hy135]; with_reducible exact H2_) | (have H2_ := (Option.bind_some _ _).symm.trans H; with_reducible exact H2_) | with_reducible exact H | (rw [hy135]; exact H) | exact H
              have Ny135 := Aside0.mk hy135
              clear hy135
              have H' := Aside0.mk H
              clear H
              obtain ⟨Ao31, co31, eo31⟩ := Kd.R_slice HO_8.out
              subst eo31
              have p132 : 0 ≤ (x2_2 : Int) := of_decide_eq_true (by first | (with_reducible assumption) | assumption)
              have q132 : x2_2 < (t120.length : Int) := of_decide_eq_true (by first | (with_reducible assumption) | assumption)
              obtain ⟨ad132, e132, hx132_0⟩ := Kd.at_int (Kd.R_reads' HO_8.out).2.2 x2_2 p132 q132
              cases e132
              replace p132 := eq_true p132
              replace q132 := eq_true q132
              try go_wp2
              have n0_ := Aside0.mk (Kd.R_drew HO_8.out)
              have n1_ := Aside0.mk (Kd.R_drew HO_12.out)
              have n2_ := Aside0.mk (blk_drew BK119.out)
              have n3_ := Aside0.mk (below_drew1 HB.out)
              clear HO_8
              clear HO_12
              clear BK119
              clear HB
              have HO_8 := n0_
              have HO_12 := n1_
              have BK119 := n2_
              have HB := n3_
              clear n0_ n1_ n2_ n3_
              have p133 : 0 ≤ (x2_2 : Int) := of_decide_eq_true (by first | (with_reducible assumption) | assumption)
              have q133 : x2_2 < (t120.length : Int) := of_decide_eq_true (by first | (with_reducible assumption) | assumption)
              obtain ⟨ad133, e133, hx133_0⟩ := Kd.at_int (Kd.R_reads' HO_8.out).2.2 x2_2 p133 q133
              obtain rfl : ad132 = ad133 := (by injection e133)
              replace p133 := eq_true p133
              replace q133 := eq_true q133
              refine start_ (n := 8) (S := fun w' => w'.cell? ⟨gb119, 0, none⟩ = some (.int .i64 a0_0) ∧ w'.cell? ⟨gb119, 1, none⟩ = some (.int .i64 a0_1) ∧ w'.cell? ⟨gb119, 2, none⟩ = some (.slice A0_2 l0_2.length c0_2) ∧ w'.cell? (ad132.add (x2_2).toNat) = some (.int .i64 (rd t120 x2_2))) (ds := []) (ab 8 0) (by kernel_rfl) rfl rfl ⟨(blk_cell BK119.out 0).trans rfl, (blk_cell BK119.out 1).trans rfl, (blk_cell BK119.out 2).trans rfl, hx133_0⟩ (fun hHeld => ?_); refine with_tabW flow_Walk.tab11 flow_Walk.bits11 (fun HT_ HW_ => ?_)
              generalize wr.drew = w32 at HO_8 HO_12 BK119 HB hx133_0 hHeld ⊢
              refine pure_ (i := 1) (N := some 49) (v := ?_) (a' := ?_) (ab 8 2) rfl rfl (any_of HT_.out (by kernel_rfl)) (fun _ _ _ h => h) (Or.inl ⟨by rfl, ?_⟩) ?_ ?_
              rotate_left
              ·intro w'
               go_simp
               with_reducible rfl
              rotate_left
              ·simp only [Act.put, zq1, zq2, zq3, i64_w, i32_w]
               rfl
              refine pure_ (i := 2) (N := some 50) (v := ?_) (a' := ?_) (ab 8 6) rfl rfl (any_of HT_.out (by kernel_rfl)) (fun _ _ _ h => h) (Or.inl ⟨by rfl, ?_⟩) ?_ ?_
              rotate_left
              ·intro w'
               go_simp
               with_reducible rfl
              rotate_left
              ·simp only [Act.put, zq1, zq2, zq3, i64_w, i32_w]
               rfl
              refine pure_ (i := 3) (N := some 51) (v := ?_) (a' := ?_) (ab 8 14) rfl rfl (any_of HT_.out (by kernel_rfl)) (fun _ _ _ h => h) (Or.inl ⟨by rfl, ?_⟩) ?_ ?_
              rotate_left
              ·intro w'
               go_simp
               with_reducible rfl
              rotate_left
              ·simp only [Act.put, zq1, zq2, zq3, i64_w, i32_w]
               rfl
              refine pure_ (i := 4) (N := some 52) (v := ?_) (a' := ?_) (ab 8 30) rfl rfl (any_of HT_.out (by kernel_rfl)) (fun _ _ _ h => h) (Or.inl ⟨by rfl, ?_⟩) ?_ ?_
              rotate_left
              ·intro w'
               go_simp
               with_reducible rfl
              rotate_left
              ·simp only [Act.put, zq1, zq2, zq3, i64_w, i32_w]
               rfl
              refine take_ (i := 0) (N := some 48) (v := ?_) (a' := ?_) (ab 8 31) rfl rfl (take_ofW HT_.out HW_.out (by kernel_rfl)) (fun _ _ _ h => h) (Or.inl ⟨by rfl, ?_⟩) hHeld ?_ ?_
              rotate_left
              ·rintro w' ⟨s0, s1, s2, s3⟩
               go_simp
               with_reducible rfl
              rotate_left
              ·simp only [Act.put, zq1, zq2, zq3, i64_w, i32_w]
               rfl
              refine take_ (i := 5) (N := some 53) (v := ?_) (a' := ?_) (ab 8 63) rfl rfl (take_ofW HT_.out HW_.out (by kernel_rfl)) (fun _ _ _ h => h) (Or.inl ⟨by rfl, ?_⟩) hHeld ?_ ?_
              rotate_left
              ·rintro w' ⟨s0, s1, s2, s3⟩
               go_simp
               with_reducible rfl
              rotate_left
              ·simp only [Act.put, zq1, zq2, zq3, i64_w, i32_w]
               rfl
              refine one_ (i := 6) (N := some 54) (ab 8 127) rfl rfl (one_of HT_.out (by kernel_rfl)) (by decide) (fun K hK => ?_)
              refine goes_ Try.func12 (by kernel_rfl) rfl #[.agg #[.int .i64 a0_0, .int .i64 a0_1, .slice A0_2 l0_2.length c0_2], .int .i64 x2_2, .int .i64 (rd t120 x2_2)] (by rfl) rfl rfl (by (try simp only [zm1, zm2, zm3]); first | done | rfl) ?_
              with_reducible refine (flow_Step.calls k2 a0_0 a0_1 _ _ l0_2 x2_2 (rd t120 x2_2) t134 _ ?side1 ?side2 A29.out).mono ?_
              (case side1 => repeat (first | exact (Kd.C_below HR0_2.out HB.out) | (with_reducible refine Kd.C_alloc ?_ _) | (with_reducible refine Kd.C_drewN ?_ _) | (with_reducible refine Kd.C_drew ?_)))
              (case side2 => exact HC0_2.out)
              rintro e w33 ⟨rfl, hb⟩
              have HS3_ := (hb.cell (World.block_lt_of_cell? _ _ (hHeld.2.2.2))).trans (hHeld.2.2.2)
              refine ⟨_, rfl, ?_⟩
              have n0_ := Aside0.mk (Kd.R_below (by (with_reducible repeat (first | apply Kd.R_alloc | apply Kd.R_drewN | apply Kd.R_drew)); exact HO_8.out) hb)
              have n1_ := Aside0.mk (Kd.R_below (by (with_reducible repeat (first | apply Kd.R_alloc | apply Kd.R_drewN | apply Kd.R_drew)); exact HO_12.out) hb)
              have n2_ := Aside0.mk (bb hb BK119.out)
              have n3_ := Aside0.mk (below_step (by repeat (first | (with_reducible first | exact HB.out | apply below_alloc | apply pw_below_drewN | apply below_drew1 | refine below_set ?_ GE119.out) | exact HB.out)) hb)
              clear HO_8
              clear HO_12
              clear BK119
              clear HB
              have HO_8 := n0_
              have HO_12 := n1_
              have BK119 := n2_
              have HB := n3_
              clear n0_ n1_ n2_ n3_
              (try clear hb)
              (try clear hb2)
              (try clear hk)
              (try clear hi)
              refine hK.out _ _ ⟨(blk_cell BK119.out 0).trans rfl, (blk_cell BK119.out 1).trans rfl, (blk_cell BK119.out 2).trans rfl, HS3_⟩ (fun hHeld => ?_)
              clear hK K
              refine norm_ (a' := ?_) ?_ ?_
              rotate_left
              ·show Act.put _ (some 54) _ = _
               simp only [Act.put, zq1, zq2, zq3, i64_w, i32_w]
               rfl
              refine pure_ (i := 7) (N := some 2) (v := ?_) (a' := ?_) (ab 8 255) rfl rfl (any_of HT_.out (by kernel_rfl)) (fun _ _ _ h => h) (Or.inl ⟨by rfl, ?_⟩) ?_ ?_
              rotate_left
              ·intro w'
               go_simp
               with_reducible rfl
              rotate_left
              ·simp only [Act.put, zq1, zq2, zq3, i64_w, i32_w]
               rfl
              refine done_ (done_of HT_.out (by kernel_rfl)) ?_
              try go_wp2_with (first | ((with_reducible refine gate_builtin (b := .append) (xs := #[.tmp 55, .tmp 57]) rfl ?_); (try (refine gate_guard (by rfl) ?_; dsimp only)); at_builtin; refine Kd.R_append (Kd.int .i64) (w0 := w) w.heap.size rfl (.tmp 55) (.tmp 57) 22 3 (.int .i64 0) 8 rfl Try.underlying22 info3 rfl (by decide) (by omega) u12 x12_2 t134 [.int .i64 t134] (fun k_ => some k_ ≠ (.slice (some ad132) t120.length co31 : Value).ownBlock) (fun _ => False) rfl rfl ?aP (fun _ hk => hk.elim) ?aF ?aO ?aB ?aS ?aL ?_; (case aP => exact rfl); (case aB => exact (by repeat (first | (with_reducible first | exact HB.out | apply below_alloc | apply pw_below_drewN | apply below_drew1 | refine below_set ?_ GE119.out) | exact HB.out))); (case aF => exact (fun k_ hk => Kd.fresh' (Kd.R_lt (by (with_reducible repeat (first | apply Kd.R_alloc | apply Kd.R_drewN | apply Kd.R_drew)); exact HO_8.out)) k_ hk)); (case aO => exact (by (with_reducible repeat (first | apply Kd.R_alloc | apply Kd.R_drewN | apply Kd.R_drew)); exact HO_12.out)); (case aS => exact (below_size (by repeat (first | (with_reducible first | exact HB.out | apply below_alloc | apply pw_below_drewN | apply below_drew1 | refine below_set ?_ GE119.out) | exact HB.out)))); (case aL => have := LMc30.out; omega); intro v136 w34 ho hb hg hat; rw [← Ny135.out] at ho; have n0_ := Aside0.mk (Kd.R_after (ok := (fun _ => True)) (by (with_reducible repeat (first | apply Kd.R_alloc | apply Kd.R_drewN | apply Kd.R_drew)); exact Kd.R_mono HO_8.out (fun _ hk => ⟨trivial, hk⟩)) hg hat); have n1_ := Aside0.mk (blk_grown (g := gb119) (o := .cells #[.int .i64 a0_0, .int .i64 a0_1, .slice A0_2 l0_2.length c0_2] 25 (0, 0)) (by (with_reducible repeat (first | refine blk_drewN ?_ _ | refine blk_drew ?_ | refine blk_alloc ?_ _)); exact BK119.out) hg (Kd.R_ne HO_12.out BK119.out (by decide))); have n2_ := Aside0.mk (hb); have n3_ := Aside0.mk (ho); clear HO_8; clear BK119; clear HB; clear HO_12; have HO_8 := n0_; have BK119 := n1_; have HB := n2_; have HO137 := n3_; clear n0_ n1_ n2_ n3_; clear ho hb hg hat))
              go_roundg k2
              case measure => have := HJ5.out; have := HK2.out; omega
              case rel => exact ⟨(t134), (y135), (by first | rfl | (simp; done) | (simp [*]; done)), H', ⟨by have := HJ5.out; have := HK2.out; omega⟩, ⟨by (with_reducible repeat (first | apply Kd.R_alloc | apply Kd.R_drewN | apply Kd.R_drew)); exact Kd.R_mono HO_8.out (fun _ hk => hk.2)⟩, ⟨by (with_reducible repeat (first | apply Kd.R_alloc | apply Kd.R_drewN | apply Kd.R_drew)); exact HO137.out⟩, ⟨BK119.out⟩, ⟨by repeat (first | (with_reducible first | exact HB.out | apply below_alloc | apply pw_below_drewN | apply below_drew1 | refine below_set ?_ GE119.out) | exact HB.out)⟩⟩
             ·rw [if_neg c30] at H
              exact absurd H (by simp)
           ·rw [if_neg c26] at H
            exact absurd H (by simp)
          ·rw [if_neg c25] at H
           exact absurd H (by simp)
      ·rw [if_neg c15] at H
       exact absurd H (by simp)
     ·rw [if_neg c14] at H
      exact absurd H (by simp)
 ·rw [if_neg c5] at H
  have c5b0 : (t123 == 0) = false := beq_eq_false_iff_ne.mpr c5
  have c5b1 : (t123 != 0) = true := bne_iff_ne.mpr c5
  simp only [Option.some.injEq, Prod.mk.injEq] at H
  obtain ⟨rfl, rfl⟩ := H
  go_enter Try.func15, Try.ntmps15
  go_wp2_with (first | ((with_reducible refine gate_dst (N := 3) rfl ?_); (try (refine gate_guard (by rfl) ?_; dsimp only)); refine box_event ?hg (N := 3) ?hd (cs := #[.int .i64 a0_0, .int .i64 a0_1, .slice A0_2 l0_2.length c0_2]) (t := 25) ?hr ?_; (case hd => rfl); (case hg => rfl); (case hr => first | (go_simp; done) | (go_simp; rfl)); intro gb119 hg w35 hbox hb; have n0_ := Aside0.mk (below_step (by repeat (first | (with_reducible first | exact HB.out | apply below_alloc | apply pw_below_drewN | apply below_drew1) | exact HB.out)) hb); have n1_ := Aside0.mk (hbox); have n2_ := Aside0.mk ((by rw [hg]; exact (below_size (by repeat (first | (with_reducible first | exact HB.out | apply below_alloc | apply pw_below_drewN | apply below_drew1) | exact HB.out))) : w.heap.size ≤ gb119)); have n3_ := Aside0.mk ((by rw [hg]; exact (below_size (by repeat (first | (with_reducible first | exact HB.out | apply below_alloc | apply pw_below_drewN | apply below_drew1) | exact HB.out))) : w.heap.size ≤ gb119)); clear HB; have HB := n0_; have BK119 := n1_; have GW119 := n2_; have GE119 := n3_; clear n0_ n1_ n2_ n3_; clear hb hbox hg; have hcz36_0 : w35.cell? ⟨gb119, 0, none⟩ = some (.int .i64 a0_0) := (blk_cell BK119.out 0).trans rfl; have hcz36_1 : w35.cell? ⟨gb119, 1, none⟩ = some (.int .i64 a0_1) := (blk_cell BK119.out 1).trans rfl; have hcz36_2 : w35.cell? ⟨gb119, 2, none⟩ = some (.slice A0_2 l0_2.length c0_2) := (blk_cell BK119.out 2).trans rfl; have hfz36_0 := blk_frozen BK119.out 0; have hfz36_1 := blk_frozen BK119.out 1; have hfz36_2 := blk_frozen BK119.out 2) | ((with_reducible refine gate_callee (f := 22) rfl ?_); refine goesL_ (some 16) rfl rfl Try.func22 (by kernel_rfl) rfl #[.agg #[.int .i64 a0_0, .int .i64 a0_1, .slice A0_2 l0_2.length c0_2], .slice A1 l1.length c1] rfl (by (try simp only [zm1, zm2, zm3]); first | done | rfl) ?_; (with_reducible refine (flow_Ways.calls k a0_0 a0_1 _ _ l0_2 _ _ l1 t120 t123 _ ?side1 ?side2 ?side3 ?side4 A4.out).mono ?_); (case side1 => repeat (first | exact (Kd.C_below HR0_2.out HB.out) | (with_reducible refine Kd.C_alloc ?_ _) | (with_reducible refine Kd.C_drewN ?_ _) | (with_reducible refine Kd.C_drew ?_))); (case side2 => exact HC0_2.out); (case side3 => repeat (first | exact (Kd.C_below HR1.out HB.out) | (with_reducible refine Kd.C_alloc ?_ _) | (with_reducible refine Kd.C_drewN ?_ _) | (with_reducible refine Kd.C_drew ?_))); (case side4 => exact HC1.out); rintro e w37 ⟨v121, rfl, ho0, hb⟩; refine ⟨_, rfl, ?_⟩; have n0_ := Aside0.mk (Kd.R_lower ho0 (below_size (by repeat (first | (with_reducible first | exact HB.out | apply below_alloc | apply pw_below_drewN | apply below_drew1 | refine below_set ?_ GE119.out) | exact HB.out)))); have n1_ := Aside0.mk (bb hb BK119.out); have n2_ := Aside0.mk (below_step (by repeat (first | (with_reducible first | exact HB.out | apply below_alloc | apply pw_below_drewN | apply below_drew1 | refine below_set ?_ GE119.out) | exact HB.out)) hb); clear BK119; clear HB; have HO122 := n0_; have BK119 := n1_; have HB := n2_; clear n0_ n1_ n2_; (try clear hb); (try clear hb2); (try clear hk); (try clear hi); (try clear ho0)))
  go_ret2
  exact ⟨_, by first | rfl | (simp [errW_none, errW_some] <;> rfl) | (simp [*, errW_none, errW_some] <;> rfl), by first | exact Kd.R_nil _ _ _ _ _ | exact Kd.N_nil _ _ _ _ _ | exact Kd.V_nil _ _ _ _ _ | exact Kd.Q_nil _ _ _ _ _ | exact Kd.S_nil _ _ _ _ _, by repeat (first | (with_reducible first | exact HB.out | apply below_alloc | apply pw_below_drewN | apply below_drew1 | refine below_set ?_ GE119.out) | exact HB.out)⟩

/-! ### tourref5_GridFault: function 18 -/
-- rounds
def tourref5_GridFault.bad (c : Int) : Bool := decide (c < 0 ∨ c > 1000)
def tourref5_GridFault.f (_k : Nat) (a0_0 : Int) (a0_1 : Int) (l0_2 : List Int) : Option Int := if a0_0 < 1 ∨ a0_1 < 1 ∨ a0_0 > 64 ∨ a0_1 > 64 then some 2 else if (l0_2.length : Int) ≠ wrap64 (a0_0 * a0_1) then some 3 else if l0_2.any tourref5_GridFault.bad = true then some 1 else some 0
theorem tourref5_GridFault.mono : ∀ a0 a1 a2 k, LeO (tourref5_GridFault.f k a0 a1 a2) (tourref5_GridFault.f (k + 1) a0 a1 a2) := fun _ _ _ _ => LeO.refl _
theorem tourref5_GridFault.one (c : Int) (w : World) : Calls Try.prog 31 #[.int .i64 c] w fun e w' => e = .returned (.bool (tourref5_GridFault.bad c)) ∧ w' = w := by
 unfold tourref5_GridFault.bad
 by_cases h1 : c < 0
 ·have q1 : (c < 0) = True := eq_true h1
  go_enter Try.func31, Try.ntmps31
  go_wp2
  go_ret
  exact ⟨by simp [h1], rfl⟩
 ·have q1 : (c < 0) = False := eq_false h1
  go_enter Try.func31, Try.ntmps31
  go_wp2
  go_ret
  exact ⟨by simp [h1], rfl⟩
theorem tourref5_GridFault.tells (w1 : World) (l : List Int) : FlowFunc.Tells w1 l 31 #[] Try.f31 tourref5_GridFault.bad where
 hf := Try.func31
 hname := by kernel_rfl
 hb := rfl
 ask := fun w' x _ _ => by
  rw [Array.append_empty]
  exact (tourref5_GridFault.one x w').mono fun e w2 h => ⟨h.1, by rw [h.2]; exact Below.refl _ _⟩
set_option maxHeartbeats 4000000 in
set_option maxRecDepth 100000 in
theorem tourref5_GridFault.calls (k : Nat) (a0_0 : Int) (a0_1 : Int) (A0_2 : Option Addr) (c0_2 : Nat) (l0_2 : List Int) (r : Int) (w : World) (hr0_2 : Kd.C (Kd.int .i64) w A0_2 l0_2.length l0_2) (hc0_2 : l0_2.length ≤ c0_2) (h : tourref5_GridFault.f k a0_0 a0_1 l0_2 = some r) :
 Calls Try.prog 18 #[.agg #[.int .i64 a0_0, .int .i64 a0_1, .slice A0_2 l0_2.length c0_2]] w fun e w' => e = .returned (.int .i64 r) ∧ Below w.heap.size w w' := by
 unfold tourref5_GridFault.f at h
 have HC := Aside0.mk hr0_2
 obtain ⟨n, hn⟩ : ∃ n, l0_2.length = n := ⟨_, rfl⟩
 have HN := Aside0.mk hn
 rw [hn] at h HC ⊢
 clear hn hr0_2 hc0_2
 by_cases a : a0_0 < 1
 ·rw [if_pos (by omega)] at h
  have qa : (a0_0 < 1) = True := eq_true a
  obtain rfl := Option.some.inj h
  clear h
  go_enter Try.func18, Try.ntmps18
  go_wp2_with (first | ((with_reducible refine gate_dst (N := 1) rfl ?_); refine box_event ?hg (N := 1) ?hd (cs := #[.int .i64 a0_0, .int .i64 a0_1, .slice A0_2 n c0_2]) (t := 25) ?hr ?_; (case hd => rfl); (case hg => rfl); (case hr => first | (go_simp; done) | (go_simp; rfl)); intro gb hg w1 hbox hb; have BK := Aside0.mk hbox; have HC := Aside0.mk (Kd.C_below HC.out hb); have HB := Aside0.mk hb; have cb0 := (blk_cell BK.out 0).trans rfl; have cb1 := (blk_cell BK.out 1).trans rfl; have cb2 := (blk_cell BK.out 2).trans rfl; clear hg hbox hb))
  refine bodyPost_ret (v := .int .i64 2) (by simp [results, Try.results18, go_sem]) rfl ?_
  exact ⟨rfl, HB.out⟩
 ·have qa : (a0_0 < 1) = False := eq_false a
  by_cases b : a0_1 < 1
  ·rw [if_pos (by omega)] at h
   have qb : (a0_1 < 1) = True := eq_true b
   obtain rfl := Option.some.inj h
   clear h
   go_enter Try.func18, Try.ntmps18
   go_wp2_with (first | ((with_reducible refine gate_dst (N := 1) rfl ?_); refine box_event ?hg (N := 1) ?hd (cs := #[.int .i64 a0_0, .int .i64 a0_1, .slice A0_2 n c0_2]) (t := 25) ?hr ?_; (case hd => rfl); (case hg => rfl); (case hr => first | (go_simp; done) | (go_simp; rfl)); intro gb hg w1 hbox hb; have BK := Aside0.mk hbox; have HC := Aside0.mk (Kd.C_below HC.out hb); have HB := Aside0.mk hb; have cb0 := (blk_cell BK.out 0).trans rfl; have cb1 := (blk_cell BK.out 1).trans rfl; have cb2 := (blk_cell BK.out 2).trans rfl; clear hg hbox hb))
   refine bodyPost_ret (v := .int .i64 2) (by simp [results, Try.results18, go_sem]) rfl ?_
   exact ⟨rfl, HB.out⟩
  ·have qb : (a0_1 < 1) = False := eq_false b
   by_cases c : a0_0 > 64
   ·rw [if_pos (by omega)] at h
    have qc : (64 < a0_0) = True := eq_true c
    obtain rfl := Option.some.inj h
    clear h
    go_enter Try.func18, Try.ntmps18
    go_wp2_with (first | ((with_reducible refine gate_dst (N := 1) rfl ?_); refine box_event ?hg (N := 1) ?hd (cs := #[.int .i64 a0_0, .int .i64 a0_1, .slice A0_2 n c0_2]) (t := 25) ?hr ?_; (case hd => rfl); (case hg => rfl); (case hr => first | (go_simp; done) | (go_simp; rfl)); intro gb hg w1 hbox hb; have BK := Aside0.mk hbox; have HC := Aside0.mk (Kd.C_below HC.out hb); have HB := Aside0.mk hb; have cb0 := (blk_cell BK.out 0).trans rfl; have cb1 := (blk_cell BK.out 1).trans rfl; have cb2 := (blk_cell BK.out 2).trans rfl; clear hg hbox hb))
    refine bodyPost_ret (v := .int .i64 2) (by simp [results, Try.results18, go_sem]) rfl ?_
    exact ⟨rfl, HB.out⟩
   ·have qc : (64 < a0_0) = False := eq_false c
    by_cases d : a0_1 > 64
    ·rw [if_pos (by omega)] at h
     have qd : (64 < a0_1) = True := eq_true d
     obtain rfl := Option.some.inj h
     clear h
     go_enter Try.func18, Try.ntmps18
     go_wp2_with (first | ((with_reducible refine gate_dst (N := 1) rfl ?_); refine box_event ?hg (N := 1) ?hd (cs := #[.int .i64 a0_0, .int .i64 a0_1, .slice A0_2 n c0_2]) (t := 25) ?hr ?_; (case hd => rfl); (case hg => rfl); (case hr => first | (go_simp; done) | (go_simp; rfl)); intro gb hg w1 hbox hb; have BK := Aside0.mk hbox; have HC := Aside0.mk (Kd.C_below HC.out hb); have HB := Aside0.mk hb; have cb0 := (blk_cell BK.out 0).trans rfl; have cb1 := (blk_cell BK.out 1).trans rfl; have cb2 := (blk_cell BK.out 2).trans rfl; clear hg hbox hb))
     refine bodyPost_ret (v := .int .i64 2) (by simp [results, Try.results18, go_sem]) rfl ?_
     exact ⟨rfl, HB.out⟩
    ·have qd : (64 < a0_1) = False := eq_false d
     rw [if_neg (by omega)] at h
     by_cases e : (n : Int) = wrap64 (a0_0 * a0_1)
     ·rw [if_neg (by simpa using e)] at h
      have qe : ((n : Int) != wrap64 (a0_0 * a0_1)) = false := by simpa using e
      have qe2 : ((n : Int) = wrap64 (a0_0 * a0_1)) = True := eq_true e
      have HL := Aside0.mk (show l0_2.length ≤ 140737488355328 from by
       have b1 : 0 ≤ a0_0 * a0_1 := Int.mul_nonneg (by omega) (by omega)
       have b2 : a0_0 * a0_1 ≤ 64 * 64 := FlowSol.le_mul (by omega) (by omega) (by omega) (by omega)
       rw [RowMem.wrap_in (by omega) (by omega)] at e
       have := HN.out
       omega)
      clear e a b c d
      have HX := Aside0.mk (show ∀ w1 : World, Kd.C (Kd.int .i64) w1 A0_2 n l0_2 → Calls Try.prog 20 #[.slice A0_2 n c0_2, .func (.func 31) #[] #[]] w1 fun e w' => e = .returned (.bool (l0_2.any tourref5_GridFault.bad)) ∧ Below w1.heap.size w1 w' from fun w1 hc => by
       have hx := FlowFunc.contains_any (w := w1) (l := l0_2) (tourref5_GridFault.tells w1 l0_2) (A := A0_2) c0_2 (by rw [HN.out]; exact hc) HL.out
       rw [HN.out] at hx
       exact hx)
      obtain ⟨b, hb⟩ : ∃ b, l0_2.any tourref5_GridFault.bad = b := ⟨_, rfl⟩
      have HA := Aside0.mk hb
      rw [hb] at h
      clear hb
      cases b with
      | true =>
       rw [if_pos rfl] at h
       obtain rfl := Option.some.inj h
       clear h
       go_enter Try.func18, Try.ntmps18
       go_wp2_with (first | ((with_reducible refine gate_dst (N := 1) rfl ?_); refine box_event ?hg (N := 1) ?hd (cs := #[.int .i64 a0_0, .int .i64 a0_1, .slice A0_2 n c0_2]) (t := 25) ?hr ?_; (case hd => rfl); (case hg => rfl); (case hr => first | (go_simp; done) | (go_simp; rfl)); intro gb hg w1 hbox hb; have BK := Aside0.mk hbox; have HC := Aside0.mk (Kd.C_below HC.out hb); have HB := Aside0.mk hb; have cb0 := (blk_cell BK.out 0).trans rfl; have cb1 := (blk_cell BK.out 1).trans rfl; have cb2 := (blk_cell BK.out 2).trans rfl; clear hg hbox hb) | (go_at_call 20; refine (HX.out _ HC.out).mono ?_; rintro e w35 ⟨rfl, hb⟩; have HB := Aside0.mk (HB.out.trans (hb.mono HB.out.size)); clear hb; rw [HA.out]))
       refine bodyPost_ret (v := .int .i64 1) (by simp [results, Try.results18, go_sem]) rfl ?_
       exact ⟨rfl, HB.out⟩
      | false =>
       rw [if_neg (by simp)] at h
       obtain rfl := Option.some.inj h
       clear h
       go_enter Try.func18, Try.ntmps18
       go_wp2_with (first | ((with_reducible refine gate_dst (N := 1) rfl ?_); refine box_event ?hg (N := 1) ?hd (cs := #[.int .i64 a0_0, .int .i64 a0_1, .slice A0_2 n c0_2]) (t := 25) ?hr ?_; (case hd => rfl); (case hg => rfl); (case hr => first | (go_simp; done) | (go_simp; rfl)); intro gb hg w1 hbox hb; have BK := Aside0.mk hbox; have HC := Aside0.mk (Kd.C_below HC.out hb); have HB := Aside0.mk hb; have cb0 := (blk_cell BK.out 0).trans rfl; have cb1 := (blk_cell BK.out 1).trans rfl; have cb2 := (blk_cell BK.out 2).trans rfl; clear hg hbox hb) | (go_at_call 20; refine (HX.out _ HC.out).mono ?_; rintro e w35 ⟨rfl, hb⟩; have HB := Aside0.mk (HB.out.trans (hb.mono HB.out.size)); clear hb; rw [HA.out]))
       refine bodyPost_ret (v := .int .i64 0) (by simp [results, Try.results18, go_sem]) rfl ?_
       exact ⟨rfl, HB.out⟩
     ·rw [if_pos e] at h
      clear a b c d
      have qe : ((n : Int) != wrap64 (a0_0 * a0_1)) = true := by simpa using e
      have qe2 : ((n : Int) = wrap64 (a0_0 * a0_1)) = False := eq_false e
      obtain rfl := Option.some.inj h
      clear h
      go_enter Try.func18, Try.ntmps18
      go_wp2_with (first | ((with_reducible refine gate_dst (N := 1) rfl ?_); refine box_event ?hg (N := 1) ?hd (cs := #[.int .i64 a0_0, .int .i64 a0_1, .slice A0_2 n c0_2]) (t := 25) ?hr ?_; (case hd => rfl); (case hg => rfl); (case hr => first | (go_simp; done) | (go_simp; rfl)); intro gb hg w1 hbox hb; have BK := Aside0.mk hbox; have HC := Aside0.mk (Kd.C_below HC.out hb); have HB := Aside0.mk hb; have cb0 := (blk_cell BK.out 0).trans rfl; have cb1 := (blk_cell BK.out 1).trans rfl; have cb2 := (blk_cell BK.out 2).trans rfl; clear hg hbox hb))
      refine bodyPost_ret (v := .int .i64 3) (by simp [results, Try.results18, go_sem]) rfl ?_
      exact ⟨rfl, HB.out⟩

end Go.Proofs.Ytmpfboilodlfnaa.PFlowMade
