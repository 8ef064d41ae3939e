-- Printed by a program: the print with changes of this session (wip/printpatch.py).
import Derived.Test.YtmpfboilodlfnaaPFlowMadex0
import Derived.Test.YtmpfboilodlfnaaPFlowMadex1
namespace Go.Proofs.Ytmpfboilodlfnaa.PFlowMade
open Go.Proofs.Ytmpfboilodlfnaa.Fnv Go.Proofs.Ytmpfboilodlfnaa.Ary
open Go.RowKit Go.Proofs.YtmpfboilodlfnaaW.PrintWords Go.Proofs.YtmpfboilodlfnaaW.PrintLast Go.Proofs.YtmpfboilodlfnaaW.PrintMore
attribute [local go_sem] max2_int min2_int max_two min_two max_three min_three max_four min_four   -- for this text's walks alone
set_option linter.unusedVariables false
set_option linter.unusedSimpArgs false

/-! ### flow_Check: function 17 -/
mutual
def flow_Check.j0 : Nat → Bool → Int → Int → List Int → Option (Int)
 | 0, _, _, _, _ => none
 | k + 1, x22, x103000, x103001, x103002 => if x22 = true then (some 2) else (if (x103002.length : Int) = (wrap64 (x103000 * x103001)) then (flow_Check.l0 k x103002 (x103002.length : Int) 0) else (some 3))
def flow_Check.l0 : Nat → List Int → Int → Int → Option (Int)
 | 0, _, _, _ => none
 | k + 1, x33, x34, x35 => if x35 < x34 then (if 0 ≤ x35 then (if x35 < (x33.length : Int) then (if (rd x33 x35) < 0 then (some 1) else (if (rd x33 x35) > 1000 then (some 1) else (flow_Check.l0 k x33 x34 (wrap64 (x35 + 1))))) else (none)) else (none)) else (some 0)
end
def flow_Check.f (k : Nat) (a0_0 : Int) (a0_1 : Int) (l0_2 : List Int) : Option (Int) := if a0_0 < 1 then (flow_Check.j0 k true a0_0 a0_1 l0_2) else (if a0_0 > 64 then (flow_Check.j0 k true a0_0 a0_1 l0_2) else (if a0_1 < 1 then (flow_Check.j0 k true a0_0 a0_1 l0_2) else (flow_Check.j0 k (decide (a0_1 > 64)) a0_0 a0_1 l0_2)))
theorem flow_Check.mono_l : ∀ k, (∀ y0 y1 y2 y3, LeO (flow_Check.j0 k y0 y1 y2 y3) (flow_Check.j0 (k + 1) y0 y1 y2 y3)) ∧ (∀ y0 y1 y2, LeO (flow_Check.l0 k y0 y1 y2) (flow_Check.l0 (k + 1) y0 y1 y2))
 | 0 => ⟨fun _ _ _ _ r h => by simp [flow_Check.j0] at h, fun _ _ _ r h => by simp [flow_Check.l0] at h⟩
 | k + 1 => by
  obtain ⟨ih0, ih1⟩ := flow_Check.mono_l k
  refine ⟨?_, ?_⟩
  ·intro y0 y1 y2 y3
   unfold flow_Check.j0
   repeat' first
   | (with_reducible exact ih0 _ _ _ _)
   | (with_reducible exact ih1 _ _ _)
   | (with_reducible exact LeO.refl _)
   | (with_reducible exact LeO.none _)
   | (with_reducible refine LeO.ite ?_ ?_)
   | (with_reducible refine LeO.bind ?_ (fun _ => ?_))
   | exact ih0 _ _ _ _
   | exact ih1 _ _ _
   | exact LeO.none _
   | refine LeO.ite ?_ ?_
   | refine LeO.bind ?_ (fun _ => ?_)
  ·intro y0 y1 y2
   unfold flow_Check.l0
   repeat' first
   | (with_reducible exact ih0 _ _ _ _)
   | (with_reducible exact ih1 _ _ _)
   | (with_reducible exact LeO.refl _)
   | (with_reducible exact LeO.none _)
   | (with_reducible refine LeO.ite ?_ ?_)
   | (with_reducible refine LeO.bind ?_ (fun _ => ?_))
   | exact ih0 _ _ _ _
   | exact ih1 _ _ _
   | exact LeO.none _
   | refine LeO.ite ?_ ?_
   | refine LeO.bind ?_ (fun _ => ?_)
theorem flow_Check.mono : ∀ a0 a1 a2 k, LeO (flow_Check.f k a0 a1 a2) (flow_Check.f (k + 1) a0 a1 a2) := by
 intro a0 a1 a2 k
 obtain ⟨ih0, ih1⟩ := flow_Check.mono_l k
 unfold flow_Check.f
 repeat' first
   | (with_reducible exact ih0 _ _ _ _)
   | (with_reducible exact ih1 _ _ _)
   | (with_reducible exact LeO.refl _)
   | (with_reducible exact LeO.none _)
   | (with_reducible refine LeO.ite ?_ ?_)
   | (with_reducible refine LeO.bind ?_ (fun _ => ?_))
   | exact ih0 _ _ _ _
   | exact ih1 _ _ _
   | exact LeO.none _
   | refine LeO.ite ?_ ?_
   | refine LeO.bind ?_ (fun _ => ?_)
set_option maxHeartbeats 8000000 in
set_option maxRecDepth 100000 in
theorem flow_Check.calls (k : Nat) (a0_0 : Int) (a0_1 : Int) (A0_2 : Option Addr) (c0_2 : Nat) (l0_2 : List Int) (r : Int) (w : World) (hr0_2 : Kd.C (Kd.int .i64) w A0_2 l0_2.length l0_2) (hc0_2 : l0_2.length ≤ c0_2) (h : flow_Check.f k a0_0 a0_1 l0_2 = some r) :
  Calls Try.prog 17 #[.agg #[.int .i64 a0_0, .int .i64 a0_1, .slice A0_2 l0_2.length c0_2]] w fun e w' => e = .returned (.int .i64 r) ∧ Below w.heap.size w w' := by
 have hu25 := Try.underlying25
 have HR0_2 := Aside0.mk hr0_2
 have HC0_2 := Aside0.mk hc0_2
 clear hr0_2 hc0_2
 have HB := Aside0.mk (Below.refl w.heap.size w)
 have H : (if a0_0 < 1 then (flow_Check.j0 k true a0_0 a0_1 l0_2) else (if a0_0 > 64 then (flow_Check.j0 k true a0_0 a0_1 l0_2) else (if a0_1 < 1 then (flow_Check.j0 k true a0_0 a0_1 l0_2) else (flow_Check.j0 k (decide (a0_1 > 64)) a0_0 a0_1 l0_2)))) = some r := h
 clear h
 have HC2 := Aside0.mk H
 clear H
 go_enter Try.func17, Try.ntmps17
 go_upto_region 1 with (first | ((with_reducible refine gate_dst (N := 1) rfl ?_); refine box_event ?hg (N := 1) ?hd (cs := #[.int .i64 a0_0, .int .i64 a0_1, .slice A0_2 l0_2.length c0_2]) (t := 25) ?hr ?_; (case hd => rfl); (case hg => rfl); (case hr => first | (go_simp; done) | (go_simp; rfl)); intro gb102 hg w3 hbox hb; have n0_ := Aside0.mk (below_step (by repeat (first | (with_reducible first | exact HB.out | apply below_alloc | apply pw_below_drewN | apply below_drew1) | exact HB.out)) hb); have n1_ := Aside0.mk (hbox); have n2_ := Aside0.mk ((by rw [hg]; exact (below_size (by repeat (first | (with_reducible first | exact HB.out | apply below_alloc | apply pw_below_drewN | apply below_drew1) | exact HB.out))) : w.heap.size ≤ gb102)); have n3_ := Aside0.mk ((by rw [hg]; exact (below_size (by repeat (first | (with_reducible first | exact HB.out | apply below_alloc | apply pw_below_drewN | apply below_drew1) | exact HB.out))) : w.heap.size ≤ gb102)); clear HB; have HB := n0_; have BK102 := n1_; have GW102 := n2_; have GE102 := n3_; clear n0_ n1_ n2_ n3_; clear hb hbox hg))
 (try simp only [Act.put, zq1, zq2, zq3])
 go_cut [22] (fun v22 wc => ∃ (kq : Nat) (x22_1 : Bool), v22 = .bool x22_1 ∧ Aside0 (flow_Check.j0 kq x22_1 a0_0 a0_1 l0_2 = some r) ∧ Aside0 (kq ≤ k) ∧ Aside0 (wc.heap[gb102]? = some (.cells #[.int .i64 a0_0, .int .i64 a0_1, (.slice A0_2 l0_2.length c0_2)] 25 (0, 0))) ∧ Aside0 (Below w.heap.size w wc))
 case first =>
  have H := HC2.out
  clear HC2
  by_cases c4 : a0_0 < 1
  ·rw [if_pos c4] at H
   have c4b0 : decide (a0_0 < 1) = true := decide_eq_true c4
   clear c4
   (first | rw [c4b0] | (simp only [i64_w, i32_w]; rw [c4b0]) | skip)
   have H' := Aside0.mk H
   clear H
   have hcz5_0 : w3.cell? ⟨gb102, 0, none⟩ = some (.int .i64 a0_0) := (blk_cell BK102.out 0).trans rfl
   have hcz5_1 : w3.cell? ⟨gb102, 1, none⟩ = some (.int .i64 a0_1) := (blk_cell BK102.out 1).trans rfl
   have hcz5_2 : w3.cell? ⟨gb102, 2, none⟩ = some (.slice A0_2 l0_2.length c0_2) := (blk_cell BK102.out 2).trans rfl
   have hfz5_0 := blk_frozen BK102.out 0
   have hfz5_1 := blk_frozen BK102.out 1
   have hfz5_2 := blk_frozen BK102.out 2
   go_wp2
   go_meet
   case rel => exact ⟨_, (true), (by first | rfl | (simp; done) | (simp [*]; done)), H', ⟨by first | omega | exact Nat.le_refl _⟩, ⟨BK102.out⟩, ⟨by repeat (first | (with_reducible first | exact HB.out | apply below_alloc | apply pw_below_drewN | apply below_drew1 | refine below_set ?_ GE102.out) | exact HB.out)⟩⟩
  ·rw [if_neg c4] at H
   have c4b0 : decide (a0_0 < 1) = false := decide_eq_false c4
   clear c4
   (first | rw [c4b0] | (simp only [i64_w, i32_w]; rw [c4b0]) | skip)
   by_cases c6 : a0_0 > 64
   ·rw [if_pos c6] at H
    have c6b0 : decide (64 < a0_0) = true := decide_eq_true c6
    clear c6
    have H' := Aside0.mk H
    clear H
    have hcz7_0 : w3.cell? ⟨gb102, 0, none⟩ = some (.int .i64 a0_0) := (blk_cell BK102.out 0).trans rfl
    have hcz7_1 : w3.cell? ⟨gb102, 1, none⟩ = some (.int .i64 a0_1) := (blk_cell BK102.out 1).trans rfl
    have hcz7_2 : w3.cell? ⟨gb102, 2, none⟩ = some (.slice A0_2 l0_2.length c0_2) := (blk_cell BK102.out 2).trans rfl
    have hfz7_0 := blk_frozen BK102.out 0
    have hfz7_1 := blk_frozen BK102.out 1
    have hfz7_2 := blk_frozen BK102.out 2
    go_wp2
    go_meet
    case rel => exact ⟨_, (true), (by first | rfl | (simp; done) | (simp [*]; done)), H', ⟨by first | omega | exact Nat.le_refl _⟩, ⟨BK102.out⟩, ⟨by repeat (first | (with_reducible first | exact HB.out | apply below_alloc | apply pw_below_drewN | apply below_drew1 | refine below_set ?_ GE102.out) | exact HB.out)⟩⟩
   ·rw [if_neg c6] at H
    have c6b0 : decide (64 < a0_0) = false := decide_eq_false c6
    clear c6
    by_cases c8 : a0_1 < 1
    ·rw [if_pos c8] at H
     have c8b0 : decide (a0_1 < 1) = true := decide_eq_true c8
     clear c8
     have H' := Aside0.mk H
     clear H
     have hcz9_0 : w3.cell? ⟨gb102, 0, none⟩ = some (.int .i64 a0_0) := (blk_cell BK102.out 0).trans rfl
     have hcz9_1 : w3.cell? ⟨gb102, 1, none⟩ = some (.int .i64 a0_1) := (blk_cell BK102.out 1).trans rfl
     have hcz9_2 : w3.cell? ⟨gb102, 2, none⟩ = some (.slice A0_2 l0_2.length c0_2) := (blk_cell BK102.out 2).trans rfl
     have hfz9_0 := blk_frozen BK102.out 0
     have hfz9_1 := blk_frozen BK102.out 1
     have hfz9_2 := blk_frozen BK102.out 2
     go_wp2
     go_meet
     case rel => exact ⟨_, (true), (by first | rfl | (simp; done) | (simp [*]; done)), H', ⟨by first | omega | exact Nat.le_refl _⟩, ⟨BK102.out⟩, ⟨by repeat (first | (with_reducible first | exact HB.out | apply below_alloc | apply pw_below_drewN | apply below_drew1 | refine below_set ?_ GE102.out) | exact HB.out)⟩⟩
    ·rw [if_neg c8] at H
     have c8b0 : decide (a0_1 < 1) = false := decide_eq_false c8
     clear c8
     have H' := Aside0.mk H
     clear H
     have hcz10_0 : w3.cell? ⟨gb102, 0, none⟩ = some (.int .i64 a0_0) := (blk_cell BK102.out 0).trans rfl
     have hcz10_1 : w3.cell? ⟨gb102, 1, none⟩ = some (.int .i64 a0_1) := (blk_cell BK102.out 1).trans rfl
     have hcz10_2 : w3.cell? ⟨gb102, 2, none⟩ = some (.slice A0_2 l0_2.length c0_2) := (blk_cell BK102.out 2).trans rfl
     have hfz10_0 := blk_frozen BK102.out 0
     have hfz10_1 := blk_frozen BK102.out 1
     have hfz10_2 := blk_frozen BK102.out 2
     go_wp2
     go_meet
     case rel => exact ⟨_, (decide (a0_1 > 64)), (by first | rfl | (simp; done) | (simp [*]; done)), H', ⟨by first | omega | exact Nat.le_refl _⟩, ⟨BK102.out⟩, ⟨by repeat (first | (with_reducible first | exact HB.out | apply below_alloc | apply pw_below_drewN | apply below_drew1 | refine below_set ?_ GE102.out) | exact HB.out)⟩⟩
 case rest =>
  clear HC2
  try clear c1; try clear p2; try clear c4; try clear c4b0; try clear c6; try clear c6b0; try clear c8; try clear c8b0
  try clear hcz10_0; try clear hcz10_1; try clear hcz10_2; try clear hcz5_0; try clear hcz5_1; try clear hcz5_2; try clear hcz7_0; try clear hcz7_1
  try clear hcz7_2; try clear hcz9_0; try clear hcz9_1; try clear hcz9_2; try clear hfz10_0; try clear hfz10_1; try clear hfz10_2; try clear hfz5_0
  try clear hfz5_1; try clear hfz5_2; try clear hfz7_0; try clear hfz7_1; try clear hfz7_2; try clear hfz9_0; try clear hfz9_1; try clear hfz9_2
  obtain ⟨kq, x22_1, rfl, HA, HJ1, BK102, HB⟩ := hcut
  cases kq with
  | zero => exact absurd HA.out (by simp [flow_Check.j0])
  | succ kj1 =>
   have H := HA.out
   clear HA
   simp only [flow_Check.j0] at H
   by_cases c11 : x22_1 = true
   ·subst c11
    have H1 : (some 2) = some r := by rw [if_pos rfl] at H; exact H
    clear H
    have H := H1
    clear H1
    obtain rfl := Option.some.inj H
    go_wp2
    go_ret
    exact ⟨by first | rfl | (simp [errW_none, errW_some] <;> rfl) | (simp [*, errW_none, errW_some] <;> rfl), by repeat (first | (with_reducible first | exact HB.out | apply below_alloc | apply pw_below_drewN | apply below_drew1 | refine below_set ?_ GE102.out) | exact HB.out)⟩
   ·replace c11 := Bool.eq_false_iff.mpr c11
    subst c11
    have H1 : (if (l0_2.length : Int) = (wrap64 (a0_0 * a0_1)) then (flow_Check.l0 kj1 l0_2 (l0_2.length : Int) 0) else (some 3)) = some r := by rw [if_neg (show ¬ (false = true) by decide)] at H; exact H
    clear H
    have H := H1
    clear H1
    by_cases c12 : (l0_2.length : Int) = (wrap64 (a0_0 * a0_1))
    ·rw [if_pos c12] at H
     have c12b0 : ((l0_2.length : Int) == (wrap64 (a0_0 * a0_1))) = true := beq_iff_eq.mpr c12
     have c12b1 : ((l0_2.length : Int) != (wrap64 (a0_0 * a0_1))) = false := bne_eq_false_iff_eq.mpr c12
     clear c12
     have H' := Aside0.mk H
     clear H
     have hcz13_0 : wc.cell? ⟨gb102, 0, none⟩ = some (.int .i64 a0_0) := (blk_cell BK102.out 0).trans rfl
     have hcz13_1 : wc.cell? ⟨gb102, 1, none⟩ = some (.int .i64 a0_1) := (blk_cell BK102.out 1).trans rfl
     have hcz13_2 : wc.cell? ⟨gb102, 2, none⟩ = some (.slice A0_2 l0_2.length c0_2) := (blk_cell BK102.out 2).trans rfl
     have hfz13_0 := blk_frozen BK102.out 0
     have hfz13_1 := blk_frozen BK102.out 1
     have hfz13_2 := blk_frozen BK102.out 2
     go_wp2
     go_loopg [35] kj1 (fun kq v35 w' => ∃ (x35_2 : Int), v35 = .int .i64 x35_2 ∧ Aside0 (flow_Check.l0 kq l0_2 (l0_2.length : Int) x35_2 = some r) ∧ Aside0 (kq ≤ kj1) ∧ Aside0 (w'.heap[gb102]? = some (.cells #[.int .i64 a0_0, .int .i64 a0_1, (.slice A0_2 l0_2.length c0_2)] 25 (0, 0))) ∧ Aside0 (Below w.heap.size w w'))
     case atStart => exact ⟨(0), (by first | rfl | (simp; done) | (simp [*]; done)), H', ⟨Nat.le_refl _⟩, ⟨BK102.out⟩, ⟨by repeat (first | (with_reducible first | exact HB.out | apply below_alloc | apply pw_below_drewN | apply below_drew1 | refine below_set ?_ GE102.out) | exact HB.out)⟩⟩
     case round =>
      clear H'
      try clear c1; try clear p2; try clear c4; try clear c4b0; try clear c6; try clear c6b0; try clear p6; try clear c8
      try clear c8b0; try clear c11; try clear c12; try clear c12b0; try clear c12b1; try clear hcz10_0; try clear hcz10_1; try clear hcz10_2
      try clear hcz13_0; try clear hcz13_1; try clear hcz13_2; try clear hcz5_0; try clear hcz5_1; try clear hcz5_2; try clear hcz7_0; try clear hcz7_1
      try clear hcz7_2; try clear hcz9_0; try clear hcz9_1; try clear hcz9_2; try clear hfz10_0; try clear hfz10_1; try clear hfz10_2; try clear hfz13_0
      try clear hfz13_1; try clear hfz13_2; try clear hfz5_0; try clear hfz5_1; try clear hfz5_2; try clear hfz7_0; try clear hfz7_1; try clear hfz7_2
      try clear hfz9_0; try clear hfz9_1; try clear hfz9_2; try clear p2
      obtain ⟨x35_2, rfl, HA, HK2, BK102, HB⟩ := hrel
      cases gk with
      | zero => exact absurd HA.out (by simp [flow_Check.l0])
      | succ k2 =>
       have H := HA.out
       clear HA
       simp only [flow_Check.l0] at H
       by_cases c14 : x35_2 < (l0_2.length : Int)
       ·rw [if_pos c14] at H
        have c14b0 : decide (x35_2 < (l0_2.length : Int)) = true := decide_eq_true c14
        clear c14
        by_cases c15 : 0 ≤ x35_2
        ·rw [if_pos c15] at H
         have c15b0 : decide (0 ≤ x35_2) = true := decide_eq_true c15
         clear c15
         by_cases c16 : x35_2 < (l0_2.length : Int)
         ·rw [if_pos c16] at H
          have c16b0 : decide (x35_2 < (l0_2.length : Int)) = true := decide_eq_true c16
          clear c16
          by_cases c17 : (rd l0_2 x35_2) < 0
          ·rw [if_pos c17] at H
           have c17b0 : decide ((rd l0_2 x35_2) < 0) = true := decide_eq_true c17
           clear c17
           obtain rfl := Option.some.inj H
           have p103 : 0 ≤ (x35_2 : Int) := of_decide_eq_true (by first | (with_reducible assumption) | assumption)
           have q103 : x35_2 < (l0_2.length : Int) := of_decide_eq_true (by first | (with_reducible assumption) | assumption)
           obtain ⟨ad103, e103, hx103_0⟩ := Kd.at_int HR0_2.out x35_2 p103 q103
           cases e103
           replace hx103_0 := (HB.out.cell (World.block_lt_of_cell? w _ hx103_0)).trans hx103_0
           replace p103 := eq_true p103
           replace q103 := eq_true q103
           go_wp2
           go_ret
           exact ⟨by first | rfl | (simp [errW_none, errW_some] <;> rfl) | (simp [*, errW_none, errW_some] <;> rfl), by repeat (first | (with_reducible first | exact HB.out | apply below_alloc | apply pw_below_drewN | apply below_drew1 | refine below_set ?_ GE102.out) | exact HB.out)⟩
          ·rw [if_neg c17] at H
           have c17b0 : decide ((rd l0_2 x35_2) < 0) = false := decide_eq_false c17
           clear c17
           by_cases c18 : (rd l0_2 x35_2) > 1000
           ·rw [if_pos c18] at H
            have c18b0 : decide (1000 < (rd l0_2 x35_2)) = true := decide_eq_true c18
            clear c18
            obtain rfl := Option.some.inj H
            have p103 : 0 ≤ (x35_2 : Int) := of_decide_eq_true (by first | (with_reducible assumption) | assumption)
            have q103 : x35_2 < (l0_2.length : Int) := of_decide_eq_true (by first | (with_reducible assumption) | assumption)
            obtain ⟨ad103, e103, hx103_0⟩ := Kd.at_int HR0_2.out x35_2 p103 q103
            cases e103
            replace hx103_0 := (HB.out.cell (World.block_lt_of_cell? w _ hx103_0)).trans hx103_0
            replace p103 := eq_true p103
            replace q103 := eq_true q103
            go_wp2
            go_ret
            exact ⟨by first | rfl | (simp [errW_none, errW_some] <;> rfl) | (simp [*, errW_none, errW_some] <;> rfl), by repeat (first | (with_reducible first | exact HB.out | apply below_alloc | apply pw_below_drewN | apply below_drew1 | refine below_set ?_ GE102.out) | exact HB.out)⟩
           ·rw [if_neg c18] at H
            have c18b0 : decide (1000 < (rd l0_2 x35_2)) = false := decide_eq_false c18
            clear c18
            have H' := Aside0.mk H
            clear H
            have p103 : 0 ≤ (x35_2 : Int) := of_decide_eq_true (by first | (with_reducible assumption) | assumption)
            have q103 : x35_2 < (l0_2.length : Int) := of_decide_eq_true (by first | (with_reducible assumption) | assumption)
            obtain ⟨ad103, e103, hx103_0⟩ := Kd.at_int HR0_2.out x35_2 p103 q103
            cases e103
            replace hx103_0 := (HB.out.cell (World.block_lt_of_cell? w _ hx103_0)).trans hx103_0
            replace p103 := eq_true p103
            replace q103 := eq_true q103
            go_wp2
            go_roundg k2
            case measure => have := HJ1.out; have := HK2.out; omega
            case rel => exact ⟨(wrap64 (x35_2 + 1)), (by first | rfl | (simp; done) | (simp [*]; done)), H', ⟨by have := HJ1.out; have := HK2.out; omega⟩, ⟨BK102.out⟩, ⟨by repeat (first | (with_reducible first | exact HB.out | apply below_alloc | apply pw_below_drewN | apply below_drew1 | refine below_set ?_ GE102.out) | exact HB.out)⟩⟩
         ·rw [if_neg c16] at H
          exact absurd H (by simp)
        ·rw [if_neg c15] at H
         exact absurd H (by simp)
       ·rw [if_neg c14] at H
        have c14b0 : decide (x35_2 < (l0_2.length : Int)) = false := decide_eq_false c14
        clear c14
        obtain rfl := Option.some.inj H
        go_wp2
        go_ret
        exact ⟨by first | rfl | (simp [errW_none, errW_some] <;> rfl) | (simp [*, errW_none, errW_some] <;> rfl), by repeat (first | (with_reducible first | exact HB.out | apply below_alloc | apply pw_below_drewN | apply below_drew1 | refine below_set ?_ GE102.out) | exact HB.out)⟩
    ·rw [if_neg c12] at H
     have c12b0 : ((l0_2.length : Int) == (wrap64 (a0_0 * a0_1))) = false := beq_eq_false_iff_ne.mpr c12
     have c12b1 : ((l0_2.length : Int) != (wrap64 (a0_0 * a0_1))) = true := bne_iff_ne.mpr c12
     obtain rfl := Option.some.inj H
     have hcz19_0 : wc.cell? ⟨gb102, 0, none⟩ = some (.int .i64 a0_0) := (blk_cell BK102.out 0).trans rfl
     have hcz19_1 : wc.cell? ⟨gb102, 1, none⟩ = some (.int .i64 a0_1) := (blk_cell BK102.out 1).trans rfl
     have hcz19_2 : wc.cell? ⟨gb102, 2, none⟩ = some (.slice A0_2 l0_2.length c0_2) := (blk_cell BK102.out 2).trans rfl
     have hfz19_0 := blk_frozen BK102.out 0
     have hfz19_1 := blk_frozen BK102.out 1
     have hfz19_2 := blk_frozen BK102.out 2
     go_wp2
     go_ret
     exact ⟨by first | rfl | (simp [errW_none, errW_some] <;> rfl) | (simp [*, errW_none, errW_some] <;> rfl), by repeat (first | (with_reducible first | exact HB.out | apply below_alloc | apply pw_below_drewN | apply below_drew1 | refine below_set ?_ GE102.out) | exact HB.out)⟩

-- NOT PRINTED: function 34 (heap_up)

-- NOT PRINTED: function 27 (heap_Push)

/-! ### flow_fars_Len: function 28 -/
def flow_fars_Len.f (l0 : List (S52)) : Option (Int) := some (l0.length : Int)
set_option maxHeartbeats 8000000 in
set_option maxRecDepth 100000 in
theorem flow_fars_Len.calls (A0 : Option Addr) (c0 : Nat) (l0 : List (S52)) (r : Int) (w : World) (hr0 : Kd.C k52 w A0 l0.length l0) (hc0 : l0.length ≤ c0) (h : flow_fars_Len.f l0 = some r) :
  Calls Try.prog 28 #[.slice A0 l0.length c0] w fun e w' => e = .returned (.int .i64 r) ∧ Drawn0 w w' := by
 have HR0 := Aside0.mk hr0
 have HC0 := Aside0.mk hc0
 clear hr0 hc0
 have H : (some (l0.length : Int)) = some r := h
 clear h
 obtain rfl := Option.some.inj H
 go_enter Try.func28, Try.ntmps28
 go_wp2
 go_ret
 exact ⟨by first | rfl | (simp; done) | (simp [*]; done), by repeat (first | exact Drawn0.refl _ | apply Drawn0.step)⟩

-- NOT PRINTED: function 35 (heap_down)

-- NOT PRINTED: function 29 (heap_Pop)

/-! ### flow_Field: function 10 -/
-- rounds making descend
theorem flow_Field.wrap_in {x : Int} (h0 : -9223372036854775808 ≤ x) (h1 : x ≤ 9223372036854775807) : wrap64 x = x := by
 unfold wrap64; omega
theorem flow_Field.check_l (l : List Int) : ∀ (k : Nat) (i : Int) (r : Int), 0 ≤ i → l.length ≤ 4096 → flow_Check.l0 k l (l.length : Int) i = some r → r = 0 ∧ (∀ j : Int, i ≤ j → j < l.length → 0 ≤ rd l j ∧ rd l j ≤ 1000) ∨ r ≠ 0
 | 0, _, _, _, _, h => by simp [flow_Check.l0] at h
 | k + 1, i, r, h0, hl, h => by
  rw [flow_Check.l0] at h
  by_cases hi : i < (l.length : Int)
  ·rw [if_pos hi] at h
   try rw [if_pos h0, if_pos hi] at h
   by_cases h1 : rd l i < 0
   ·rw [if_pos h1] at h; injection h with h; exact .inr (by omega)
   ·rw [if_neg h1] at h
    by_cases h2 : rd l i > 1000
    ·rw [if_pos h2] at h; injection h with h; exact .inr (by omega)
    ·rw [if_neg h2, flow_Field.wrap_in (by omega) (by omega)] at h
     rcases flow_Field.check_l l k (i + 1) r (by omega) hl h with ⟨e, h⟩ | h
     ·refine .inl ⟨e, fun j h1 h2 => ?_⟩
      by_cases e : j = i
      ·subst e; omega
      ·exact h j (by omega) h2
     ·exact .inr h
  ·rw [if_neg hi] at h
   injection h with h
   exact .inl ⟨h.symm, fun j h1 h2 => by omega⟩
theorem flow_Field.check_ok {k : Nat} {W H : Int} {cost : List Int} (h : flow_Check.f k W H cost = some 0) : FlowSol.Grid W H cost ∧ 0 < k := by
 unfold flow_Check.f at h
 cases k with
 | zero => simp [flow_Check.j0] at h
 | succ k =>
  refine ⟨?_, Nat.succ_pos k⟩
  have hj : flow_Check.j0 (k + 1) true W H cost ≠ some 0 := by rw [flow_Check.j0, if_pos rfl]; simp
  by_cases h1 : W < 1
  ·rw [if_pos h1] at h; exact absurd h hj
  rw [if_neg h1] at h
  by_cases h2 : W > 64
  ·rw [if_pos h2] at h; exact absurd h hj
  rw [if_neg h2] at h
  by_cases h3 : H < 1
  ·rw [if_pos h3] at h; exact absurd h hj
  rw [if_neg h3] at h
  by_cases h4 : H > 64
  ·rw [decide_eq_true h4] at h; exact absurd h hj
  rw [decide_eq_false h4, flow_Check.j0, if_neg (by simp)] at h
  have b1 : 0 ≤ W * H := Int.mul_nonneg (by omega) (by omega)
  have b2 : W * H ≤ 64 * 64 := FlowSol.le_mul (by omega) (by omega) (by omega) (by omega)
  rw [flow_Field.wrap_in (by omega) (by omega)] at h
  by_cases h5 : (cost.length : Int) = W * H
  ·rw [if_pos h5] at h
   rcases flow_Field.check_l cost k 0 0 (by omega) (by omega) h with ⟨_, h⟩ | h
   ·refine ⟨by omega, by omega, by omega, by omega, h5, fun x hx => ?_⟩
    obtain ⟨i, hi, rfl⟩ := List.mem_iff_getElem.1 hx
    have := h (i : Int) (by omega) (by omega)
    unfold rd at this
    rwa [Int.toNat_natCast, List.getD_eq_getElem?_getD, List.getElem?_eq_getElem hi] at this
   ·exact absurd rfl h
  ·rw [if_neg h5] at h; simp at h
theorem flow_Field.step_ok (k : Nat) {W H : Int} (cost : List Int) (w1 : 1 ≤ W) (w2 : W ≤ 64) (h1 : 1 ≤ H) (h2 : H ≤ 64) (cell dir : Int) : flow_Step.f (k + 1) W H cost cell dir = some (FlowSol.stepP W H cell dir) := by
 have b1 : 0 ≤ W * H := Int.mul_nonneg (by omega) (by omega)
 have b2 : W * H ≤ 64 * 64 := FlowSol.le_mul w2 h2 (by omega) (by omega)
 unfold flow_Step.f
 rw [if_neg (by omega), if_neg (by omega), if_neg (by omega), if_neg (by omega)]
 unfold FlowSol.stepP
 by_cases hc : cell < 0
 ·rw [if_pos hc, if_pos (by omega)]; rfl
 ·rw [if_neg hc, flow_Field.wrap_in (by omega) (by omega)]
  by_cases hd : cell ≥ W * H
  ·rw [decide_eq_true hd, if_pos (by omega)]; rfl
  ·rw [decide_eq_false hd, if_neg (by omega)]
   rw [flow_Step.j0]
   obtain ⟨a1, a2, a3, a4, a5⟩ := FlowSol.unlay w1 (Int.not_lt.1 hc) (Int.not_le.1 hd)
   rw [Int.tmod_eq_emod_of_nonneg (Int.not_lt.1 hc), Int.tdiv_eq_ediv_of_nonneg (Int.not_lt.1 hc)]
   dsimp only
   generalize cell % W = x at *
   generalize cell / W = y at *
   have m0 : 0 ≤ y * W := Int.mul_nonneg a3 (by omega)
   have m1 : y * W ≤ 64 * 64 := FlowSol.le_mul (by omega) w2 a3 (by omega)
   have e1 : (y + 1) * W = y * W + W := by rw [Int.add_mul, Int.one_mul]
   have e2 : (y - 1) * W = y * W - W := by rw [Int.sub_mul, Int.one_mul]
   have q1 : wrap64 y = y := flow_Field.wrap_in (by omega) (by omega)
   have q2 : wrap64 (y * W) = y * W := flow_Field.wrap_in (by omega) (by omega)
   have q3 : wrap64 (x + 1) = x + 1 := flow_Field.wrap_in (by omega) (by omega)
   have q4 : wrap64 (x - 1) = x - 1 := flow_Field.wrap_in (by omega) (by omega)
   have q5 : wrap64 (y + 1) = y + 1 := flow_Field.wrap_in (by omega) (by omega)
   have q6 : wrap64 (y - 1) = y - 1 := flow_Field.wrap_in (by omega) (by omega)
   have q7 : wrap64 (y * W + W) = y * W + W := flow_Field.wrap_in (by omega) (by omega)
   have q8 : wrap64 (y * W - W) = y * W - W := flow_Field.wrap_in (by omega) (by omega)
   have r1 : wrap64 (y * W + x) = y * W + x := flow_Field.wrap_in (by omega) (by omega)
   have r2 : wrap64 (y * W + (x + 1)) = y * W + (x + 1) := flow_Field.wrap_in (by omega) (by omega)
   have r3 : wrap64 (y * W + (x - 1)) = y * W + (x - 1) := flow_Field.wrap_in (by omega) (by omega)
   have r4 : wrap64 (y * W + W + x) = y * W + W + x := flow_Field.wrap_in (by omega) (by omega)
   have r5 : wrap64 (y * W - W + x) = y * W - W + x := flow_Field.wrap_in (by omega) (by omega)
   simp only [q1, q2, q3, q4, q5, q6, e1, e2, q7, q8, r1, r2, r3, r4, r5, Bool.false_eq_true, if_false]
   rw [if_neg (by omega)]
   by_cases d0 : dir = 0
   ·rw [if_pos d0, if_pos d0, if_neg (by omega), if_neg (by omega), if_neg (by omega), if_neg (by omega)]
   rw [if_neg d0, if_neg d0]
   by_cases d1 : dir = 1
   ·rw [if_pos d1, if_pos d1, if_neg (by omega), if_neg (by omega)]
    split
    ·rfl
    ·rw [if_neg (by omega)]
   rw [if_neg d1, if_neg d1]
   by_cases d2 : dir = 2
   ·rw [if_pos d2, if_pos d2, if_neg (by omega), if_neg (by omega), if_neg (by omega)]
    split <;> rfl
   rw [if_neg d2, if_neg d2]
   by_cases d3 : dir = 3
   ·rw [if_pos d3, if_pos d3]
    split
    ·rfl
    ·rw [if_neg (by omega), if_neg (by omega), if_neg (by omega)]
   rw [if_neg d3, if_neg d3]
   by_cases d4 : dir = 4
   ·rw [if_pos d4, if_pos d4, if_neg (by omega)]
    split
    ·rfl
    ·rw [if_neg (by omega), if_neg (by omega)]
   rw [if_neg d4, if_neg d4]
def flow_Field.g (W H : Int) (cost goals : List Int) (c : Int) : Option (List Int × Int) :=
 if c ≠ 0 then some ([], c) else if ∀ i ∈ goals, 0 ≤ i ∧ i < W * H then (if goals.length ≤ 900000000000 then (FlowRun.fieldP W H cost goals).bind fun r => some (r, 0) else none) else if goals.length ≤ 140737488355328 then some ([], 1) else none
def flow_Field.f (k : Nat) (a0_0 : Int) (a0_1 : Int) (l0_2 : List Int) (l1 : List Int) : Option (List Int × Int) := (flow_Check.f k a0_0 a0_1 l0_2).bind fun c => flow_Field.g a0_0 a0_1 l0_2 l1 c
theorem flow_Field.mono : ∀ a0 a1 a2 a3 k, LeO (flow_Field.f k a0 a1 a2 a3) (flow_Field.f (k + 1) a0 a1 a2 a3) := by
 intro a0 a1 a2 a3 k
 unfold flow_Field.f
 exact LeO.bind (flow_Check.mono _ _ _ _) fun _ => LeO.refl _
theorem flow_Field.calls (k : Nat) (a0_0 : Int) (a0_1 : Int) (A0_2 : Option Addr) (c0_2 : Nat) (l0_2 : List Int) (A1 : Option Addr) (c1 : Nat) (l1 : List Int) (r1 : List Int) (r2 : Int) (w : World) (hr0_2 : Kd.C (Kd.int .i64) w A0_2 l0_2.length l0_2) (hc0_2 : l0_2.length ≤ c0_2) (hr1 : Kd.C (Kd.int .i64) w A1 l1.length l1) (hc1 : l1.length ≤ c1) (h : flow_Field.f k a0_0 a0_1 l0_2 l1 = some (r1, r2)) :
 Calls Try.prog 10 #[.agg #[.int .i64 a0_0, .int .i64 a0_1, .slice A0_2 l0_2.length c0_2], .slice A1 l1.length c1] w fun e w' => ∃ v0_ : Value, e = .returned (.tuple #[v0_, .int .i64 r2]) ∧ Kd.R (Kd.int .i64) 3 w' w.heap.size (fun _ => True) v0_ r1 ∧ Below w.heap.size w w' := by
 unfold flow_Field.f at h
 obtain ⟨c, hc, hh⟩ := Option.bind_eq_some_iff.1 h
 clear h
 have hCheck : ∀ w', Below w.heap.size w w' → Calls Try.prog 17 #[.agg #[.int .i64 a0_0, .int .i64 a0_1, .slice A0_2 l0_2.length c0_2]] w' fun e w2 => e = .returned (.int .i64 c) ∧ Below w'.heap.size w' w2 := fun w' hb =>
  flow_Check.calls k a0_0 a0_1 A0_2 c0_2 l0_2 c w' (Kd.C_below hr0_2 hb) hc0_2 hc
 unfold flow_Field.g at hh
 by_cases h0 : c = 0
 ·subst h0
  rw [if_neg (by simp)] at hh
  obtain ⟨g, hk⟩ := flow_Field.check_ok hc
  obtain ⟨k, rfl⟩ : ∃ m, k = m + 1 := ⟨k - 1, by omega⟩
  by_cases hin : ∀ i ∈ l1, 0 ≤ i ∧ i < a0_0 * a0_1
  ·rw [if_pos hin] at hh
   by_cases hl : l1.length ≤ 900000000000
   ·rw [if_pos hl] at hh
    obtain ⟨r, hr, hs⟩ := FlowRun.fieldP_ends g hin
    rw [hr] at hh
    simp only [Option.bind_some] at hh
    obtain ⟨rfl, rfl⟩ := Prod.mk.inj (Option.some.inj hh)
    refine (FlowField.field_any g A0_2 c0_2 A1 c1 hr0_2 hr1 hin hl hCheck (fun w' cell dir hb => flow_Step.calls (k + 1) a0_0 a0_1 A0_2 c0_2 l0_2 cell dir _ w' (Kd.C_below hr0_2 hb) hc0_2 (flow_Field.step_ok k l0_2 g.w1 g.w2 g.h1 g.h2 cell dir))).mono ?_
    rintro e w' ⟨v, f, rfl, hR, hS, hb⟩
    refine ⟨v, rfl, ?_, hb⟩
    rw [hS.unique g.len hs] at hR
    exact hR
   ·rw [if_neg hl] at hh; cases hh
  ·rw [if_neg hin] at hh
   by_cases hl : l1.length ≤ 140737488355328
   ·rw [if_pos hl] at hh
    obtain ⟨rfl, rfl⟩ := Prod.mk.inj (Option.some.inj hh)
    refine (FlowFieldE.field_goal g A0_2 c0_2 A1 c1 hr0_2 hr1 (by simpa using hin) hl hCheck).mono ?_
    rintro e w' ⟨rfl, hb⟩
    exact ⟨_, rfl, Kd.R_nil _ _ _ _ _, hb⟩
   ·rw [if_neg hl] at hh; cases hh
 ·rw [if_pos h0] at hh
  obtain ⟨rfl, rfl⟩ := Prod.mk.inj (Option.some.inj hh)
  refine (FlowFieldE.field_bad l0_2.length A0_2 c0_2 (.slice A1 l1.length c1) c h0 hCheck).mono ?_
  rintro e w' ⟨rfl, hb⟩
  exact ⟨_, rfl, Kd.R_nil _ _ _ _ _, hb⟩

end Go.Proofs.Ytmpfboilodlfnaa.PFlowMade
