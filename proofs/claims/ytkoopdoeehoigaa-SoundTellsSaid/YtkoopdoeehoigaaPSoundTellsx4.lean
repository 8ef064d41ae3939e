-- Printed by a program: the print with changes of this session (wip/printpatch.py).
import Derived.Test.YtkoopdoeehoigaaPSoundTellsx0
import Derived.Test.YtkoopdoeehoigaaPSoundTellsx2
import Derived.Test.YtkoopdoeehoigaaPSoundTellsx3
namespace Go.Proofs.Ytkoopdoeehoigaa.PSoundTells
open Go.Proofs.Ytkoopdoeehoigaa.Fnv Go.Proofs.Ytkoopdoeehoigaa.Ary
open Go.RowKit Go.Proofs.YtkoopdoeehoigaaW.PrintWords Go.Proofs.YtkoopdoeehoigaaW.PrintLast Go.Proofs.YtkoopdoeehoigaaW.PrintMore
attribute [local go_sem] max2_int min2_int max_two min_two max_three min_three max_four min_four   -- for this text's walks alone
set_option linter.unusedVariables false
set_option linter.unusedSimpArgs false

/-! ### sound_Check: function 10 -/
mutual
def sound_Check.l0 : Nat → List (S29) → Int → Int → List (S29) → Int → Option (Int)
 | 0, _, _, _, _, _ => none
 | k + 1, x18, x19, x20, x150000, x150001 => if x20 < x19 then (if 0 ≤ x20 then (if x20 < (x18.length : Int) then (if ((rd_T29 x18 x20).f0) > 6 then (some 2) else (if ((rd_T29 x18 x20).f1) > 64 then (some 2) else (if (((rd_T29 x18 x20).f2).length : Int) > 4000 then (some 2) else (sound_Check.l0 k x18 x19 (wrap64 (x20 + 1)) x150000 x150001)))) else (none)) else (none)) else (if x150001 < 0 then (sound_Check.j1 k true x150000 x150001) else (if x150001 ≥ (x150000.length : Int) then (sound_Check.j1 k true x150000 x150001) else (if 0 ≤ x150001 then (if x150001 < (x150000.length : Int) then (sound_Check.j1 k (((rd_T29 x150000 x150001).f0) != 0) x150000 x150001) else (none)) else (none))))
def sound_Check.j1 : Nat → Bool → List (S29) → Int → Option (Int)
 | 0, _, _, _ => none
 | k + 1, x59, x150000, x150001 => if x59 = true then (some 16) else (sound_Check.l1 k x150000 (x150000.length : Int) 0 x150000 x150001)
def sound_Check.l1 : Nat → List (S29) → Int → Int → List (S29) → Int → Option (Int)
 | 0, _, _, _, _, _ => none
 | k + 1, x61, x62, x63, x150000, x150001 => if x63 < x62 then (if 0 ≤ x63 then (if x63 < (x61.length : Int) then (if ((rd_T29 x61 x63).f0) < 0 then (sound_Check.j3 k x61 x62 x63 true x150000 x150001 ((rd_T29 x61 x63).f0) ((rd_T29 x61 x63).f1) ((rd_T29 x61 x63).f2)) else (sound_Check.j3 k x61 x62 x63 (decide (((rd_T29 x61 x63).f1) < ((rd_T29 x61 x63).f0))) x150000 x150001 ((rd_T29 x61 x63).f0) ((rd_T29 x61 x63).f1) ((rd_T29 x61 x63).f2))) else (none)) else (none)) else (sound_Check.l3 k (x150000.length : Int) 0 x150000 x150001)
def sound_Check.j3 : Nat → List (S29) → Int → Int → Bool → List (S29) → Int → Int → Int → List (S26) → Option (Int)
 | 0, _, _, _, _, _, _, _, _, _ => none
 | k + 1, x61, x62, x63, x76, x150000, x150001, x155000, x155001, x155002 => if x76 = true then (some 3) else (sound_Check.l2 k x61 x62 x63 x155002 (x155002.length : Int) 0 x150000 x150001 x155000 x155001 x155002)
def sound_Check.l2 : Nat → List (S29) → Int → Int → List (S26) → Int → Int → List (S29) → Int → Int → Int → List (S26) → Option (Int)
 | 0, _, _, _, _, _, _, _, _, _, _, _ => none
 | k + 1, x61, x62, x63, x78, x79, x80, x150000, x150001, x155000, x155001, x155002 => if x80 < x79 then (if 0 ≤ x80 then (if x80 < (x78.length : Int) then ((sound_op.f k x150000 x150001 x155000 x155001 x155002 ((rd_T26 x78 x80).f0) ((rd_T26 x78 x80).f1)).bind fun t157 => (if t157 = 0 then (sound_Check.l2 k x61 x62 x63 x78 x79 (wrap64 (x80 + 1)) x150000 x150001 x155000 x155001 x155002) else (some t157))) else (none)) else (none)) else (sound_Check.l1 k x61 x62 (wrap64 (x63 + 1)) x150000 x150001)
def sound_Check.l3 : Nat → Int → Int → List (S29) → Int → Option (Int)
 | 0, _, _, _, _ => none
 | k + 1, x95, x96, x150000, x150001 => if x96 < x95 then ((sound_heights.f k x150000 x150001 x96).bind fun bt158 => (if bt158.2 = 0 then (sound_Check.l3 k x95 (wrap64 (x96 + 1)) x150000 x150001) else (some bt158.2))) else (some 0)
end
def sound_Check.f (k : Nat) (l0_0 : List (S29)) (a0_1 : Int) : Option (Int) := if (l0_0.length : Int) > 16 then (some 2) else (sound_Check.l0 k l0_0 (l0_0.length : Int) 0 l0_0 a0_1)
theorem sound_Check.mono_l : ∀ k, (∀ y0 y1 y2 y3 y4, LeO (sound_Check.l0 k y0 y1 y2 y3 y4) (sound_Check.l0 (k + 1) y0 y1 y2 y3 y4)) ∧ (∀ y0 y1 y2, LeO (sound_Check.j1 k y0 y1 y2) (sound_Check.j1 (k + 1) y0 y1 y2)) ∧ (∀ y0 y1 y2 y3 y4, LeO (sound_Check.l1 k y0 y1 y2 y3 y4) (sound_Check.l1 (k + 1) y0 y1 y2 y3 y4)) ∧ (∀ y0 y1 y2 y3 y4 y5 y6 y7 y8, LeO (sound_Check.j3 k y0 y1 y2 y3 y4 y5 y6 y7 y8) (sound_Check.j3 (k + 1) y0 y1 y2 y3 y4 y5 y6 y7 y8)) ∧ (∀ y0 y1 y2 y3 y4 y5 y6 y7 y8 y9 y10, LeO (sound_Check.l2 k y0 y1 y2 y3 y4 y5 y6 y7 y8 y9 y10) (sound_Check.l2 (k + 1) y0 y1 y2 y3 y4 y5 y6 y7 y8 y9 y10)) ∧ (∀ y0 y1 y2 y3, LeO (sound_Check.l3 k y0 y1 y2 y3) (sound_Check.l3 (k + 1) y0 y1 y2 y3))
 | 0 => ⟨fun _ _ _ _ _ r h => by simp [sound_Check.l0] at h, fun _ _ _ r h => by simp [sound_Check.j1] at h, fun _ _ _ _ _ r h => by simp [sound_Check.l1] at h, fun _ _ _ _ _ _ _ _ _ r h => by simp [sound_Check.j3] at h, fun _ _ _ _ _ _ _ _ _ _ _ r h => by simp [sound_Check.l2] at h, fun _ _ _ _ r h => by simp [sound_Check.l3] at h⟩
 | k + 1 => by
  obtain ⟨ih0, ih1, ih2, ih3, ih4, ih5⟩ := sound_Check.mono_l k
  refine ⟨?_, ?_, ?_, ?_, ?_, ?_⟩
  ·intro y0 y1 y2 y3 y4
   unfold sound_Check.l0
   repeat' first
   | (with_reducible exact ih0 _ _ _ _ _)
   | (with_reducible exact ih1 _ _ _)
   | (with_reducible exact ih2 _ _ _ _ _)
   | (with_reducible exact ih3 _ _ _ _ _ _ _ _ _)
   | (with_reducible exact ih4 _ _ _ _ _ _ _ _ _ _ _)
   | (with_reducible exact ih5 _ _ _ _)
   | (with_reducible exact sound_heights.mono _ _ _ _)
   | (with_reducible exact sound_op.mono _ _ _ _ _ _ _ _)
   | (with_reducible exact LeO.refl _)
   | (with_reducible exact LeO.none _)
   | (with_reducible refine LeO.ite ?_ ?_)
   | (with_reducible refine LeO.bind ?_ (fun _ => ?_))
   | exact ih0 _ _ _ _ _
   | exact ih1 _ _ _
   | exact ih2 _ _ _ _ _
   | exact ih3 _ _ _ _ _ _ _ _ _
   | exact ih4 _ _ _ _ _ _ _ _ _ _ _
   | exact ih5 _ _ _ _
   | exact sound_heights.mono _ _ _ _
   | exact sound_op.mono _ _ _ _ _ _ _ _
   | exact LeO.none _
   | refine LeO.ite ?_ ?_
   | refine LeO.bind ?_ (fun _ => ?_)
  ·intro y0 y1 y2
   unfold sound_Check.j1
   repeat' first
   | (with_reducible exact ih0 _ _ _ _ _)
   | (with_reducible exact ih1 _ _ _)
   | (with_reducible exact ih2 _ _ _ _ _)
   | (with_reducible exact ih3 _ _ _ _ _ _ _ _ _)
   | (with_reducible exact ih4 _ _ _ _ _ _ _ _ _ _ _)
   | (with_reducible exact ih5 _ _ _ _)
   | (with_reducible exact sound_heights.mono _ _ _ _)
   | (with_reducible exact sound_op.mono _ _ _ _ _ _ _ _)
   | (with_reducible exact LeO.refl _)
   | (with_reducible exact LeO.none _)
   | (with_reducible refine LeO.ite ?_ ?_)
   | (with_reducible refine LeO.bind ?_ (fun _ => ?_))
   | exact ih0 _ _ _ _ _
   | exact ih1 _ _ _
   | exact ih2 _ _ _ _ _
   | exact ih3 _ _ _ _ _ _ _ _ _
   | exact ih4 _ _ _ _ _ _ _ _ _ _ _
   | exact ih5 _ _ _ _
   | exact sound_heights.mono _ _ _ _
   | exact sound_op.mono _ _ _ _ _ _ _ _
   | exact LeO.none _
   | refine LeO.ite ?_ ?_
   | refine LeO.bind ?_ (fun _ => ?_)
  ·intro y0 y1 y2 y3 y4
   unfold sound_Check.l1
   repeat' first
   | (with_reducible exact ih0 _ _ _ _ _)
   | (with_reducible exact ih1 _ _ _)
   | (with_reducible exact ih2 _ _ _ _ _)
   | (with_reducible exact ih3 _ _ _ _ _ _ _ _ _)
   | (with_reducible exact ih4 _ _ _ _ _ _ _ _ _ _ _)
   | (with_reducible exact ih5 _ _ _ _)
   | (with_reducible exact sound_heights.mono _ _ _ _)
   | (with_reducible exact sound_op.mono _ _ _ _ _ _ _ _)
   | (with_reducible exact LeO.refl _)
   | (with_reducible exact LeO.none _)
   | (with_reducible refine LeO.ite ?_ ?_)
   | (with_reducible refine LeO.bind ?_ (fun _ => ?_))
   | exact ih0 _ _ _ _ _
   | exact ih1 _ _ _
   | exact ih2 _ _ _ _ _
   | exact ih3 _ _ _ _ _ _ _ _ _
   | exact ih4 _ _ _ _ _ _ _ _ _ _ _
   | exact ih5 _ _ _ _
   | exact sound_heights.mono _ _ _ _
   | exact sound_op.mono _ _ _ _ _ _ _ _
   | exact LeO.none _
   | refine LeO.ite ?_ ?_
   | refine LeO.bind ?_ (fun _ => ?_)
  ·intro y0 y1 y2 y3 y4 y5 y6 y7 y8
   unfold sound_Check.j3
   repeat' first
   | (with_reducible exact ih0 _ _ _ _ _)
   | (with_reducible exact ih1 _ _ _)
   | (with_reducible exact ih2 _ _ _ _ _)
   | (with_reducible exact ih3 _ _ _ _ _ _ _ _ _)
   | (with_reducible exact ih4 _ _ _ _ _ _ _ _ _ _ _)
   | (with_reducible exact ih5 _ _ _ _)
   | (with_reducible exact sound_heights.mono _ _ _ _)
   | (with_reducible exact sound_op.mono _ _ _ _ _ _ _ _)
   | (with_reducible exact LeO.refl _)
   | (with_reducible exact LeO.none _)
   | (with_reducible refine LeO.ite ?_ ?_)
   | (with_reducible refine LeO.bind ?_ (fun _ => ?_))
   | exact ih0 _ _ _ _ _
   | exact ih1 _ _ _
   | exact ih2 _ _ _ _ _
   | exact ih3 _ _ _ _ _ _ _ _ _
   | exact ih4 _ _ _ _ _ _ _ _ _ _ _
   | exact ih5 _ _ _ _
   | exact sound_heights.mono _ _ _ _
   | exact sound_op.mono _ _ _ _ _ _ _ _
   | exact LeO.none _
   | refine LeO.ite ?_ ?_
   | refine LeO.bind ?_ (fun _ => ?_)
  ·intro y0 y1 y2 y3 y4 y5 y6 y7 y8 y9 y10
   unfold sound_Check.l2
   repeat' first
   | (with_reducible exact ih0 _ _ _ _ _)
   | (with_reducible exact ih1 _ _ _)
   | (with_reducible exact ih2 _ _ _ _ _)
   | (with_reducible exact ih3 _ _ _ _ _ _ _ _ _)
   | (with_reducible exact ih4 _ _ _ _ _ _ _ _ _ _ _)
   | (with_reducible exact ih5 _ _ _ _)
   | (with_reducible exact sound_heights.mono _ _ _ _)
   | (with_reducible exact sound_op.mono _ _ _ _ _ _ _ _)
   | (with_reducible exact LeO.refl _)
   | (with_reducible exact LeO.none _)
   | (with_reducible refine LeO.ite ?_ ?_)
   | (with_reducible refine LeO.bind ?_ (fun _ => ?_))
   | exact ih0 _ _ _ _ _
   | exact ih1 _ _ _
   | exact ih2 _ _ _ _ _
   | exact ih3 _ _ _ _ _ _ _ _ _
   | exact ih4 _ _ _ _ _ _ _ _ _ _ _
   | exact ih5 _ _ _ _
   | exact sound_heights.mono _ _ _ _
   | exact sound_op.mono _ _ _ _ _ _ _ _
   | exact LeO.none _
   | refine LeO.ite ?_ ?_
   | refine LeO.bind ?_ (fun _ => ?_)
  ·intro y0 y1 y2 y3
   unfold sound_Check.l3
   repeat' first
   | (with_reducible exact ih0 _ _ _ _ _)
   | (with_reducible exact ih1 _ _ _)
   | (with_reducible exact ih2 _ _ _ _ _)
   | (with_reducible exact ih3 _ _ _ _ _ _ _ _ _)
   | (with_reducible exact ih4 _ _ _ _ _ _ _ _ _ _ _)
   | (with_reducible exact ih5 _ _ _ _)
   | (with_reducible exact sound_heights.mono _ _ _ _)
   | (with_reducible exact sound_op.mono _ _ _ _ _ _ _ _)
   | (with_reducible exact LeO.refl _)
   | (with_reducible exact LeO.none _)
   | (with_reducible refine LeO.ite ?_ ?_)
   | (with_reducible refine LeO.bind ?_ (fun _ => ?_))
   | exact ih0 _ _ _ _ _
   | exact ih1 _ _ _
   | exact ih2 _ _ _ _ _
   | exact ih3 _ _ _ _ _ _ _ _ _
   | exact ih4 _ _ _ _ _ _ _ _ _ _ _
   | exact ih5 _ _ _ _
   | exact sound_heights.mono _ _ _ _
   | exact sound_op.mono _ _ _ _ _ _ _ _
   | exact LeO.none _
   | refine LeO.ite ?_ ?_
   | refine LeO.bind ?_ (fun _ => ?_)
theorem sound_Check.mono : ∀ a0 a1 k, LeO (sound_Check.f k a0 a1) (sound_Check.f (k + 1) a0 a1) := by
 intro a0 a1 k
 obtain ⟨ih0, ih1, ih2, ih3, ih4, ih5⟩ := sound_Check.mono_l k
 unfold sound_Check.f
 repeat' first
   | (with_reducible exact ih0 _ _ _ _ _)
   | (with_reducible exact ih1 _ _ _)
   | (with_reducible exact ih2 _ _ _ _ _)
   | (with_reducible exact ih3 _ _ _ _ _ _ _ _ _)
   | (with_reducible exact ih4 _ _ _ _ _ _ _ _ _ _ _)
   | (with_reducible exact ih5 _ _ _ _)
   | (with_reducible exact sound_heights.mono _ _ _ _)
   | (with_reducible exact sound_op.mono _ _ _ _ _ _ _ _)
   | (with_reducible exact LeO.refl _)
   | (with_reducible exact LeO.none _)
   | (with_reducible refine LeO.ite ?_ ?_)
   | (with_reducible refine LeO.bind ?_ (fun _ => ?_))
   | exact ih0 _ _ _ _ _
   | exact ih1 _ _ _
   | exact ih2 _ _ _ _ _
   | exact ih3 _ _ _ _ _ _ _ _ _
   | exact ih4 _ _ _ _ _ _ _ _ _ _ _
   | exact ih5 _ _ _ _
   | exact sound_heights.mono _ _ _ _
   | exact sound_op.mono _ _ _ _ _ _ _ _
   | exact LeO.none _
   | refine LeO.ite ?_ ?_
   | refine LeO.bind ?_ (fun _ => ?_)
set_option maxHeartbeats 8000000 in
set_option maxRecDepth 100000 in
theorem sound_Check.calls (k : Nat) (A0_0 : Option Addr) (c0_0 : Nat) (l0_0 : List (S29)) (a0_1 : Int) (r : Int) (w : World) (hr0_0 : Kd.C k29 w A0_0 l0_0.length l0_0) (hc0_0 : l0_0.length ≤ c0_0) (h : sound_Check.f k l0_0 a0_1 = some r) :
  Calls Try.prog 10 #[.agg #[.slice A0_0 l0_0.length c0_0, .int .i64 a0_1]] w fun e w' => e = .returned (.int .i64 r) ∧ Below w.heap.size w w' := by
 have hu24 := Try.underlying24
 have hu29 := Try.underlying29
 have hu26 := Try.underlying26
 have HR0_0 := Aside0.mk hr0_0
 have HC0_0 := Aside0.mk hc0_0
 clear hr0_0 hc0_0
 have HB := Aside0.mk (Below.refl w.heap.size w)
 have H : (if (l0_0.length : Int) > 16 then (some 2) else (sound_Check.l0 k l0_0 (l0_0.length : Int) 0 l0_0 a0_1)) = some r := h
 clear h
 by_cases c2 : (l0_0.length : Int) > 16
 ·rw [if_pos c2] at H
  have c2b0 : decide (16 < (l0_0.length : Int)) = true := decide_eq_true c2
  have c2b1 : decide (16 < l0_0.length) = true := decide_eq_true (by omega)
  clear c2
  obtain rfl := Option.some.inj H
  go_enter Try.func10, Try.ntmps10
  go_wp2_with (first | ((with_reducible refine gate_dst (N := 1) rfl ?_); (try (refine gate_guard (by rfl) ?_; dsimp only)); refine box_event ?hg (N := 1) ?hd (cs := #[.slice A0_0 l0_0.length c0_0, .int .i64 a0_1]) (t := 24) ?hr ?_; (case hd => rfl); (case hg => rfl); (case hr => first | (go_simp; done) | (go_simp; rfl)); intro gb149 hg w3 hbox hb; have n0_ := Aside0.mk (below_step (by repeat (first | (with_reducible first | exact HB.out | apply below_alloc | apply pw_below_drewN | apply below_drew1) | exact HB.out)) hb); have n1_ := Aside0.mk (hbox); have n2_ := Aside0.mk ((by rw [hg]; exact (below_size (by repeat (first | (with_reducible first | exact HB.out | apply below_alloc | apply pw_below_drewN | apply below_drew1) | exact HB.out))) : w.heap.size ≤ gb149)); have n3_ := Aside0.mk ((by rw [hg]; exact (below_size (by repeat (first | (with_reducible first | exact HB.out | apply below_alloc | apply pw_below_drewN | apply below_drew1) | exact HB.out))) : w.heap.size ≤ gb149)); clear HB; have HB := n0_; have BK149 := n1_; have GW149 := n2_; have GE149 := n3_; clear n0_ n1_ n2_ n3_; clear hb hbox hg; obtain ⟨hcz4_0, hcz4_1⟩ := blk2 BK149.out; obtain ⟨hfz4_0, hfz4_1⟩ := frz2 BK149.out))
  go_ret
  exact ⟨by first | rfl | (simp [errW_none, errW_some] <;> rfl) | (simp [*, errW_none, errW_some] <;> rfl), by repeat (first | (with_reducible first | exact HB.out | apply below_alloc | apply pw_below_drewN | apply below_drew1 | refine below_set ?_ GE149.out) | exact HB.out)⟩
 ·rw [if_neg c2] at H
  have c2b0 : decide (16 < (l0_0.length : Int)) = false := decide_eq_false c2
  have c2b1 : decide (16 < l0_0.length) = false := decide_eq_false (by omega)
  clear c2
  have H' := Aside0.mk H
  clear H
  go_enter Try.func10, Try.ntmps10
  go_wp2_with (first | ((with_reducible refine gate_dst (N := 1) rfl ?_); (try (refine gate_guard (by rfl) ?_; dsimp only)); refine box_event ?hg (N := 1) ?hd (cs := #[.slice A0_0 l0_0.length c0_0, .int .i64 a0_1]) (t := 24) ?hr ?_; (case hd => rfl); (case hg => rfl); (case hr => first | (go_simp; done) | (go_simp; rfl)); intro gb149 hg w5 hbox hb; have n0_ := Aside0.mk (below_step (by repeat (first | (with_reducible first | exact HB.out | apply below_alloc | apply pw_below_drewN | apply below_drew1) | exact HB.out)) hb); have n1_ := Aside0.mk (hbox); have n2_ := Aside0.mk ((by rw [hg]; exact (below_size (by repeat (first | (with_reducible first | exact HB.out | apply below_alloc | apply pw_below_drewN | apply below_drew1) | exact HB.out))) : w.heap.size ≤ gb149)); have n3_ := Aside0.mk ((by rw [hg]; exact (below_size (by repeat (first | (with_reducible first | exact HB.out | apply below_alloc | apply pw_below_drewN | apply below_drew1) | exact HB.out))) : w.heap.size ≤ gb149)); clear HB; have HB := n0_; have BK149 := n1_; have GW149 := n2_; have GE149 := n3_; clear n0_ n1_ n2_ n3_; clear hb hbox hg; obtain ⟨hcz6_0, hcz6_1⟩ := blk2 BK149.out; obtain ⟨hfz6_0, hfz6_1⟩ := frz2 BK149.out))
  go_loopg [20] k (fun kq v20 w' => ∃ (x20_1 : Int), v20 = .int .i64 x20_1 ∧ Aside0 (sound_Check.l0 kq l0_0 (l0_0.length : Int) x20_1 l0_0 a0_1 = some r) ∧ Aside0 (kq ≤ k) ∧ Aside0 (w'.heap[gb149]? = some (.cells #[(.slice A0_0 l0_0.length c0_0), .int .i64 a0_1] 24 (0, 0))) ∧ Aside0 (Below w.heap.size w w'))
  case atStart => exact ⟨(0), (by first | rfl | (simp; done) | (simp [*]; done)), H', ⟨Nat.le_refl _⟩, ⟨BK149.out⟩, ⟨by repeat (first | (with_reducible first | exact HB.out | apply below_alloc | apply pw_below_drewN | apply below_drew1 | refine below_set ?_ GE149.out) | exact HB.out)⟩⟩
  case round =>
   clear H'
   try clear c1; try clear c2; try clear c2b0; try clear c2b1; try clear p2; try clear hcz4_0; try clear hcz4_1; try clear hcz6_0
   try clear hcz6_1; try clear hfz4_0; try clear hfz4_1; try clear hfz6_0; try clear hfz6_1
   obtain ⟨x20_1, rfl, HA, HK1, BK149, HB⟩ := hrel
   cases gk with
   | zero => exact absurd HA.out (by simp [sound_Check.l0])
   | succ k1 =>
    have H := HA.out
    clear HA
    simp only [sound_Check.l0] at H
    by_cases c7 : x20_1 < (l0_0.length : Int)
    ·rw [if_pos c7] at H
     have c7b0 : decide (x20_1 < (l0_0.length : Int)) = true := decide_eq_true c7
     clear c7
     by_cases c8 : 0 ≤ x20_1
     ·rw [if_pos c8] at H
      have c8b0 : decide (0 ≤ x20_1) = true := decide_eq_true c8
      clear c8
      by_cases c9 : x20_1 < (l0_0.length : Int)
      ·rw [if_pos c9] at H
       have c9b0 : decide (x20_1 < (l0_0.length : Int)) = true := decide_eq_true c9
       clear c9
       by_cases c10 : ((rd_T29 l0_0 x20_1).f0) > 6
       ·rw [if_pos c10] at H
        have c10b0 : decide (6 < ((rd_T29 l0_0 x20_1).f0)) = true := decide_eq_true c10
        clear c10
        obtain rfl := Option.some.inj H
        have p150 : 0 ≤ (x20_1 : Int) := of_decide_eq_true (by first | (with_reducible assumption) | assumption)
        have q150 : x20_1 < (l0_0.length : Int) := of_decide_eq_true (by first | (with_reducible assumption) | assumption)
        obtain ⟨ad150, A150_2, c150_2, e150, hx150_0, hx150_1, hx150_2, hl150_2, hi150_2⟩ := at_T29 HR0_0.out x20_1 p150 q150
        cases e150
        replace hx150_0 := (HB.out.cell (World.block_lt_of_cell? w _ hx150_0)).trans hx150_0
        replace hx150_1 := (HB.out.cell (World.block_lt_of_cell? w _ hx150_1)).trans hx150_1
        replace hx150_2 := (HB.out.cell (World.block_lt_of_cell? w _ hx150_2)).trans hx150_2
        have HR150_2 := Aside0.mk hi150_2
        have HC150_2 := Aside0.mk hl150_2
        clear hi150_2 hl150_2
        replace p150 := eq_true p150
        replace q150 := eq_true q150
        go_wp2_with (first | ((with_reducible refine gate_dst (N := 4) rfl ?_); (try (refine gate_guard (by rfl) ?_; dsimp only)); refine box_event ?hg (N := 4) ?hd (cs := #[.int .i64 0, .int .i64 0, .slice none 0 0]) (t := 29) ?hr ?_; (case hd => rfl); (case hg => rfl); (case hr => first | (go_simp; done) | (go_simp; rfl)); intro gb151 hg w11 hbox hb; have n0_ := Aside0.mk (bb hb BK149.out); have n1_ := Aside0.mk (below_step (by repeat (first | (with_reducible first | exact HB.out | apply below_alloc | apply pw_below_drewN | apply below_drew1 | refine below_set ?_ GE149.out) | exact HB.out)) hb); have n2_ := Aside0.mk (hbox); have n3_ := Aside0.mk ((by rw [hg]; exact (below_size (by repeat (first | (with_reducible first | exact HB.out | apply below_alloc | apply pw_below_drewN | apply below_drew1 | refine below_set ?_ GE149.out) | exact HB.out))) : w.heap.size ≤ gb151)); have n4_ := Aside0.mk ((by rw [hg]; exact (below_size (by repeat (first | (with_reducible first | exact HB.out | apply below_alloc | apply pw_below_drewN | apply below_drew1 | refine below_set ?_ GE149.out) | exact HB.out))) : w.heap.size ≤ gb151)); have n5_ := Aside0.mk (nl hg BK149.out); have n6_ := Aside0.mk (ng hg BK149.out); clear BK149; clear HB; have BK149 := n0_; have HB := n1_; have BK151 := n2_; have GW151 := n3_; have GE151 := n4_; have NB149_151 := n5_; have NB151_149 := n6_; clear n0_ n1_ n2_ n3_ n4_ n5_ n6_; clear hb hbox hg; have hnb12 := NB151_149.out; have hnc12 := NB149_151.out; have hcz13_0 : w11.cell? ⟨gb151, 0, none⟩ = some (.int .i64 0) := (blk_cell BK151.out 0).trans rfl; have hcz13_1 : w11.cell? ⟨gb151, 1, none⟩ = some (.int .i64 0) := (blk_cell BK151.out 1).trans rfl; have hcz13_2 : w11.cell? ⟨gb151, 2, none⟩ = some (.slice none 0 0) := (blk_cell BK151.out 2).trans rfl; have hfz13_0 := blk_frozen BK151.out 0; have hfz13_1 := blk_frozen BK151.out 1; have hfz13_2 := blk_frozen BK151.out 2))
        go_ret
        exact ⟨by first | rfl | (simp [errW_none, errW_some] <;> rfl) | (simp [*, errW_none, errW_some] <;> rfl), by repeat (first | (with_reducible first | exact HB.out | apply below_alloc | apply pw_below_drewN | apply below_drew1 | refine below_set ?_ GE149.out | refine below_set ?_ GE151.out) | exact HB.out)⟩
       ·rw [if_neg c10] at H
        have c10b0 : decide (6 < ((rd_T29 l0_0 x20_1).f0)) = false := decide_eq_false c10
        clear c10
        by_cases c14 : ((rd_T29 l0_0 x20_1).f1) > 64
        ·rw [if_pos c14] at H
         have c14b0 : decide (64 < ((rd_T29 l0_0 x20_1).f1)) = true := decide_eq_true c14
         clear c14
         obtain rfl := Option.some.inj H
         have p150 : 0 ≤ (x20_1 : Int) := of_decide_eq_true (by first | (with_reducible assumption) | assumption)
         have q150 : x20_1 < (l0_0.length : Int) := of_decide_eq_true (by first | (with_reducible assumption) | assumption)
         obtain ⟨ad150, A150_2, c150_2, e150, hx150_0, hx150_1, hx150_2, hl150_2, hi150_2⟩ := at_T29 HR0_0.out x20_1 p150 q150
         cases e150
         replace hx150_0 := (HB.out.cell (World.block_lt_of_cell? w _ hx150_0)).trans hx150_0
         replace hx150_1 := (HB.out.cell (World.block_lt_of_cell? w _ hx150_1)).trans hx150_1
         replace hx150_2 := (HB.out.cell (World.block_lt_of_cell? w _ hx150_2)).trans hx150_2
         have HR150_2 := Aside0.mk hi150_2
         have HC150_2 := Aside0.mk hl150_2
         clear hi150_2 hl150_2
         replace p150 := eq_true p150
         replace q150 := eq_true q150
         go_wp2_with (first | ((with_reducible refine gate_dst (N := 4) rfl ?_); (try (refine gate_guard (by rfl) ?_; dsimp only)); refine box_event ?hg (N := 4) ?hd (cs := #[.int .i64 0, .int .i64 0, .slice none 0 0]) (t := 29) ?hr ?_; (case hd => rfl); (case hg => rfl); (case hr => first | (go_simp; done) | (go_simp; rfl)); intro gb151 hg w15 hbox hb; have n0_ := Aside0.mk (bb hb BK149.out); have n1_ := Aside0.mk (below_step (by repeat (first | (with_reducible first | exact HB.out | apply below_alloc | apply pw_below_drewN | apply below_drew1 | refine below_set ?_ GE149.out) | exact HB.out)) hb); have n2_ := Aside0.mk (hbox); have n3_ := Aside0.mk ((by rw [hg]; exact (below_size (by repeat (first | (with_reducible first | exact HB.out | apply below_alloc | apply pw_below_drewN | apply below_drew1 | refine below_set ?_ GE149.out) | exact HB.out))) : w.heap.size ≤ gb151)); have n4_ := Aside0.mk ((by rw [hg]; exact (below_size (by repeat (first | (with_reducible first | exact HB.out | apply below_alloc | apply pw_below_drewN | apply below_drew1 | refine below_set ?_ GE149.out) | exact HB.out))) : w.heap.size ≤ gb151)); have n5_ := Aside0.mk (nl hg BK149.out); have n6_ := Aside0.mk (ng hg BK149.out); clear BK149; clear HB; have BK149 := n0_; have HB := n1_; have BK151 := n2_; have GW151 := n3_; have GE151 := n4_; have NB149_151 := n5_; have NB151_149 := n6_; clear n0_ n1_ n2_ n3_ n4_ n5_ n6_; clear hb hbox hg; have hnb16 := NB151_149.out; have hnc16 := NB149_151.out; have hcz17_0 : w15.cell? ⟨gb151, 0, none⟩ = some (.int .i64 0) := (blk_cell BK151.out 0).trans rfl; have hcz17_1 : w15.cell? ⟨gb151, 1, none⟩ = some (.int .i64 0) := (blk_cell BK151.out 1).trans rfl; have hcz17_2 : w15.cell? ⟨gb151, 2, none⟩ = some (.slice none 0 0) := (blk_cell BK151.out 2).trans rfl; have hfz17_0 := blk_frozen BK151.out 0; have hfz17_1 := blk_frozen BK151.out 1; have hfz17_2 := blk_frozen BK151.out 2))
         go_ret
         exact ⟨by first | rfl | (simp [errW_none, errW_some] <;> rfl) | (simp [*, errW_none, errW_some] <;> rfl), by repeat (first | (with_reducible first | exact HB.out | apply below_alloc | apply pw_below_drewN | apply below_drew1 | refine below_set ?_ GE149.out | refine below_set ?_ GE151.out) | exact HB.out)⟩
        ·rw [if_neg c14] at H
         have c14b0 : decide (64 < ((rd_T29 l0_0 x20_1).f1)) = false := decide_eq_false c14
         clear c14
         by_cases c18 : (((rd_T29 l0_0 x20_1).f2).length : Int) > 4000
         ·rw [if_pos c18] at H
          have c18b0 : decide (4000 < (((rd_T29 l0_0 x20_1).f2).length : Int)) = true := decide_eq_true c18
          have c18b1 : decide (4000 < ((rd_T29 l0_0 x20_1).f2).length) = true := decide_eq_true (by omega)
          clear c18
          obtain rfl := Option.some.inj H
          have p150 : 0 ≤ (x20_1 : Int) := of_decide_eq_true (by first | (with_reducible assumption) | assumption)
          have q150 : x20_1 < (l0_0.length : Int) := of_decide_eq_true (by first | (with_reducible assumption) | assumption)
          obtain ⟨ad150, A150_2, c150_2, e150, hx150_0, hx150_1, hx150_2, hl150_2, hi150_2⟩ := at_T29 HR0_0.out x20_1 p150 q150
          cases e150
          replace hx150_0 := (HB.out.cell (World.block_lt_of_cell? w _ hx150_0)).trans hx150_0
          replace hx150_1 := (HB.out.cell (World.block_lt_of_cell? w _ hx150_1)).trans hx150_1
          replace hx150_2 := (HB.out.cell (World.block_lt_of_cell? w _ hx150_2)).trans hx150_2
          have HR150_2 := Aside0.mk hi150_2
          have HC150_2 := Aside0.mk hl150_2
          clear hi150_2 hl150_2
          replace p150 := eq_true p150
          replace q150 := eq_true q150
          go_wp2_with (first | ((with_reducible refine gate_dst (N := 4) rfl ?_); (try (refine gate_guard (by rfl) ?_; dsimp only)); refine box_event ?hg (N := 4) ?hd (cs := #[.int .i64 0, .int .i64 0, .slice none 0 0]) (t := 29) ?hr ?_; (case hd => rfl); (case hg => rfl); (case hr => first | (go_simp; done) | (go_simp; rfl)); intro gb151 hg w19 hbox hb; have n0_ := Aside0.mk (bb hb BK149.out); have n1_ := Aside0.mk (below_step (by repeat (first | (with_reducible first | exact HB.out | apply below_alloc | apply pw_below_drewN | apply below_drew1 | refine below_set ?_ GE149.out) | exact HB.out)) hb); have n2_ := Aside0.mk (hbox); have n3_ := Aside0.mk ((by rw [hg]; exact (below_size (by repeat (first | (with_reducible first | exact HB.out | apply below_alloc | apply pw_below_drewN | apply below_drew1 | refine below_set ?_ GE149.out) | exact HB.out))) : w.heap.size ≤ gb151)); have n4_ := Aside0.mk ((by rw [hg]; exact (below_size (by repeat (first | (with_reducible first | exact HB.out | apply below_alloc | apply pw_below_drewN | apply below_drew1 | refine below_set ?_ GE149.out) | exact HB.out))) : w.heap.size ≤ gb151)); have n5_ := Aside0.mk (nl hg BK149.out); have n6_ := Aside0.mk (ng hg BK149.out); clear BK149; clear HB; have BK149 := n0_; have HB := n1_; have BK151 := n2_; have GW151 := n3_; have GE151 := n4_; have NB149_151 := n5_; have NB151_149 := n6_; clear n0_ n1_ n2_ n3_ n4_ n5_ n6_; clear hb hbox hg; have hnb20 := NB151_149.out; have hnc20 := NB149_151.out; have hcz21_0 : w19.cell? ⟨gb151, 0, none⟩ = some (.int .i64 0) := (blk_cell BK151.out 0).trans rfl; have hcz21_1 : w19.cell? ⟨gb151, 1, none⟩ = some (.int .i64 0) := (blk_cell BK151.out 1).trans rfl; have hcz21_2 : w19.cell? ⟨gb151, 2, none⟩ = some (.slice none 0 0) := (blk_cell BK151.out 2).trans rfl; have hfz21_0 := blk_frozen BK151.out 0; have hfz21_1 := blk_frozen BK151.out 1; have hfz21_2 := blk_frozen BK151.out 2))
          go_ret
          exact ⟨by first | rfl | (simp [errW_none, errW_some] <;> rfl) | (simp [*, errW_none, errW_some] <;> rfl), by repeat (first | (with_reducible first | exact HB.out | apply below_alloc | apply pw_below_drewN | apply below_drew1 | refine below_set ?_ GE149.out | refine below_set ?_ GE151.out) | exact HB.out)⟩
         ·rw [if_neg c18] at H
          have c18b0 : decide (4000 < (((rd_T29 l0_0 x20_1).f2).length : Int)) = false := decide_eq_false c18
          have c18b1 : decide (4000 < ((rd_T29 l0_0 x20_1).f2).length) = false := decide_eq_false (by omega)
          clear c18
          have H' := Aside0.mk H
          clear H
          have p150 : 0 ≤ (x20_1 : Int) := of_decide_eq_true (by first | (with_reducible assumption) | assumption)
          have q150 : x20_1 < (l0_0.length : Int) := of_decide_eq_true (by first | (with_reducible assumption) | assumption)
          obtain ⟨ad150, A150_2, c150_2, e150, hx150_0, hx150_1, hx150_2, hl150_2, hi150_2⟩ := at_T29 HR0_0.out x20_1 p150 q150
          cases e150
          replace hx150_0 := (HB.out.cell (World.block_lt_of_cell? w _ hx150_0)).trans hx150_0
          replace hx150_1 := (HB.out.cell (World.block_lt_of_cell? w _ hx150_1)).trans hx150_1
          replace hx150_2 := (HB.out.cell (World.block_lt_of_cell? w _ hx150_2)).trans hx150_2
          have HR150_2 := Aside0.mk hi150_2
          have HC150_2 := Aside0.mk hl150_2
          clear hi150_2 hl150_2
          replace p150 := eq_true p150
          replace q150 := eq_true q150
          go_wp2_with (first | ((with_reducible refine gate_dst (N := 4) rfl ?_); (try (refine gate_guard (by rfl) ?_; dsimp only)); refine box_event ?hg (N := 4) ?hd (cs := #[.int .i64 0, .int .i64 0, .slice none 0 0]) (t := 29) ?hr ?_; (case hd => rfl); (case hg => rfl); (case hr => first | (go_simp; done) | (go_simp; rfl)); intro gb151 hg w22 hbox hb; have n0_ := Aside0.mk (bb hb BK149.out); have n1_ := Aside0.mk (below_step (by repeat (first | (with_reducible first | exact HB.out | apply below_alloc | apply pw_below_drewN | apply below_drew1 | refine below_set ?_ GE149.out) | exact HB.out)) hb); have n2_ := Aside0.mk (hbox); have n3_ := Aside0.mk ((by rw [hg]; exact (below_size (by repeat (first | (with_reducible first | exact HB.out | apply below_alloc | apply pw_below_drewN | apply below_drew1 | refine below_set ?_ GE149.out) | exact HB.out))) : w.heap.size ≤ gb151)); have n4_ := Aside0.mk ((by rw [hg]; exact (below_size (by repeat (first | (with_reducible first | exact HB.out | apply below_alloc | apply pw_below_drewN | apply below_drew1 | refine below_set ?_ GE149.out) | exact HB.out))) : w.heap.size ≤ gb151)); have n5_ := Aside0.mk (nl hg BK149.out); have n6_ := Aside0.mk (ng hg BK149.out); clear BK149; clear HB; have BK149 := n0_; have HB := n1_; have BK151 := n2_; have GW151 := n3_; have GE151 := n4_; have NB149_151 := n5_; have NB151_149 := n6_; clear n0_ n1_ n2_ n3_ n4_ n5_ n6_; clear hb hbox hg; have hnb23 := NB151_149.out; have hnc23 := NB149_151.out; have hcz24_0 : w22.cell? ⟨gb151, 0, none⟩ = some (.int .i64 0) := (blk_cell BK151.out 0).trans rfl; have hcz24_1 : w22.cell? ⟨gb151, 1, none⟩ = some (.int .i64 0) := (blk_cell BK151.out 1).trans rfl; have hcz24_2 : w22.cell? ⟨gb151, 2, none⟩ = some (.slice none 0 0) := (blk_cell BK151.out 2).trans rfl; have hfz24_0 := blk_frozen BK151.out 0; have hfz24_1 := blk_frozen BK151.out 1; have hfz24_2 := blk_frozen BK151.out 2))
          go_roundg k1
          case measure => have := HK1.out; omega
          case rel => exact ⟨(wrap64 (x20_1 + 1)), (by first | rfl | (simp; done) | (simp [*]; done)), H', ⟨by have := HK1.out; omega⟩, ⟨by (with_reducible repeat (first | refine blk_drewN ?_ _ | refine blk_drew ?_ | refine blk_alloc ?_ _)); refine blk_far ?_ NB149_151.out _; refine blk_far ?_ NB149_151.out _; refine blk_far ?_ NB149_151.out _; exact BK149.out⟩, ⟨by repeat (first | (with_reducible first | exact HB.out | apply below_alloc | apply pw_below_drewN | apply below_drew1 | refine below_set ?_ GE149.out | refine below_set ?_ GE151.out) | exact HB.out)⟩⟩
      ·rw [if_neg c9] at H
       exact absurd H (by simp)
     ·rw [if_neg c8] at H
      exact absurd H (by simp)
    ·rw [if_neg c7] at H
     have c7b0 : decide (x20_1 < (l0_0.length : Int)) = false := decide_eq_false c7
     clear c7
     have HC25 := Aside0.mk H
     clear H
     go_upto_region 9 with (fail)
     go_cut [59] (fun v59 wc => ∃ (kq : Nat) (x59_24 : Bool), v59 = .bool x59_24 ∧ Aside0 (sound_Check.j1 kq x59_24 l0_0 a0_1 = some r) ∧ Aside0 (kq ≤ k1) ∧ Aside0 (wc.heap[gb149]? = some (.cells #[(.slice A0_0 l0_0.length c0_0), .int .i64 a0_1] 24 (0, 0))) ∧ Aside0 (Below w.heap.size w wc))
     case first =>
      have H := HC25.out
      clear HC25
      by_cases c26 : a0_1 < 0
      ·rw [if_pos c26] at H
       have c26b0 : decide (a0_1 < 0) = true := decide_eq_true c26
       clear c26
       (first | rw [c26b0] | (simp only [i64_w, i32_w]; rw [c26b0]) | skip)
       have H' := Aside0.mk H
       clear H
       obtain ⟨hcz27_0, hcz27_1⟩ := blk2 BK149.out
       obtain ⟨hfz27_0, hfz27_1⟩ := frz2 BK149.out
       go_wp2
       go_meet
       case rel => exact ⟨_, (true), (by first | rfl | (simp; done) | (simp [*]; done)), H', ⟨by have := HK1.out; first | omega | exact Nat.le_refl _⟩, ⟨BK149.out⟩, ⟨by repeat (first | (with_reducible first | exact HB.out | apply below_alloc | apply pw_below_drewN | apply below_drew1 | refine below_set ?_ GE149.out) | exact HB.out)⟩⟩
      ·rw [if_neg c26] at H
       have c26b0 : decide (a0_1 < 0) = false := decide_eq_false c26
       clear c26
       (first | rw [c26b0] | (simp only [i64_w, i32_w]; rw [c26b0]) | skip)
       by_cases c28 : a0_1 ≥ (l0_0.length : Int)
       ·rw [if_pos c28] at H
        have c28b0 : decide ((l0_0.length : Int) ≤ a0_1) = true := decide_eq_true c28
        clear c28
        have H' := Aside0.mk H
        clear H
        obtain ⟨hcz29_0, hcz29_1⟩ := blk2 BK149.out
        obtain ⟨hfz29_0, hfz29_1⟩ := frz2 BK149.out
        go_wp2
        go_meet
        case rel => exact ⟨_, (true), (by first | rfl | (simp; done) | (simp [*]; done)), H', ⟨by have := HK1.out; first | omega | exact Nat.le_refl _⟩, ⟨BK149.out⟩, ⟨by repeat (first | (with_reducible first | exact HB.out | apply below_alloc | apply pw_below_drewN | apply below_drew1 | refine below_set ?_ GE149.out) | exact HB.out)⟩⟩
       ·rw [if_neg c28] at H
        have c28b0 : decide ((l0_0.length : Int) ≤ a0_1) = false := decide_eq_false c28
        clear c28
        by_cases c30 : 0 ≤ a0_1
        ·rw [if_pos c30] at H
         have c30b0 : decide (0 ≤ a0_1) = true := decide_eq_true c30
         clear c30
         by_cases c31 : a0_1 < (l0_0.length : Int)
         ·rw [if_pos c31] at H
          have c31b0 : decide (a0_1 < (l0_0.length : Int)) = true := decide_eq_true c31
          clear c31
          have H' := Aside0.mk H
          clear H
          obtain ⟨hcz32_0, hcz32_1⟩ := blk2 BK149.out
          obtain ⟨hfz32_0, hfz32_1⟩ := frz2 BK149.out
          have p152 : 0 ≤ (a0_1 : Int) := of_decide_eq_true (by first | (with_reducible assumption) | assumption)
          have q152 : a0_1 < (l0_0.length : Int) := of_decide_eq_true (by first | (with_reducible assumption) | assumption)
          obtain ⟨ad152, A152_2, c152_2, e152, hx152_0, hx152_1, hx152_2, hl152_2, hi152_2⟩ := at_T29 HR0_0.out a0_1 p152 q152
          cases e152
          replace hx152_0 := (HB.out.cell (World.block_lt_of_cell? w _ hx152_0)).trans hx152_0
          replace hx152_1 := (HB.out.cell (World.block_lt_of_cell? w _ hx152_1)).trans hx152_1
          replace hx152_2 := (HB.out.cell (World.block_lt_of_cell? w _ hx152_2)).trans hx152_2
          have HR152_2 := Aside0.mk hi152_2
          have HC152_2 := Aside0.mk hl152_2
          clear hi152_2 hl152_2
          replace p152 := eq_true p152
          replace q152 := eq_true q152
          go_wp2
          go_meet
          case rel => exact ⟨_, ((((rd_T29 l0_0 a0_1).f0) != 0)), (by first | rfl | (simp; done) | (simp [*]; done)), H', ⟨by have := HK1.out; first | omega | exact Nat.le_refl _⟩, ⟨BK149.out⟩, ⟨by repeat (first | (with_reducible first | exact HB.out | apply below_alloc | apply pw_below_drewN | apply below_drew1 | refine below_set ?_ GE149.out) | exact HB.out)⟩⟩
         ·rw [if_neg c31] at H
          exact absurd H (by simp)
        ·rw [if_neg c30] at H
         exact absurd H (by simp)
     case rest =>
      clear HC25
      try clear c1; try clear p1; try clear q1; try clear hx1; try clear c2; try clear c2b0; try clear c2b1; try clear p2
      try clear c3; try clear p6; try clear c7; try clear c7b0; try clear c8; try clear c8b0; try clear c9; try clear c9b0
      try clear c10; try clear c10b0; try clear c12; try clear c14; try clear c14b0; try clear c15; try clear p15; try clear q15
      try clear hx15; try clear c16; try clear c18; try clear c18b0; try clear c18b1; try clear c20; try clear c23; try clear c26
      try clear c26b0; try clear c28; try clear c28b0; try clear c30; try clear c30b0; try clear c31; try clear c31b0; try clear hcz13_0
      try clear hcz13_1; try clear hcz13_2; try clear hcz17_0; try clear hcz17_1; try clear hcz17_2; try clear hcz21_0; try clear hcz21_1; try clear hcz21_2
      try clear hcz24_0; try clear hcz24_1; try clear hcz24_2; try clear hcz27_0; try clear hcz27_1; try clear hcz29_0; try clear hcz29_1; try clear hcz32_0
      try clear hcz32_1; try clear hcz4_0; try clear hcz4_1; try clear hcz6_0; try clear hcz6_1; try clear hfz13_0; try clear hfz13_1; try clear hfz13_2
      try clear hfz17_0; try clear hfz17_1; try clear hfz17_2; try clear hfz21_0; try clear hfz21_1; try clear hfz21_2; try clear hfz24_0; try clear hfz24_1
      try clear hfz24_2; try clear hfz27_0; try clear hfz27_1; try clear hfz29_0; try clear hfz29_1; try clear hfz32_0; try clear hfz32_1; try clear hfz4_0
      try clear hfz4_1; try clear hfz6_0; try clear hfz6_1; try clear hx150_0; try clear hx150_1; try clear hx150_2; try clear hx152_0; try clear hx152_1
      try clear hx152_2; try clear p150; try clear p152; try clear p2; try clear q150; try clear q152
      obtain ⟨kq, x59_24, rfl, HA, HJ24, BK149, HB⟩ := hcut
      cases kq with
      | zero => exact absurd HA.out (by simp [sound_Check.j1])
      | succ kj24 =>
       have H := HA.out
       clear HA
       simp only [sound_Check.j1] at H
       by_cases c33 : x59_24 = true
       ·subst c33
        have H1 : (some 16) = some r := by rw [if_pos rfl] at H; exact H
        clear H
        have H := H1
        clear H1
        obtain rfl := Option.some.inj H
        go_wp2
        go_ret
        exact ⟨by first | rfl | (simp [errW_none, errW_some] <;> rfl) | (simp [*, errW_none, errW_some] <;> rfl), by repeat (first | (with_reducible first | exact HB.out | apply below_alloc | apply pw_below_drewN | apply below_drew1 | refine below_set ?_ GE149.out) | exact HB.out)⟩
       ·replace c33 := Bool.eq_false_iff.mpr c33
        subst c33
        have H1 : (sound_Check.l1 kj24 l0_0 (l0_0.length : Int) 0 l0_0 a0_1) = some r := by rw [if_neg (show ¬ (false = true) by decide)] at H; exact H
        clear H
        have H := H1
        clear H1
        have H' := Aside0.mk H
        clear H
        obtain ⟨hcz34_0, hcz34_1⟩ := blk2 BK149.out
        obtain ⟨hfz34_0, hfz34_1⟩ := frz2 BK149.out
        go_wp2
        go_loopg [63] kj24 (fun kq v63 w' => ∃ (x63_3 : Int), v63 = .int .i64 x63_3 ∧ Aside0 (sound_Check.l1 kq l0_0 (l0_0.length : Int) x63_3 l0_0 a0_1 = some r) ∧ Aside0 (kq ≤ kj24) ∧ Aside0 (w'.heap[gb149]? = some (.cells #[(.slice A0_0 l0_0.length c0_0), .int .i64 a0_1] 24 (0, 0))) ∧ Aside0 (Below w.heap.size w w'))
        case atStart => exact ⟨(0), (by first | rfl | (simp; done) | (simp [*]; done)), H', ⟨Nat.le_refl _⟩, ⟨BK149.out⟩, ⟨by repeat (first | (with_reducible first | exact HB.out | apply below_alloc | apply pw_below_drewN | apply below_drew1 | refine below_set ?_ GE149.out) | exact HB.out)⟩⟩
        case round =>
         clear H'
         try clear c1; try clear p1; try clear q1; try clear hx1; try clear c2; try clear c2b0; try clear c2b1; try clear p2
         try clear c3; try clear p6; try clear c7; try clear c7b0; try clear c8; try clear c8b0; try clear c9; try clear c9b0
         try clear c10; try clear c10b0; try clear c12; try clear c14; try clear c14b0; try clear c15; try clear p15; try clear q15
         try clear hx15; try clear c16; try clear c18; try clear c18b0; try clear c18b1; try clear c20; try clear c23; try clear c26
         try clear c26b0; try clear c28; try clear c28b0; try clear c30; try clear c30b0; try clear c31; try clear c31b0; try clear c33
         try clear hcz13_0; try clear hcz13_1; try clear hcz13_2; try clear hcz17_0; try clear hcz17_1; try clear hcz17_2; try clear hcz21_0; try clear hcz21_1
         try clear hcz21_2; try clear hcz24_0; try clear hcz24_1; try clear hcz24_2; try clear hcz27_0; try clear hcz27_1; try clear hcz29_0; try clear hcz29_1
         try clear hcz32_0; try clear hcz32_1; try clear hcz34_0; try clear hcz34_1; try clear hcz4_0; try clear hcz4_1; try clear hcz6_0; try clear hcz6_1
         try clear hfz13_0; try clear hfz13_1; try clear hfz13_2; try clear hfz17_0; try clear hfz17_1; try clear hfz17_2; try clear hfz21_0; try clear hfz21_1
         try clear hfz21_2; try clear hfz24_0; try clear hfz24_1; try clear hfz24_2; try clear hfz27_0; try clear hfz27_1; try clear hfz29_0; try clear hfz29_1
         try clear hfz32_0; try clear hfz32_1; try clear hfz34_0; try clear hfz34_1; try clear hfz4_0; try clear hfz4_1; try clear hfz6_0; try clear hfz6_1
         try clear hx150_0; try clear hx150_1; try clear hx150_2; try clear hx152_0; try clear hx152_1; try clear hx152_2; try clear p1; try clear p15
         try clear p150; try clear p152; try clear p2; try clear p6; try clear q1; try clear q15; try clear q150; try clear q152
         obtain ⟨x63_3, rfl, HA, HK3, BK149, HB⟩ := hrel
         cases gk with
         | zero => exact absurd HA.out (by simp [sound_Check.l1])
         | succ k3 =>
          have H := HA.out
          clear HA
          simp only [sound_Check.l1] at H
          by_cases c35 : x63_3 < (l0_0.length : Int)
          ·rw [if_pos c35] at H
           have c35b0 : decide (x63_3 < (l0_0.length : Int)) = true := decide_eq_true c35
           clear c35
           by_cases c36 : 0 ≤ x63_3
           ·rw [if_pos c36] at H
            have c36b0 : decide (0 ≤ x63_3) = true := decide_eq_true c36
            clear c36
            by_cases c37 : x63_3 < (l0_0.length : Int)
            ·rw [if_pos c37] at H
             have c37b0 : decide (x63_3 < (l0_0.length : Int)) = true := decide_eq_true c37
             clear c37
             have HC38 := Aside0.mk H
             clear H
             have p153 : 0 ≤ (x63_3 : Int) := of_decide_eq_true (by first | (with_reducible assumption) | assumption)
             have q153 : x63_3 < (l0_0.length : Int) := of_decide_eq_true (by first | (with_reducible assumption) | assumption)
             obtain ⟨ad153, A153_2, c153_2, e153, hx153_0, hx153_1, hx153_2, hl153_2, hi153_2⟩ := at_T29 HR0_0.out x63_3 p153 q153
             cases e153
             replace hx153_0 := (HB.out.cell (World.block_lt_of_cell? w _ hx153_0)).trans hx153_0
             replace hx153_1 := (HB.out.cell (World.block_lt_of_cell? w _ hx153_1)).trans hx153_1
             replace hx153_2 := (HB.out.cell (World.block_lt_of_cell? w _ hx153_2)).trans hx153_2
             have HR153_2 := Aside0.mk hi153_2
             have HC153_2 := Aside0.mk hl153_2
             clear hi153_2 hl153_2
             replace p153 := eq_true p153
             replace q153 := eq_true q153
             go_upto_region 14 with (first | ((with_reducible refine gate_dst (N := 6) rfl ?_); (try (refine gate_guard (by rfl) ?_; dsimp only)); refine box_event ?hg (N := 6) ?hd (cs := #[.int .i64 0, .int .i64 0, .slice none 0 0]) (t := 29) ?hr ?_; (case hd => rfl); (case hg => rfl); (case hr => first | (go_simp; done) | (go_simp; rfl)); intro gb154 hg w39 hbox hb; have n0_ := Aside0.mk (bb hb BK149.out); have n1_ := Aside0.mk (below_step (by repeat (first | (with_reducible first | exact HB.out | apply below_alloc | apply pw_below_drewN | apply below_drew1 | refine below_set ?_ GE149.out) | exact HB.out)) hb); have n2_ := Aside0.mk (hbox); have n3_ := Aside0.mk ((by rw [hg]; exact (below_size (by repeat (first | (with_reducible first | exact HB.out | apply below_alloc | apply pw_below_drewN | apply below_drew1 | refine below_set ?_ GE149.out) | exact HB.out))) : w.heap.size ≤ gb154)); have n4_ := Aside0.mk ((by rw [hg]; exact (below_size (by repeat (first | (with_reducible first | exact HB.out | apply below_alloc | apply pw_below_drewN | apply below_drew1 | refine below_set ?_ GE149.out) | exact HB.out))) : w.heap.size ≤ gb154)); have n5_ := Aside0.mk (nl hg BK149.out); have n6_ := Aside0.mk (ng hg BK149.out); clear BK149; clear HB; have BK149 := n0_; have HB := n1_; have BK154 := n2_; have GW154 := n3_; have GE154 := n4_; have NB149_154 := n5_; have NB154_149 := n6_; clear n0_ n1_ n2_ n3_ n4_ n5_ n6_; clear hb hbox hg; have hnb40 := NB154_149.out; have hnc40 := NB149_154.out; have hcz41_0 : w39.cell? ⟨gb154, 0, none⟩ = some (.int .i64 0) := (blk_cell BK154.out 0).trans rfl; have hcz41_1 : w39.cell? ⟨gb154, 1, none⟩ = some (.int .i64 0) := (blk_cell BK154.out 1).trans rfl; have hcz41_2 : w39.cell? ⟨gb154, 2, none⟩ = some (.slice none 0 0) := (blk_cell BK154.out 2).trans rfl; have hfz41_0 := blk_frozen BK154.out 0; have hfz41_1 := blk_frozen BK154.out 1; have hfz41_2 := blk_frozen BK154.out 2))
             (try simp only [Act.put, zq1, zq2, zq3])
             go_cut [76] (fun v76 wc => ∃ (kq : Nat) (x76_37 : Bool), v76 = .bool x76_37 ∧ Aside0 (sound_Check.j3 kq l0_0 (l0_0.length : Int) x63_3 x76_37 l0_0 a0_1 ((rd_T29 l0_0 x63_3).f0) ((rd_T29 l0_0 x63_3).f1) ((rd_T29 l0_0 x63_3).f2) = some r) ∧ Aside0 (kq ≤ k3) ∧ Aside0 (wc.heap[gb149]? = some (.cells #[(.slice (some ad153) l0_0.length c0_0), .int .i64 a0_1] 24 (0, 0))) ∧ Aside0 (wc.heap[gb154]? = some (.cells #[.int .i64 ((rd_T29 l0_0 x63_3).f0), .int .i64 ((rd_T29 l0_0 x63_3).f1), (.slice A153_2 ((rd_T29 l0_0 x63_3).f2).length c153_2)] 29 (0, 0))) ∧ Aside0 (Below w.heap.size w wc))
             case first =>
              have H := HC38.out
              clear HC38
              by_cases c42 : ((rd_T29 l0_0 x63_3).f0) < 0
              ·rw [if_pos c42] at H
               have c42b0 : decide (((rd_T29 l0_0 x63_3).f0) < 0) = true := decide_eq_true c42
               clear c42
               (first | rw [c42b0] | (simp only [i64_w, i32_w]; rw [c42b0]) | skip)
               have H' := Aside0.mk H
               clear H
               have hnb43 := NB154_149.out
               have hnc43 := NB149_154.out
               have hcz44_0 : w39.cell? ⟨gb154, 0, none⟩ = some (.int .i64 0) := (blk_cell BK154.out 0).trans rfl
               have hcz44_1 : w39.cell? ⟨gb154, 1, none⟩ = some (.int .i64 0) := (blk_cell BK154.out 1).trans rfl
               have hcz44_2 : w39.cell? ⟨gb154, 2, none⟩ = some (.slice none 0 0) := (blk_cell BK154.out 2).trans rfl
               have hfz44_0 := blk_frozen BK154.out 0
               have hfz44_1 := blk_frozen BK154.out 1
               have hfz44_2 := blk_frozen BK154.out 2
               go_wp2
               go_meet
               case rel => exact ⟨_, (true), (by first | rfl | (simp; done) | (simp [*]; done)), H', ⟨by have := HK1.out; have := HJ24.out; have := HK3.out; first | omega | exact Nat.le_refl _⟩, ⟨by (with_reducible repeat (first | refine blk_drewN ?_ _ | refine blk_drew ?_ | refine blk_alloc ?_ _)); refine blk_far ?_ NB149_154.out _; refine blk_far ?_ NB149_154.out _; refine blk_far ?_ NB149_154.out _; exact BK149.out⟩, ⟨by (with_reducible repeat (first | refine blk_drewN ?_ _ | refine blk_drew ?_ | refine blk_alloc ?_ _)); refine blk_put (cs := #[.int .i64 ((rd_T29 l0_0 x63_3).f0), .int .i64 ((rd_T29 l0_0 x63_3).f1), .slice none 0 0]) ?_ 2 _ rfl; refine blk_put (cs := #[.int .i64 ((rd_T29 l0_0 x63_3).f0), .int .i64 0, .slice none 0 0]) ?_ 1 _ rfl; refine blk_put (cs := #[.int .i64 0, .int .i64 0, .slice none 0 0]) ?_ 0 _ rfl; exact BK154.out⟩, ⟨by repeat (first | (with_reducible first | exact HB.out | apply below_alloc | apply pw_below_drewN | apply below_drew1 | refine below_set ?_ GE149.out | refine below_set ?_ GE154.out) | exact HB.out)⟩⟩
              ·rw [if_neg c42] at H
               have c42b0 : decide (((rd_T29 l0_0 x63_3).f0) < 0) = false := decide_eq_false c42
               clear c42
               (first | rw [c42b0] | (simp only [i64_w, i32_w]; rw [c42b0]) | skip)
               have H' := Aside0.mk H
               clear H
               have hnb45 := NB154_149.out
               have hnc45 := NB149_154.out
               have hcz46_0 : w39.cell? ⟨gb154, 0, none⟩ = some (.int .i64 0) := (blk_cell BK154.out 0).trans rfl
               have hcz46_1 : w39.cell? ⟨gb154, 1, none⟩ = some (.int .i64 0) := (blk_cell BK154.out 1).trans rfl
               have hcz46_2 : w39.cell? ⟨gb154, 2, none⟩ = some (.slice none 0 0) := (blk_cell BK154.out 2).trans rfl
               have hfz46_0 := blk_frozen BK154.out 0
               have hfz46_1 := blk_frozen BK154.out 1
               have hfz46_2 := blk_frozen BK154.out 2
               go_wp2
               go_meet
               case rel => exact ⟨_, (decide (((rd_T29 l0_0 x63_3).f1) < ((rd_T29 l0_0 x63_3).f0))), (by first | rfl | (simp; done) | (simp [*]; done)), H', ⟨by have := HK1.out; have := HJ24.out; have := HK3.out; first | omega | exact Nat.le_refl _⟩, ⟨by (with_reducible repeat (first | refine blk_drewN ?_ _ | refine blk_drew ?_ | refine blk_alloc ?_ _)); refine blk_far ?_ NB149_154.out _; refine blk_far ?_ NB149_154.out _; refine blk_far ?_ NB149_154.out _; exact BK149.out⟩, ⟨by (with_reducible repeat (first | refine blk_drewN ?_ _ | refine blk_drew ?_ | refine blk_alloc ?_ _)); refine blk_put (cs := #[.int .i64 ((rd_T29 l0_0 x63_3).f0), .int .i64 ((rd_T29 l0_0 x63_3).f1), .slice none 0 0]) ?_ 2 _ rfl; refine blk_put (cs := #[.int .i64 ((rd_T29 l0_0 x63_3).f0), .int .i64 0, .slice none 0 0]) ?_ 1 _ rfl; refine blk_put (cs := #[.int .i64 0, .int .i64 0, .slice none 0 0]) ?_ 0 _ rfl; exact BK154.out⟩, ⟨by repeat (first | (with_reducible first | exact HB.out | apply below_alloc | apply pw_below_drewN | apply below_drew1 | refine below_set ?_ GE149.out | refine below_set ?_ GE154.out) | exact HB.out)⟩⟩
             case rest =>
              clear HC38
              try clear c1; try clear p1; try clear q1; try clear hx1; try clear c2; try clear c2b0; try clear c2b1; try clear p2
              try clear c3; try clear c4; try clear p6; try clear c7; try clear c7b0; try clear c8; try clear c8b0; try clear c9
              try clear c9b0; try clear c10; try clear c10b0; try clear c12; try clear c14; try clear c14b0; try clear c15; try clear p15
              try clear q15; try clear hx15; try clear c16; try clear c18; try clear c18b0; try clear c18b1; try clear c20; try clear c23
              try clear c26; try clear c26b0; try clear c28; try clear c28b0; try clear c30; try clear c30b0; try clear c31; try clear c31b0
              try clear c33; try clear c35; try clear c35b0; try clear c36; try clear c36b0; try clear c37; try clear c37b0; try clear c40
              try clear c42; try clear c42b0; try clear c43; try clear c45; try clear hcz13_0; try clear hcz13_1; try clear hcz13_2; try clear hcz17_0
              try clear hcz17_1; try clear hcz17_2; try clear hcz21_0; try clear hcz21_1; try clear hcz21_2; try clear hcz24_0; try clear hcz24_1; try clear hcz24_2
              try clear hcz27_0; try clear hcz27_1; try clear hcz29_0; try clear hcz29_1; try clear hcz32_0; try clear hcz32_1; try clear hcz34_0; try clear hcz34_1
              try clear hcz41_0; try clear hcz41_1; try clear hcz41_2; try clear hcz44_0; try clear hcz44_1; try clear hcz44_2; try clear hcz46_0; try clear hcz46_1
              try clear hcz46_2; try clear hcz4_0; try clear hcz4_1; try clear hcz6_0; try clear hcz6_1; try clear hfz13_0; try clear hfz13_1; try clear hfz13_2
              try clear hfz17_0; try clear hfz17_1; try clear hfz17_2; try clear hfz21_0; try clear hfz21_1; try clear hfz21_2; try clear hfz24_0; try clear hfz24_1
              try clear hfz24_2; try clear hfz27_0; try clear hfz27_1; try clear hfz29_0; try clear hfz29_1; try clear hfz32_0; try clear hfz32_1; try clear hfz34_0
              try clear hfz34_1; try clear hfz41_0; try clear hfz41_1; try clear hfz41_2; try clear hfz44_0; try clear hfz44_1; try clear hfz44_2; try clear hfz46_0
              try clear hfz46_1; try clear hfz46_2; try clear hfz4_0; try clear hfz4_1; try clear hfz6_0; try clear hfz6_1; try clear hx150_0; try clear hx150_1
              try clear hx150_2; try clear hx152_0; try clear hx152_1; try clear hx152_2; try clear hx153_0; try clear hx153_1; try clear hx153_2; try clear p1
              try clear p15; try clear p150; try clear p152; try clear p153; try clear p2; try clear p6; try clear q1; try clear q15
              try clear q150; try clear q152; try clear q153
              obtain ⟨kq, x76_37, rfl, HA, HJ37, BK149, BK154, HB⟩ := hcut
              cases kq with
              | zero => exact absurd HA.out (by simp [sound_Check.j3])
              | succ kj37 =>
               have H := HA.out
               clear HA
               simp only [sound_Check.j3] at H
               by_cases c47 : x76_37 = true
               ·subst c47
                have H1 : (some 3) = some r := by rw [if_pos rfl] at H; exact H
                clear H
                have H := H1
                clear H1
                obtain rfl := Option.some.inj H
                go_wp2
                go_ret
                exact ⟨by first | rfl | (simp [errW_none, errW_some] <;> rfl) | (simp [*, errW_none, errW_some] <;> rfl), by repeat (first | (with_reducible first | exact HB.out | apply below_alloc | apply pw_below_drewN | apply below_drew1 | refine below_set ?_ GE149.out | refine below_set ?_ GE154.out) | exact HB.out)⟩
               ·replace c47 := Bool.eq_false_iff.mpr c47
                subst c47
                have H1 : (sound_Check.l2 kj37 l0_0 (l0_0.length : Int) x63_3 ((rd_T29 l0_0 x63_3).f2) (((rd_T29 l0_0 x63_3).f2).length : Int) 0 l0_0 a0_1 ((rd_T29 l0_0 x63_3).f0) ((rd_T29 l0_0 x63_3).f1) ((rd_T29 l0_0 x63_3).f2)) = some r := by rw [if_neg (show ¬ (false = true) by decide)] at H; exact H
                clear H
                have H := H1
                clear H1
                have H' := Aside0.mk H
                clear H
                have hnb48 := NB154_149.out
                have hnc48 := NB149_154.out
                have hcz49_0 : wc.cell? ⟨gb154, 0, none⟩ = some (.int .i64 ((rd_T29 l0_0 x63_3).f0)) := (blk_cell BK154.out 0).trans rfl
                have hcz49_1 : wc.cell? ⟨gb154, 1, none⟩ = some (.int .i64 ((rd_T29 l0_0 x63_3).f1)) := (blk_cell BK154.out 1).trans rfl
                have hcz49_2 : wc.cell? ⟨gb154, 2, none⟩ = some (.slice A153_2 ((rd_T29 l0_0 x63_3).f2).length c153_2) := (blk_cell BK154.out 2).trans rfl
                have hfz49_0 := blk_frozen BK154.out 0
                have hfz49_1 := blk_frozen BK154.out 1
                have hfz49_2 := blk_frozen BK154.out 2
                go_wp2
                go_loopg [80] kj37 (fun kq v80 w' => ∃ (x80_5 : Int), v80 = .int .i64 x80_5 ∧ Aside0 (sound_Check.l2 kq l0_0 (l0_0.length : Int) x63_3 ((rd_T29 l0_0 x63_3).f2) (((rd_T29 l0_0 x63_3).f2).length : Int) x80_5 l0_0 a0_1 ((rd_T29 l0_0 x63_3).f0) ((rd_T29 l0_0 x63_3).f1) ((rd_T29 l0_0 x63_3).f2) = some r) ∧ Aside0 (kq ≤ kj37) ∧ Aside0 (w'.heap[gb149]? = some (.cells #[(.slice (some ad153) l0_0.length c0_0), .int .i64 a0_1] 24 (0, 0))) ∧ Aside0 (w'.heap[gb154]? = some (.cells #[.int .i64 ((rd_T29 l0_0 x63_3).f0), .int .i64 ((rd_T29 l0_0 x63_3).f1), (.slice A153_2 ((rd_T29 l0_0 x63_3).f2).length c153_2)] 29 (0, 0))) ∧ Aside0 (Below w.heap.size w w'))
                case atStart => exact ⟨(0), (by first | rfl | (simp; done) | (simp [*]; done)), H', ⟨Nat.le_refl _⟩, ⟨BK149.out⟩, ⟨BK154.out⟩, ⟨by repeat (first | (with_reducible first | exact HB.out | apply below_alloc | apply pw_below_drewN | apply below_drew1 | refine below_set ?_ GE149.out | refine below_set ?_ GE154.out) | exact HB.out)⟩⟩
                case round =>
                 clear H'
                 try clear c1; try clear p1; try clear q1; try clear hx1; try clear c2; try clear c2b0; try clear c2b1; try clear p2
                 try clear c3; try clear c4; try clear p6; try clear c7; try clear c7b0; try clear c8; try clear c8b0; try clear c9
                 try clear c9b0; try clear c10; try clear c10b0; try clear c12; try clear c14; try clear c14b0; try clear c15; try clear p15
                 try clear q15; try clear hx15; try clear c16; try clear c18; try clear c18b0; try clear c18b1; try clear c20; try clear c23
                 try clear c26; try clear c26b0; try clear c28; try clear c28b0; try clear c30; try clear c30b0; try clear c31; try clear c31b0
                 try clear c33; try clear c35; try clear c35b0; try clear c36; try clear c36b0; try clear c37; try clear c37b0; try clear c40
                 try clear c42; try clear c42b0; try clear c43; try clear c45; try clear c47; try clear c48; try clear hcz13_0; try clear hcz13_1
                 try clear hcz13_2; try clear hcz17_0; try clear hcz17_1; try clear hcz17_2; try clear hcz21_0; try clear hcz21_1; try clear hcz21_2; try clear hcz24_0
                 try clear hcz24_1; try clear hcz24_2; try clear hcz27_0; try clear hcz27_1; try clear hcz29_0; try clear hcz29_1; try clear hcz32_0; try clear hcz32_1
                 try clear hcz34_0; try clear hcz34_1; try clear hcz41_0; try clear hcz41_1; try clear hcz41_2; try clear hcz44_0; try clear hcz44_1; try clear hcz44_2
                 try clear hcz46_0; try clear hcz46_1; try clear hcz46_2; try clear hcz49_0; try clear hcz49_1; try clear hcz49_2; try clear hcz4_0; try clear hcz4_1
                 try clear hcz6_0; try clear hcz6_1; try clear hfz13_0; try clear hfz13_1; try clear hfz13_2; try clear hfz17_0; try clear hfz17_1; try clear hfz17_2
                 try clear hfz21_0; try clear hfz21_1; try clear hfz21_2; try clear hfz24_0; try clear hfz24_1; try clear hfz24_2; try clear hfz27_0; try clear hfz27_1
                 try clear hfz29_0; try clear hfz29_1; try clear hfz32_0; try clear hfz32_1; try clear hfz34_0; try clear hfz34_1; try clear hfz41_0; try clear hfz41_1
                 try clear hfz41_2; try clear hfz44_0; try clear hfz44_1; try clear hfz44_2; try clear hfz46_0; try clear hfz46_1; try clear hfz46_2; try clear hfz49_0
                 try clear hfz49_1; try clear hfz49_2; try clear hfz4_0; try clear hfz4_1; try clear hfz6_0; try clear hfz6_1; try clear hx150_0; try clear hx150_1
                 try clear hx150_2; try clear hx152_0; try clear hx152_1; try clear hx152_2; try clear hx153_0; try clear hx153_1; try clear hx153_2; try clear p1
                 try clear p15; try clear p150; try clear p152; try clear p153; try clear p2; try clear p6; try clear q1; try clear q15
                 try clear q150; try clear q152; try clear q153
                 obtain ⟨x80_5, rfl, HA, HK5, BK149, BK154, HB⟩ := hrel
                 cases gk with
                 | zero => exact absurd HA.out (by simp [sound_Check.l2])
                 | succ k5 =>
                  have H := HA.out
                  clear HA
                  simp only [sound_Check.l2] at H
                  by_cases c50 : x80_5 < (((rd_T29 l0_0 x63_3).f2).length : Int)
                  ·rw [if_pos c50] at H
                   have c50b0 : decide (x80_5 < (((rd_T29 l0_0 x63_3).f2).length : Int)) = true := decide_eq_true c50
                   clear c50
                   by_cases c51 : 0 ≤ x80_5
                   ·rw [if_pos c51] at H
                    have c51b0 : decide (0 ≤ x80_5) = true := decide_eq_true c51
                    clear c51
                    by_cases c52 : x80_5 < (((rd_T29 l0_0 x63_3).f2).length : Int)
                    ·rw [if_pos c52] at H
                     have c52b0 : decide (x80_5 < (((rd_T29 l0_0 x63_3).f2).length : Int)) = true := decide_eq_true c52
                     clear c52
                     replace H := Option.bind_eq_some_iff.mp H
                     obtain ⟨t157, A530, H⟩ := H
                     replace H : (if t157 = 0 then (sound_Check.l2 k5 l0_0 (l0_0.length : Int) x63_3 ((rd_T29 l0_0 x63_3).f2) (((rd_T29 l0_0 x63_3).f2).length : Int) (wrap64 (x80_5 + 1)) l0_0 a0_1 ((rd_T29 l0_0 x63_3).f0) ((rd_T29 l0_0 x63_3).f1) ((rd_T29 l0_0 x63_3).f2)) else (some t157)) = some r := H
                     have A53 := Aside0.mk A530
                     clear A530
                     by_cases c54 : t157 = 0
                     ·rw [if_pos c54] at H
                      have c54b0 : (t157 == 0) = true := beq_iff_eq.mpr c54
                      have c54b1 : (t157 != 0) = false := bne_eq_false_iff_eq.mpr c54
                      clear c54
                      have H' := Aside0.mk H
                      clear H
                      have p155 : 0 ≤ (x80_5 : Int) := of_decide_eq_true (by first | (with_reducible assumption) | assumption)
                      have q155 : x80_5 < (((rd_T29 l0_0 x63_3).f2).length : Int) := of_decide_eq_true (by first | (with_reducible assumption) | assumption)
                      obtain ⟨ad155, e155, hx155_0, hx155_1⟩ := at_T26 HR153_2.out x80_5 p155 q155
                      cases e155
                      replace hx155_0 := (HB.out.cell (World.block_lt_of_cell? w _ hx155_0)).trans hx155_0
                      replace hx155_1 := (HB.out.cell (World.block_lt_of_cell? w _ hx155_1)).trans hx155_1
                      replace p155 := eq_true p155
                      replace q155 := eq_true q155
                      go_wp2_with (first | ((with_reducible refine gate_dst (N := 8) rfl ?_); (try (refine gate_guard (by rfl) ?_; dsimp only)); refine box_event ?hg (N := 8) ?hd (cs := #[.int .i64 0, .int .i64 0]) (t := 26) ?hr ?_; (case hd => rfl); (case hg => rfl); (case hr => first | (go_simp; done) | (go_simp; rfl)); intro gb156 hg w55 hbox hb; have n0_ := Aside0.mk (bb hb BK149.out); have n1_ := Aside0.mk (bb hb BK154.out); have n2_ := Aside0.mk (below_step (by repeat (first | (with_reducible first | exact HB.out | apply below_alloc | apply pw_below_drewN | apply below_drew1 | refine below_set ?_ GE149.out | refine below_set ?_ GE154.out) | exact HB.out)) hb); have n3_ := Aside0.mk (hbox); have n4_ := Aside0.mk ((by rw [hg]; exact (below_size (by repeat (first | (with_reducible first | exact HB.out | apply below_alloc | apply pw_below_drewN | apply below_drew1 | refine below_set ?_ GE149.out | refine below_set ?_ GE154.out) | exact HB.out))) : w.heap.size ≤ gb156)); have n5_ := Aside0.mk ((by rw [hg]; exact (below_size (by repeat (first | (with_reducible first | exact HB.out | apply below_alloc | apply pw_below_drewN | apply below_drew1 | refine below_set ?_ GE149.out | refine below_set ?_ GE154.out) | exact HB.out))) : w.heap.size ≤ gb156)); have n6_ := Aside0.mk (nl hg BK149.out); have n7_ := Aside0.mk (ng hg BK149.out); have n8_ := Aside0.mk (nl hg BK154.out); have n9_ := Aside0.mk (ng hg BK154.out); clear BK149; clear BK154; clear HB; have BK149 := n0_; have BK154 := n1_; have HB := n2_; have BK156 := n3_; have GW156 := n4_; have GE156 := n5_; have NB149_156 := n6_; have NB156_149 := n7_; have NB154_156 := n8_; have NB156_154 := n9_; clear n0_ n1_ n2_ n3_ n4_ n5_ n6_ n7_ n8_ n9_; clear hb hbox hg; have hnb56 := NB156_149.out; have hnc56 := NB149_156.out; have hnb57 := NB156_154.out; have hnc57 := NB154_156.out; obtain ⟨hcz58_0, hcz58_1⟩ := blk2 BK156.out; obtain ⟨hfz58_0, hfz58_1⟩ := frz2 BK156.out; have hnb59 := NB149_154.out; have hnc59 := NB154_149.out; obtain ⟨hcz60_0, hcz60_1⟩ := blk2 BK149.out; obtain ⟨hfz60_0, hfz60_1⟩ := frz2 BK149.out; have hcz61_0 : w55.cell? ⟨gb154, 0, none⟩ = some (.int .i64 ((rd_T29 l0_0 x63_3).f0)) := (blk_cell BK154.out 0).trans rfl; have hcz61_1 : w55.cell? ⟨gb154, 1, none⟩ = some (.int .i64 ((rd_T29 l0_0 x63_3).f1)) := (blk_cell BK154.out 1).trans rfl; have hcz61_2 : w55.cell? ⟨gb154, 2, none⟩ = some (.slice (some ad155) ((rd_T29 l0_0 x63_3).f2).length c153_2) := (blk_cell BK154.out 2).trans rfl; have hfz61_0 := blk_frozen BK154.out 0; have hfz61_1 := blk_frozen BK154.out 1; have hfz61_2 := blk_frozen BK154.out 2) | ((with_reducible refine gate_callee (f := 40) rfl ?_); refine goesL_ (some 87) rfl rfl Try.func40 (by kernel_rfl) rfl #[.agg #[.slice (some ad153) l0_0.length c0_0, .int .i64 a0_1], .agg #[.int .i64 ((rd_T29 l0_0 x63_3).f0), .int .i64 ((rd_T29 l0_0 x63_3).f1), .slice (some ad155) ((rd_T29 l0_0 x63_3).f2).length c153_2], .agg #[.int .i64 ((rd_T26 ((rd_T29 l0_0 x63_3).f2) x80_5).f0), .int .i64 ((rd_T26 ((rd_T29 l0_0 x63_3).f2) x80_5).f1)]] rfl (by (try simp only [zm1, zm2, zm3]); first | done | rfl) ?_; (with_reducible refine (sound_op.calls k5 _ _ l0_0 a0_1 ((rd_T29 l0_0 x63_3).f0) ((rd_T29 l0_0 x63_3).f1) _ _ ((rd_T29 l0_0 x63_3).f2) ((rd_T26 ((rd_T29 l0_0 x63_3).f2) x80_5).f0) ((rd_T26 ((rd_T29 l0_0 x63_3).f2) x80_5).f1) t157 _ ?side1 ?side2 ?side3 ?side4 A53.out).mono ?_); (case side1 => exact Kd.C_below HR0_0.out (by repeat (first | (with_reducible first | exact HB.out | apply below_alloc | apply pw_below_drewN | apply below_drew1 | refine below_set ?_ GE149.out | refine below_set ?_ GE154.out | refine below_set ?_ GE156.out) | exact HB.out))); (case side2 => exact HC0_0.out); (case side3 => exact Kd.C_below HR153_2.out (by repeat (first | (with_reducible first | exact HB.out | apply below_alloc | apply pw_below_drewN | apply below_drew1 | refine below_set ?_ GE149.out | refine below_set ?_ GE154.out | refine below_set ?_ GE156.out) | exact HB.out))); (case side4 => exact HC153_2.out); rintro e w62 ⟨rfl, hb⟩; refine ⟨_, rfl, ?_⟩; have n0_ := Aside0.mk (blk_below (g := gb149) (o := .cells #[.slice (some ad153) l0_0.length c0_0, .int .i64 a0_1] 24 (0, 0)) (by (with_reducible repeat (first | refine blk_drewN ?_ _ | refine blk_drew ?_ | refine blk_alloc ?_ _)); refine blk_far ?_ NB149_156.out _; refine blk_far ?_ NB149_156.out _; exact BK149.out) hb); have n1_ := Aside0.mk (blk_below (g := gb154) (o := .cells #[.int .i64 ((rd_T29 l0_0 x63_3).f0), .int .i64 ((rd_T29 l0_0 x63_3).f1), .slice (some ad155) ((rd_T29 l0_0 x63_3).f2).length c153_2] 29 (0, 0)) (by (with_reducible repeat (first | refine blk_drewN ?_ _ | refine blk_drew ?_ | refine blk_alloc ?_ _)); refine blk_far ?_ NB154_156.out _; refine blk_far ?_ NB154_156.out _; exact BK154.out) hb); have n2_ := Aside0.mk (blk_below (g := gb156) (o := .cells #[.int .i64 ((rd_T26 ((rd_T29 l0_0 x63_3).f2) x80_5).f0), .int .i64 ((rd_T26 ((rd_T29 l0_0 x63_3).f2) x80_5).f1)] 26 (0, 0)) (by (with_reducible repeat (first | refine blk_drewN ?_ _ | refine blk_drew ?_ | refine blk_alloc ?_ _)); refine blk_put (cs := #[.int .i64 ((rd_T26 ((rd_T29 l0_0 x63_3).f2) x80_5).f0), .int .i64 0]) ?_ 1 _ rfl; refine blk_put (cs := #[.int .i64 0, .int .i64 0]) ?_ 0 _ rfl; exact BK156.out) hb); have n3_ := Aside0.mk (below_step (by repeat (first | (with_reducible first | exact HB.out | apply below_alloc | apply pw_below_drewN | apply below_drew1 | refine below_set ?_ GE149.out | refine below_set ?_ GE154.out | refine below_set ?_ GE156.out) | exact HB.out)) hb); clear BK149; clear BK154; clear BK156; clear HB; have BK149 := n0_; have BK154 := n1_; have BK156 := n2_; have HB := n3_; clear n0_ n1_ n2_ n3_; (try clear hb); (try clear hb2); (try clear hk); (try clear hi)))
                      go_roundg k5
                      case measure => have := HK1.out; have := HJ24.out; have := HK3.out; have := HJ37.out; have := HK5.out; omega
                      case rel => exact ⟨(wrap64 (x80_5 + 1)), (by first | rfl | (simp; done) | (simp [*]; done)), H', ⟨by have := HK1.out; have := HJ24.out; have := HK3.out; have := HJ37.out; have := HK5.out; omega⟩, ⟨BK149.out⟩, ⟨BK154.out⟩, ⟨by repeat (first | (with_reducible first | exact HB.out | apply below_alloc | apply pw_below_drewN | apply below_drew1 | refine below_set ?_ GE149.out | refine below_set ?_ GE154.out | refine below_set ?_ GE156.out) | exact HB.out)⟩⟩
                     ·rw [if_neg c54] at H
                      have c54b0 : (t157 == 0) = false := beq_eq_false_iff_ne.mpr c54
                      have c54b1 : (t157 != 0) = true := bne_iff_ne.mpr c54
                      obtain rfl := Option.some.inj H
                      have p155 : 0 ≤ (x80_5 : Int) := of_decide_eq_true (by first | (with_reducible assumption) | assumption)
                      have q155 : x80_5 < (((rd_T29 l0_0 x63_3).f2).length : Int) := of_decide_eq_true (by first | (with_reducible assumption) | assumption)
                      obtain ⟨ad155, e155, hx155_0, hx155_1⟩ := at_T26 HR153_2.out x80_5 p155 q155
                      cases e155
                      replace hx155_0 := (HB.out.cell (World.block_lt_of_cell? w _ hx155_0)).trans hx155_0
                      replace hx155_1 := (HB.out.cell (World.block_lt_of_cell? w _ hx155_1)).trans hx155_1
                      replace p155 := eq_true p155
                      replace q155 := eq_true q155
                      go_wp2_with (first | ((with_reducible refine gate_dst (N := 8) rfl ?_); (try (refine gate_guard (by rfl) ?_; dsimp only)); refine box_event ?hg (N := 8) ?hd (cs := #[.int .i64 0, .int .i64 0]) (t := 26) ?hr ?_; (case hd => rfl); (case hg => rfl); (case hr => first | (go_simp; done) | (go_simp; rfl)); intro gb156 hg w63 hbox hb; have n0_ := Aside0.mk (bb hb BK149.out); have n1_ := Aside0.mk (bb hb BK154.out); have n2_ := Aside0.mk (below_step (by repeat (first | (with_reducible first | exact HB.out | apply below_alloc | apply pw_below_drewN | apply below_drew1 | refine below_set ?_ GE149.out | refine below_set ?_ GE154.out) | exact HB.out)) hb); have n3_ := Aside0.mk (hbox); have n4_ := Aside0.mk ((by rw [hg]; exact (below_size (by repeat (first | (with_reducible first | exact HB.out | apply below_alloc | apply pw_below_drewN | apply below_drew1 | refine below_set ?_ GE149.out | refine below_set ?_ GE154.out) | exact HB.out))) : w.heap.size ≤ gb156)); have n5_ := Aside0.mk ((by rw [hg]; exact (below_size (by repeat (first | (with_reducible first | exact HB.out | apply below_alloc | apply pw_below_drewN | apply below_drew1 | refine below_set ?_ GE149.out | refine below_set ?_ GE154.out) | exact HB.out))) : w.heap.size ≤ gb156)); have n6_ := Aside0.mk (nl hg BK149.out); have n7_ := Aside0.mk (ng hg BK149.out); have n8_ := Aside0.mk (nl hg BK154.out); have n9_ := Aside0.mk (ng hg BK154.out); clear BK149; clear BK154; clear HB; have BK149 := n0_; have BK154 := n1_; have HB := n2_; have BK156 := n3_; have GW156 := n4_; have GE156 := n5_; have NB149_156 := n6_; have NB156_149 := n7_; have NB154_156 := n8_; have NB156_154 := n9_; clear n0_ n1_ n2_ n3_ n4_ n5_ n6_ n7_ n8_ n9_; clear hb hbox hg; have hnb64 := NB156_149.out; have hnc64 := NB149_156.out; have hnb65 := NB156_154.out; have hnc65 := NB154_156.out; obtain ⟨hcz66_0, hcz66_1⟩ := blk2 BK156.out; obtain ⟨hfz66_0, hfz66_1⟩ := frz2 BK156.out; have hnb67 := NB149_154.out; have hnc67 := NB154_149.out; obtain ⟨hcz68_0, hcz68_1⟩ := blk2 BK149.out; obtain ⟨hfz68_0, hfz68_1⟩ := frz2 BK149.out; have hcz69_0 : w63.cell? ⟨gb154, 0, none⟩ = some (.int .i64 ((rd_T29 l0_0 x63_3).f0)) := (blk_cell BK154.out 0).trans rfl; have hcz69_1 : w63.cell? ⟨gb154, 1, none⟩ = some (.int .i64 ((rd_T29 l0_0 x63_3).f1)) := (blk_cell BK154.out 1).trans rfl; have hcz69_2 : w63.cell? ⟨gb154, 2, none⟩ = some (.slice (some ad155) ((rd_T29 l0_0 x63_3).f2).length c153_2) := (blk_cell BK154.out 2).trans rfl; have hfz69_0 := blk_frozen BK154.out 0; have hfz69_1 := blk_frozen BK154.out 1; have hfz69_2 := blk_frozen BK154.out 2) | ((with_reducible refine gate_callee (f := 40) rfl ?_); refine goesL_ (some 87) rfl rfl Try.func40 (by kernel_rfl) rfl #[.agg #[.slice (some ad153) l0_0.length c0_0, .int .i64 a0_1], .agg #[.int .i64 ((rd_T29 l0_0 x63_3).f0), .int .i64 ((rd_T29 l0_0 x63_3).f1), .slice (some ad155) ((rd_T29 l0_0 x63_3).f2).length c153_2], .agg #[.int .i64 ((rd_T26 ((rd_T29 l0_0 x63_3).f2) x80_5).f0), .int .i64 ((rd_T26 ((rd_T29 l0_0 x63_3).f2) x80_5).f1)]] rfl (by (try simp only [zm1, zm2, zm3]); first | done | rfl) ?_; (with_reducible refine (sound_op.calls k5 _ _ l0_0 a0_1 ((rd_T29 l0_0 x63_3).f0) ((rd_T29 l0_0 x63_3).f1) _ _ ((rd_T29 l0_0 x63_3).f2) ((rd_T26 ((rd_T29 l0_0 x63_3).f2) x80_5).f0) ((rd_T26 ((rd_T29 l0_0 x63_3).f2) x80_5).f1) t157 _ ?side1 ?side2 ?side3 ?side4 A53.out).mono ?_); (case side1 => exact Kd.C_below HR0_0.out (by repeat (first | (with_reducible first | exact HB.out | apply below_alloc | apply pw_below_drewN | apply below_drew1 | refine below_set ?_ GE149.out | refine below_set ?_ GE154.out | refine below_set ?_ GE156.out) | exact HB.out))); (case side2 => exact HC0_0.out); (case side3 => exact Kd.C_below HR153_2.out (by repeat (first | (with_reducible first | exact HB.out | apply below_alloc | apply pw_below_drewN | apply below_drew1 | refine below_set ?_ GE149.out | refine below_set ?_ GE154.out | refine below_set ?_ GE156.out) | exact HB.out))); (case side4 => exact HC153_2.out); rintro e w70 ⟨rfl, hb⟩; refine ⟨_, rfl, ?_⟩; have n0_ := Aside0.mk (blk_below (g := gb149) (o := .cells #[.slice (some ad153) l0_0.length c0_0, .int .i64 a0_1] 24 (0, 0)) (by (with_reducible repeat (first | refine blk_drewN ?_ _ | refine blk_drew ?_ | refine blk_alloc ?_ _)); refine blk_far ?_ NB149_156.out _; refine blk_far ?_ NB149_156.out _; exact BK149.out) hb); have n1_ := Aside0.mk (blk_below (g := gb154) (o := .cells #[.int .i64 ((rd_T29 l0_0 x63_3).f0), .int .i64 ((rd_T29 l0_0 x63_3).f1), .slice (some ad155) ((rd_T29 l0_0 x63_3).f2).length c153_2] 29 (0, 0)) (by (with_reducible repeat (first | refine blk_drewN ?_ _ | refine blk_drew ?_ | refine blk_alloc ?_ _)); refine blk_far ?_ NB154_156.out _; refine blk_far ?_ NB154_156.out _; exact BK154.out) hb); have n2_ := Aside0.mk (blk_below (g := gb156) (o := .cells #[.int .i64 ((rd_T26 ((rd_T29 l0_0 x63_3).f2) x80_5).f0), .int .i64 ((rd_T26 ((rd_T29 l0_0 x63_3).f2) x80_5).f1)] 26 (0, 0)) (by (with_reducible repeat (first | refine blk_drewN ?_ _ | refine blk_drew ?_ | refine blk_alloc ?_ _)); refine blk_put (cs := #[.int .i64 ((rd_T26 ((rd_T29 l0_0 x63_3).f2) x80_5).f0), .int .i64 0]) ?_ 1 _ rfl; refine blk_put (cs := #[.int .i64 0, .int .i64 0]) ?_ 0 _ rfl; exact BK156.out) hb); have n3_ := Aside0.mk (below_step (by repeat (first | (with_reducible first | exact HB.out | apply below_alloc | apply pw_below_drewN | apply below_drew1 | refine below_set ?_ GE149.out | refine below_set ?_ GE154.out | refine below_set ?_ GE156.out) | exact HB.out)) hb); clear BK149; clear BK154; clear BK156; clear HB; have BK149 := n0_; have BK154 := n1_; have BK156 := n2_; have HB := n3_; clear n0_ n1_ n2_ n3_; (try clear hb); (try clear hb2); (try clear hk); (try clear hi)))
                      go_ret
                      exact ⟨by first | rfl | (simp [errW_none, errW_some] <;> rfl) | (simp [*, errW_none, errW_some] <;> rfl), by repeat (first | (with_reducible first | exact HB.out | apply below_alloc | apply pw_below_drewN | apply below_drew1 | refine below_set ?_ GE149.out | refine below_set ?_ GE154.out | refine below_set ?_ GE156.out) | exact HB.out)⟩
                    ·rw [if_neg c52] at H
                     exact absurd H (by simp)
                   ·rw [if_neg c51] at H
                    exact absurd H (by simp)
                  ·rw [if_neg c50] at H
                   have c50b0 : decide (x80_5 < (((rd_T29 l0_0 x63_3).f2).length : Int)) = false := decide_eq_false c50
                   clear c50
                   have H' := Aside0.mk H
                   clear H
                   go_wp2
                   go_roundg k5
                   case measure => have := HK1.out; have := HJ24.out; have := HK3.out; have := HJ37.out; have := HK5.out; omega
                   case rel => exact ⟨(wrap64 (x63_3 + 1)), (by first | rfl | (simp; done) | (simp [*]; done)), H', ⟨by have := HK1.out; have := HJ24.out; have := HK3.out; have := HJ37.out; have := HK5.out; omega⟩, ⟨BK149.out⟩, ⟨by repeat (first | (with_reducible first | exact HB.out | apply below_alloc | apply pw_below_drewN | apply below_drew1 | refine below_set ?_ GE149.out | refine below_set ?_ GE154.out) | exact HB.out)⟩⟩
            ·rw [if_neg c37] at H
             exact absurd H (by simp)
           ·rw [if_neg c36] at H
            exact absurd H (by simp)
          ·rw [if_neg c35] at H
           have c35b0 : decide (x63_3 < (l0_0.length : Int)) = false := decide_eq_false c35
           clear c35
           have H' := Aside0.mk H
           clear H
           obtain ⟨hcz71_0, hcz71_1⟩ := blk2 BK149.out
           obtain ⟨hfz71_0, hfz71_1⟩ := frz2 BK149.out
           go_wp2
           go_loopg [96] k3 (fun kq v96 w' => ∃ (x96_4 : Int), v96 = .int .i64 x96_4 ∧ Aside0 (sound_Check.l3 kq (l0_0.length : Int) x96_4 l0_0 a0_1 = some r) ∧ Aside0 (kq ≤ k3) ∧ Aside0 (w'.heap[gb149]? = some (.cells #[(.slice A0_0 l0_0.length c0_0), .int .i64 a0_1] 24 (0, 0))) ∧ Aside0 (Below w.heap.size w w'))
           case atStart => exact ⟨(0), (by first | rfl | (simp; done) | (simp [*]; done)), H', ⟨Nat.le_refl _⟩, ⟨BK149.out⟩, ⟨by repeat (first | (with_reducible first | exact HB.out | apply below_alloc | apply pw_below_drewN | apply below_drew1 | refine below_set ?_ GE149.out) | exact HB.out)⟩⟩
           case round =>
            clear H'
            try clear c1; try clear p1; try clear q1; try clear hx1; try clear c2; try clear c2b0; try clear c2b1; try clear p2
            try clear c3; try clear c4; try clear c5; try clear c6; try clear p6; try clear c7; try clear c7b0; try clear c8
            try clear c8b0; try clear c9; try clear c9b0; try clear c10; try clear c10b0; try clear c12; try clear c14; try clear c14b0
            try clear c15; try clear p15; try clear q15; try clear hx15; try clear c16; try clear c18; try clear c18b0; try clear c18b1
            try clear c20; try clear c23; try clear c26; try clear c26b0; try clear c28; try clear c28b0; try clear c30; try clear c30b0
            try clear c31; try clear c31b0; try clear c33; try clear c35; try clear c35b0; try clear c36; try clear c36b0; try clear c37
            try clear c37b0; try clear c40; try clear c42; try clear c42b0; try clear c43; try clear c45; try clear c47; try clear c48
            try clear c50; try clear c50b0; try clear c51; try clear c51b0; try clear c52; try clear c52b0; try clear c54; try clear c54b0
            try clear c54b1; try clear c56; try clear c57; try clear c59; try clear c64; try clear p64; try clear c65; try clear c67
            try clear hcz13_0; try clear hcz13_1; try clear hcz13_2; try clear hcz17_0; try clear hcz17_1; try clear hcz17_2; try clear hcz21_0; try clear hcz21_1
            try clear hcz21_2; try clear hcz24_0; try clear hcz24_1; try clear hcz24_2; try clear hcz27_0; try clear hcz27_1; try clear hcz29_0; try clear hcz29_1
            try clear hcz32_0; try clear hcz32_1; try clear hcz34_0; try clear hcz34_1; try clear hcz41_0; try clear hcz41_1; try clear hcz41_2; try clear hcz44_0
            try clear hcz44_1; try clear hcz44_2; try clear hcz46_0; try clear hcz46_1; try clear hcz46_2; try clear hcz49_0; try clear hcz49_1; try clear hcz49_2
            try clear hcz4_0; try clear hcz4_1; try clear hcz58_0; try clear hcz58_1; try clear hcz60_0; try clear hcz60_1; try clear hcz61_0; try clear hcz61_1
            try clear hcz61_2; try clear hcz66_0; try clear hcz66_1; try clear hcz68_0; try clear hcz68_1; try clear hcz69_0; try clear hcz69_1; try clear hcz69_2
            try clear hcz6_0; try clear hcz6_1; try clear hcz71_0; try clear hcz71_1; try clear hfz13_0; try clear hfz13_1; try clear hfz13_2; try clear hfz17_0
            try clear hfz17_1; try clear hfz17_2; try clear hfz21_0; try clear hfz21_1; try clear hfz21_2; try clear hfz24_0; try clear hfz24_1; try clear hfz24_2
            try clear hfz27_0; try clear hfz27_1; try clear hfz29_0; try clear hfz29_1; try clear hfz32_0; try clear hfz32_1; try clear hfz34_0; try clear hfz34_1
            try clear hfz41_0; try clear hfz41_1; try clear hfz41_2; try clear hfz44_0; try clear hfz44_1; try clear hfz44_2; try clear hfz46_0; try clear hfz46_1
            try clear hfz46_2; try clear hfz49_0; try clear hfz49_1; try clear hfz49_2; try clear hfz4_0; try clear hfz4_1; try clear hfz58_0; try clear hfz58_1
            try clear hfz60_0; try clear hfz60_1; try clear hfz61_0; try clear hfz61_1; try clear hfz61_2; try clear hfz66_0; try clear hfz66_1; try clear hfz68_0
            try clear hfz68_1; try clear hfz69_0; try clear hfz69_1; try clear hfz69_2; try clear hfz6_0; try clear hfz6_1; try clear hfz71_0; try clear hfz71_1
            try clear hx150_0; try clear hx150_1; try clear hx150_2; try clear hx152_0; try clear hx152_1; try clear hx152_2; try clear hx153_0; try clear hx153_1
            try clear hx153_2; try clear hx155_0; try clear hx155_1; try clear p1; try clear p15; try clear p150; try clear p152; try clear p153
            try clear p155; try clear p2; try clear p6; try clear q1; try clear q15; try clear q150; try clear q152; try clear q153
            try clear q155
            obtain ⟨x96_4, rfl, HA, HK4, BK149, HB⟩ := hrel
            cases gk with
            | zero => exact absurd HA.out (by simp [sound_Check.l3])
            | succ k4 =>
             have H := HA.out
             clear HA
             simp only [sound_Check.l3] at H
             by_cases c72 : x96_4 < (l0_0.length : Int)
             ·rw [if_pos c72] at H
              have c72b0 : decide (x96_4 < (l0_0.length : Int)) = true := decide_eq_true c72
              clear c72
              replace H := Option.bind_eq_some_iff.mp H
              obtain ⟨⟨t158, t161⟩, A730, H⟩ := H
              replace H : (if t161 = 0 then (sound_Check.l3 k4 (l0_0.length : Int) (wrap64 (x96_4 + 1)) l0_0 a0_1) else (some t161)) = some r := H
              have A73 := Aside0.mk A730
              clear A730
              by_cases c74 : t161 = 0
              ·rw [if_pos c74] at H
               have c74b0 : (t161 == 0) = true := beq_iff_eq.mpr c74
               have c74b1 : (t161 != 0) = false := bne_eq_false_iff_eq.mpr c74
               clear c74
               have H' := Aside0.mk H
               clear H
               obtain ⟨hcz75_0, hcz75_1⟩ := blk2 BK149.out
               obtain ⟨hfz75_0, hfz75_1⟩ := frz2 BK149.out
               go_wp2_with (first | ((with_reducible refine gate_callee (f := 39) rfl ?_); refine goesL_ (some 102) rfl rfl Try.func39 (by kernel_rfl) rfl #[.agg #[.slice A0_0 l0_0.length c0_0, .int .i64 a0_1], .int .i64 x96_4] rfl (by (try simp only [zm1, zm2, zm3]); first | done | rfl) ?_; (with_reducible refine (sound_heights.calls k4 _ _ l0_0 a0_1 x96_4 t158 t161 _ ?side1 ?side2 A73.out).mono ?_); (case side1 => repeat (first | exact (Kd.C_below HR0_0.out HB.out) | (with_reducible refine Kd.C_alloc ?_ _) | (with_reducible refine Kd.C_drewN ?_ _) | (with_reducible refine Kd.C_drew ?_))); (case side2 => exact HC0_0.out); rintro e w76 ⟨v159, rfl, ho0, hb⟩; refine ⟨_, rfl, ?_⟩; have n0_ := Aside0.mk (Kd.R_lower ho0 (below_size (by repeat (first | (with_reducible first | exact HB.out | apply below_alloc | apply pw_below_drewN | apply below_drew1 | refine below_set ?_ GE149.out) | exact HB.out)))); have n1_ := Aside0.mk (bb hb BK149.out); have n2_ := Aside0.mk (below_step (by repeat (first | (with_reducible first | exact HB.out | apply below_alloc | apply pw_below_drewN | apply below_drew1 | refine below_set ?_ GE149.out) | exact HB.out)) hb); clear BK149; clear HB; have HO160 := n0_; have BK149 := n1_; have HB := n2_; clear n0_ n1_ n2_; (try clear hb); (try clear hb2); (try clear hk); (try clear hi); (try clear ho0)))
               go_roundg k4
               case measure => have := HK1.out; have := HJ24.out; have := HK3.out; have := HK4.out; omega
               case rel => exact ⟨(wrap64 (x96_4 + 1)), (by first | rfl | (simp; done) | (simp [*]; done)), H', ⟨by have := HK1.out; have := HJ24.out; have := HK3.out; have := HK4.out; omega⟩, ⟨BK149.out⟩, ⟨by repeat (first | (with_reducible first | exact HB.out | apply below_alloc | apply pw_below_drewN | apply below_drew1 | refine below_set ?_ GE149.out) | exact HB.out)⟩⟩
              ·rw [if_neg c74] at H
               have c74b0 : (t161 == 0) = false := beq_eq_false_iff_ne.mpr c74
               have c74b1 : (t161 != 0) = true := bne_iff_ne.mpr c74
               obtain rfl := Option.some.inj H
               obtain ⟨hcz77_0, hcz77_1⟩ := blk2 BK149.out
               obtain ⟨hfz77_0, hfz77_1⟩ := frz2 BK149.out
               go_wp2_with (first | ((with_reducible refine gate_callee (f := 39) rfl ?_); refine goesL_ (some 102) rfl rfl Try.func39 (by kernel_rfl) rfl #[.agg #[.slice A0_0 l0_0.length c0_0, .int .i64 a0_1], .int .i64 x96_4] rfl (by (try simp only [zm1, zm2, zm3]); first | done | rfl) ?_; (with_reducible refine (sound_heights.calls k4 _ _ l0_0 a0_1 x96_4 t158 t161 _ ?side1 ?side2 A73.out).mono ?_); (case side1 => repeat (first | exact (Kd.C_below HR0_0.out HB.out) | (with_reducible refine Kd.C_alloc ?_ _) | (with_reducible refine Kd.C_drewN ?_ _) | (with_reducible refine Kd.C_drew ?_))); (case side2 => exact HC0_0.out); rintro e w78 ⟨v159, rfl, ho0, hb⟩; refine ⟨_, rfl, ?_⟩; have n0_ := Aside0.mk (Kd.R_lower ho0 (below_size (by repeat (first | (with_reducible first | exact HB.out | apply below_alloc | apply pw_below_drewN | apply below_drew1 | refine below_set ?_ GE149.out) | exact HB.out)))); have n1_ := Aside0.mk (bb hb BK149.out); have n2_ := Aside0.mk (below_step (by repeat (first | (with_reducible first | exact HB.out | apply below_alloc | apply pw_below_drewN | apply below_drew1 | refine below_set ?_ GE149.out) | exact HB.out)) hb); clear BK149; clear HB; have HO160 := n0_; have BK149 := n1_; have HB := n2_; clear n0_ n1_ n2_; (try clear hb); (try clear hb2); (try clear hk); (try clear hi); (try clear ho0)))
               go_ret
               exact ⟨by first | rfl | (simp [errW_none, errW_some] <;> rfl) | (simp [*, errW_none, errW_some] <;> rfl), by repeat (first | (with_reducible first | exact HB.out | apply below_alloc | apply pw_below_drewN | apply below_drew1 | refine below_set ?_ GE149.out) | exact HB.out)⟩
             ·rw [if_neg c72] at H
              have c72b0 : decide (x96_4 < (l0_0.length : Int)) = false := decide_eq_false c72
              clear c72
              obtain rfl := Option.some.inj H
              go_wp2
              go_ret
              exact ⟨by first | rfl | (simp [errW_none, errW_some] <;> rfl) | (simp [*, errW_none, errW_some] <;> rfl), by repeat (first | (with_reducible first | exact HB.out | apply below_alloc | apply pw_below_drewN | apply below_drew1 | refine below_set ?_ GE149.out) | exact HB.out)⟩

end Go.Proofs.Ytkoopdoeehoigaa.PSoundTells
