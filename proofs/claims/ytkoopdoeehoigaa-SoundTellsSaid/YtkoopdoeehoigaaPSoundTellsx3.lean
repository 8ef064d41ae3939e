-- Printed by a program: the print with changes of this session (wip/printpatch.py).
import Derived.Test.YtkoopdoeehoigaaPSoundTellsx0
namespace Go.Proofs.Ytkoopdoeehoigaa.PSoundTells
open Go.Proofs.Ytkoopdoeehoigaa.Fnv Go.Proofs.Ytkoopdoeehoigaa.Ary
open Go.RowKit Go.Proofs.YtkoopdoeehoigaaW.PrintWords Go.Proofs.YtkoopdoeehoigaaW.PrintLast Go.Proofs.YtkoopdoeehoigaaW.PrintMore
attribute [local go_sem] max2_int min2_int max_two min_two max_three min_three max_four min_four   -- for this text's walks alone
set_option linter.unusedVariables false
set_option linter.unusedSimpArgs false

/-! ### sound_op: function 40 -/
mutual
def sound_op.j2 : Nat → Int → Int → Int → Option (Int)
 | 0, _, _, _ => none
 | k + 1, x7, x149000, x149001 => if x149000 < 1 then (sound_op.j3 k x7 true x149000 x149001) else (sound_op.j3 k x7 (decide (x149000 > 20)) x149000 x149001)
def sound_op.j3 : Nat → Int → Bool → Int → Int → Option (Int)
 | 0, _, _, _, _ => none
 | k + 1, x7, x37, x149000, x149001 => if x37 = true then (some 3) else (if x149001 < 0 then (some 1) else (if x149001 ≥ x7 then (some 1) else (if x149000 = 20 then (if (Int.tmod x149001 8) > 6 then (some 1) else (some 0)) else (some 0))))
def sound_op.j0 : Nat → Int → Int → Bool → List (S29) → Int → Int → Int → List (S26) → Int → Int → Option (Int)
 | 0, _, _, _, _, _, _, _, _, _, _ => none
 | k + 1, x7, x9, x12, x147000, x147001, x148000, x148001, x148002, x149000, x149001 => if x12 = true then (sound_op.j2 k x148001 x149000 x149001) else (if x9 = 15 then (sound_op.j1 k x7 x9 (x9 == 15) x147000 x147001 x148000 x148001 x148002 x149000 x149001) else (sound_op.j1 k x7 x9 (x9 == 16) x147000 x147001 x148000 x148001 x148002 x149000 x149001))
def sound_op.j1 : Nat → Int → Int → Bool → List (S29) → Int → Int → Int → List (S26) → Int → Int → Option (Int)
 | 0, _, _, _, _, _, _, _, _, _, _ => none
 | k + 1, x7, x9, x17, x147000, x147001, x148000, x148001, x148002, x149000, x149001 => if x17 = true then (sound_op.j2 k (x148002.length : Int) x149000 x149001) else (if x9 = 17 then (sound_op.j2 k (x147000.length : Int) x149000 x149001) else (if x9 = 20 then (sound_op.j2 k 128 x149000 x149001) else (sound_op.j2 k x7 x149000 x149001)))
end
def sound_op.f (k : Nat) (l0_0 : List (S29)) (a0_1 : Int) (a1_0 : Int) (a1_1 : Int) (l1_2 : List (S26)) (a2_0 : Int) (a2_1 : Int) : Option (Int) := if a2_0 = 1 then (some 0) else (if a2_0 = 2 then (sound_op.j0 k 1 a2_0 (a2_0 == 2) l0_0 a0_1 a1_0 a1_1 l1_2 a2_0 a2_1) else (sound_op.j0 k 1 a2_0 (a2_0 == 3) l0_0 a0_1 a1_0 a1_1 l1_2 a2_0 a2_1))
theorem sound_op.mono_l : ∀ k, (∀ y0 y1 y2, LeO (sound_op.j2 k y0 y1 y2) (sound_op.j2 (k + 1) y0 y1 y2)) ∧ (∀ y0 y1 y2 y3, LeO (sound_op.j3 k y0 y1 y2 y3) (sound_op.j3 (k + 1) y0 y1 y2 y3)) ∧ (∀ y0 y1 y2 y3 y4 y5 y6 y7 y8 y9, LeO (sound_op.j0 k y0 y1 y2 y3 y4 y5 y6 y7 y8 y9) (sound_op.j0 (k + 1) y0 y1 y2 y3 y4 y5 y6 y7 y8 y9)) ∧ (∀ y0 y1 y2 y3 y4 y5 y6 y7 y8 y9, LeO (sound_op.j1 k y0 y1 y2 y3 y4 y5 y6 y7 y8 y9) (sound_op.j1 (k + 1) y0 y1 y2 y3 y4 y5 y6 y7 y8 y9))
 | 0 => ⟨fun _ _ _ r h => by simp [sound_op.j2] at h, fun _ _ _ _ r h => by simp [sound_op.j3] at h, fun _ _ _ _ _ _ _ _ _ _ r h => by simp [sound_op.j0] at h, fun _ _ _ _ _ _ _ _ _ _ r h => by simp [sound_op.j1] at h⟩
 | k + 1 => by
  obtain ⟨ih0, ih1, ih2, ih3⟩ := sound_op.mono_l k
  refine ⟨?_, ?_, ?_, ?_⟩
  ·intro y0 y1 y2
   unfold sound_op.j2
   repeat' first
   | (with_reducible exact ih0 _ _ _)
   | (with_reducible exact ih1 _ _ _ _)
   | (with_reducible exact ih2 _ _ _ _ _ _ _ _ _ _)
   | (with_reducible exact ih3 _ _ _ _ _ _ _ _ _ _)
   | (with_reducible exact LeO.refl _)
   | (with_reducible exact LeO.none _)
   | (with_reducible refine LeO.ite ?_ ?_)
   | (with_reducible refine LeO.bind ?_ (fun _ => ?_))
   | exact ih0 _ _ _
   | exact ih1 _ _ _ _
   | exact ih2 _ _ _ _ _ _ _ _ _ _
   | exact ih3 _ _ _ _ _ _ _ _ _ _
   | exact LeO.none _
   | refine LeO.ite ?_ ?_
   | refine LeO.bind ?_ (fun _ => ?_)
  ·intro y0 y1 y2 y3
   unfold sound_op.j3
   repeat' first
   | (with_reducible exact ih0 _ _ _)
   | (with_reducible exact ih1 _ _ _ _)
   | (with_reducible exact ih2 _ _ _ _ _ _ _ _ _ _)
   | (with_reducible exact ih3 _ _ _ _ _ _ _ _ _ _)
   | (with_reducible exact LeO.refl _)
   | (with_reducible exact LeO.none _)
   | (with_reducible refine LeO.ite ?_ ?_)
   | (with_reducible refine LeO.bind ?_ (fun _ => ?_))
   | exact ih0 _ _ _
   | exact ih1 _ _ _ _
   | exact ih2 _ _ _ _ _ _ _ _ _ _
   | exact ih3 _ _ _ _ _ _ _ _ _ _
   | exact LeO.none _
   | refine LeO.ite ?_ ?_
   | refine LeO.bind ?_ (fun _ => ?_)
  ·intro y0 y1 y2 y3 y4 y5 y6 y7 y8 y9
   unfold sound_op.j0
   repeat' first
   | (with_reducible exact ih0 _ _ _)
   | (with_reducible exact ih1 _ _ _ _)
   | (with_reducible exact ih2 _ _ _ _ _ _ _ _ _ _)
   | (with_reducible exact ih3 _ _ _ _ _ _ _ _ _ _)
   | (with_reducible exact LeO.refl _)
   | (with_reducible exact LeO.none _)
   | (with_reducible refine LeO.ite ?_ ?_)
   | (with_reducible refine LeO.bind ?_ (fun _ => ?_))
   | exact ih0 _ _ _
   | exact ih1 _ _ _ _
   | exact ih2 _ _ _ _ _ _ _ _ _ _
   | exact ih3 _ _ _ _ _ _ _ _ _ _
   | exact LeO.none _
   | refine LeO.ite ?_ ?_
   | refine LeO.bind ?_ (fun _ => ?_)
  ·intro y0 y1 y2 y3 y4 y5 y6 y7 y8 y9
   unfold sound_op.j1
   repeat' first
   | (with_reducible exact ih0 _ _ _)
   | (with_reducible exact ih1 _ _ _ _)
   | (with_reducible exact ih2 _ _ _ _ _ _ _ _ _ _)
   | (with_reducible exact ih3 _ _ _ _ _ _ _ _ _ _)
   | (with_reducible exact LeO.refl _)
   | (with_reducible exact LeO.none _)
   | (with_reducible refine LeO.ite ?_ ?_)
   | (with_reducible refine LeO.bind ?_ (fun _ => ?_))
   | exact ih0 _ _ _
   | exact ih1 _ _ _ _
   | exact ih2 _ _ _ _ _ _ _ _ _ _
   | exact ih3 _ _ _ _ _ _ _ _ _ _
   | exact LeO.none _
   | refine LeO.ite ?_ ?_
   | refine LeO.bind ?_ (fun _ => ?_)
theorem sound_op.mono : ∀ a0 a1 a2 a3 a4 a5 a6 k, LeO (sound_op.f k a0 a1 a2 a3 a4 a5 a6) (sound_op.f (k + 1) a0 a1 a2 a3 a4 a5 a6) := by
 intro a0 a1 a2 a3 a4 a5 a6 k
 obtain ⟨ih0, ih1, ih2, ih3⟩ := sound_op.mono_l k
 unfold sound_op.f
 repeat' first
   | (with_reducible exact ih0 _ _ _)
   | (with_reducible exact ih1 _ _ _ _)
   | (with_reducible exact ih2 _ _ _ _ _ _ _ _ _ _)
   | (with_reducible exact ih3 _ _ _ _ _ _ _ _ _ _)
   | (with_reducible exact LeO.refl _)
   | (with_reducible exact LeO.none _)
   | (with_reducible refine LeO.ite ?_ ?_)
   | (with_reducible refine LeO.bind ?_ (fun _ => ?_))
   | exact ih0 _ _ _
   | exact ih1 _ _ _ _
   | exact ih2 _ _ _ _ _ _ _ _ _ _
   | exact ih3 _ _ _ _ _ _ _ _ _ _
   | exact LeO.none _
   | refine LeO.ite ?_ ?_
   | refine LeO.bind ?_ (fun _ => ?_)
set_option maxHeartbeats 8000000 in
set_option maxRecDepth 100000 in
theorem sound_op.calls (k : Nat) (A0_0 : Option Addr) (c0_0 : Nat) (l0_0 : List (S29)) (a0_1 : Int) (a1_0 : Int) (a1_1 : Int) (A1_2 : Option Addr) (c1_2 : Nat) (l1_2 : List (S26)) (a2_0 : Int) (a2_1 : Int) (r : Int) (w : World) (hr0_0 : Kd.C k29 w A0_0 l0_0.length l0_0) (hc0_0 : l0_0.length ≤ c0_0) (hr1_2 : Kd.C k26 w A1_2 l1_2.length l1_2) (hc1_2 : l1_2.length ≤ c1_2) (h : sound_op.f k l0_0 a0_1 a1_0 a1_1 l1_2 a2_0 a2_1 = some r) :
  Calls Try.prog 40 #[.agg #[.slice A0_0 l0_0.length c0_0, .int .i64 a0_1], .agg #[.int .i64 a1_0, .int .i64 a1_1, .slice A1_2 l1_2.length c1_2], .agg #[.int .i64 a2_0, .int .i64 a2_1]] w fun e w' => e = .returned (.int .i64 r) ∧ Below w.heap.size w w' := by
 have hu24 := Try.underlying24
 have hu29 := Try.underlying29
 have hu26 := Try.underlying26
 have HR0_0 := Aside0.mk hr0_0
 have HC0_0 := Aside0.mk hc0_0
 clear hr0_0 hc0_0
 have HR1_2 := Aside0.mk hr1_2
 have HC1_2 := Aside0.mk hc1_2
 clear hr1_2 hc1_2
 have HB := Aside0.mk (Below.refl w.heap.size w)
 have H : (if a2_0 = 1 then (some 0) else (if a2_0 = 2 then (sound_op.j0 k 1 a2_0 (a2_0 == 2) l0_0 a0_1 a1_0 a1_1 l1_2 a2_0 a2_1) else (sound_op.j0 k 1 a2_0 (a2_0 == 3) l0_0 a0_1 a1_0 a1_1 l1_2 a2_0 a2_1))) = some r := h
 clear h
 have HC4 := Aside0.mk H
 clear H
 go_enter Try.func40, Try.ntmps40
 go_upto_block 0 with (first | ((with_reducible refine gate_dst (N := 3) rfl ?_); refine box_event ?hg (N := 3) ?hd (cs := #[.slice A0_0 l0_0.length c0_0, .int .i64 a0_1]) (t := 24) ?hr ?_; (case hd => rfl); (case hg => rfl); (case hr => first | (go_simp; done) | (go_simp; rfl)); intro gb146 hg w5 hbox hb; have n0_ := Aside0.mk (below_step (by repeat (first | (with_reducible first | exact HB.out | apply below_alloc | apply pw_below_drewN | apply below_drew1) | exact HB.out)) hb); have n1_ := Aside0.mk (hbox); have n2_ := Aside0.mk ((by rw [hg]; exact (below_size (by repeat (first | (with_reducible first | exact HB.out | apply below_alloc | apply pw_below_drewN | apply below_drew1) | exact HB.out))) : w.heap.size ≤ gb146)); have n3_ := Aside0.mk ((by rw [hg]; exact (below_size (by repeat (first | (with_reducible first | exact HB.out | apply below_alloc | apply pw_below_drewN | apply below_drew1) | exact HB.out))) : w.heap.size ≤ gb146)); clear HB; have HB := n0_; have BK146 := n1_; have GW146 := n2_; have GE146 := n3_; clear n0_ n1_ n2_ n3_; clear hb hbox hg) | ((with_reducible refine gate_dst (N := 4) rfl ?_); refine box_event ?hg (N := 4) ?hd (cs := #[.int .i64 a1_0, .int .i64 a1_1, .slice A1_2 l1_2.length c1_2]) (t := 29) ?hr ?_; (case hd => rfl); (case hg => rfl); (case hr => first | (go_simp; done) | (go_simp; rfl)); intro gb147 hg w6 hbox hb; have n0_ := Aside0.mk (bb hb BK146.out); have n1_ := Aside0.mk (below_step (by repeat (first | (with_reducible first | exact HB.out | apply below_alloc | apply pw_below_drewN | apply below_drew1 | refine below_set ?_ GE146.out) | exact HB.out)) hb); have n2_ := Aside0.mk (hbox); have n3_ := Aside0.mk ((by rw [hg]; exact (below_size (by repeat (first | (with_reducible first | exact HB.out | apply below_alloc | apply pw_below_drewN | apply below_drew1 | refine below_set ?_ GE146.out) | exact HB.out))) : w.heap.size ≤ gb147)); have n4_ := Aside0.mk ((by rw [hg]; exact (below_size (by repeat (first | (with_reducible first | exact HB.out | apply below_alloc | apply pw_below_drewN | apply below_drew1 | refine below_set ?_ GE146.out) | exact HB.out))) : w.heap.size ≤ gb147)); have n5_ := Aside0.mk (nl hg BK146.out); have n6_ := Aside0.mk (ng hg BK146.out); clear BK146; clear HB; have BK146 := n0_; have HB := n1_; have BK147 := n2_; have GW147 := n3_; have GE147 := n4_; have NB146_147 := n5_; have NB147_146 := n6_; clear n0_ n1_ n2_ n3_ n4_ n5_ n6_; clear hb hbox hg) | ((with_reducible refine gate_dst (N := 5) rfl ?_); refine box_event ?hg (N := 5) ?hd (cs := #[.int .i64 a2_0, .int .i64 a2_1]) (t := 26) ?hr ?_; (case hd => rfl); (case hg => rfl); (case hr => first | (go_simp; done) | (go_simp; rfl)); intro gb148 hg w7 hbox hb; have n0_ := Aside0.mk (bb hb BK146.out); have n1_ := Aside0.mk (bb hb BK147.out); have n2_ := Aside0.mk (below_step (by repeat (first | (with_reducible first | exact HB.out | apply below_alloc | apply pw_below_drewN | apply below_drew1 | refine below_set ?_ GE146.out | refine below_set ?_ GE147.out) | exact HB.out)) hb); have n3_ := Aside0.mk (hbox); have n4_ := Aside0.mk ((by rw [hg]; exact (below_size (by repeat (first | (with_reducible first | exact HB.out | apply below_alloc | apply pw_below_drewN | apply below_drew1 | refine below_set ?_ GE146.out | refine below_set ?_ GE147.out) | exact HB.out))) : w.heap.size ≤ gb148)); have n5_ := Aside0.mk ((by rw [hg]; exact (below_size (by repeat (first | (with_reducible first | exact HB.out | apply below_alloc | apply pw_below_drewN | apply below_drew1 | refine below_set ?_ GE146.out | refine below_set ?_ GE147.out) | exact HB.out))) : w.heap.size ≤ gb148)); have n6_ := Aside0.mk (nl hg BK146.out); have n7_ := Aside0.mk (ng hg BK146.out); have n8_ := Aside0.mk (nl hg BK147.out); have n9_ := Aside0.mk (ng hg BK147.out); clear BK146; clear BK147; clear HB; have BK146 := n0_; have BK147 := n1_; have HB := n2_; have BK148 := n3_; have GW148 := n4_; have GE148 := n5_; have NB146_148 := n6_; have NB148_146 := n7_; have NB147_148 := n8_; have NB148_147 := n9_; clear n0_ n1_ n2_ n3_ n4_ n5_ n6_ n7_ n8_ n9_; clear hb hbox hg; have hnb8 := NB148_146.out; have hnc8 := NB146_148.out; have hnb9 := NB148_147.out; have hnc9 := NB147_148.out; obtain ⟨hcz10_0, hcz10_1⟩ := blk2 BK148.out; obtain ⟨hfz10_0, hfz10_1⟩ := frz2 BK148.out))
 (try simp only [Act.put, zq1, zq2, zq3])
 go_cut [7] (fun v7 wc => ∃ (kq : Nat) (x7_3 : Int), v7 = .int .i64 x7_3 ∧ Aside0 (sound_op.j2 kq x7_3 a2_0 a2_1 = some r) ∧ Aside0 (kq ≤ k) ∧ Aside0 (wc.heap[gb146]? = some (.cells #[(.slice A0_0 l0_0.length c0_0), .int .i64 a0_1] 24 (0, 0))) ∧ Aside0 (wc.heap[gb147]? = some (.cells #[.int .i64 a1_0, .int .i64 a1_1, (.slice A1_2 l1_2.length c1_2)] 29 (0, 0))) ∧ Aside0 (wc.heap[gb148]? = some (.cells #[.int .i64 a2_0, .int .i64 a2_1] 26 (0, 0))) ∧ Aside0 (Below w.heap.size w wc))
 case first =>
  have H := HC4.out
  clear HC4
  by_cases c11 : a2_0 = 1
  ·rw [if_pos c11] at H
   have c11b0 : (a2_0 == 1) = true := beq_iff_eq.mpr c11
   have c11b1 : (a2_0 != 1) = false := bne_eq_false_iff_eq.mpr c11
   clear c11
   (first | rw [c11b0] | (simp only [i64_w, i32_w]; rw [c11b0]) | skip)
   obtain rfl := Option.some.inj H
   go_wp2
   go_ret
   exact ⟨by first | rfl | (simp [errW_none, errW_some] <;> rfl) | (simp [*, errW_none, errW_some] <;> rfl), by repeat (first | (with_reducible first | exact HB.out | apply below_alloc | apply pw_below_drewN | apply below_drew1 | refine below_set ?_ GE146.out | refine below_set ?_ GE147.out | refine below_set ?_ GE148.out) | exact HB.out)⟩
  ·rw [if_neg c11] at H
   have c11b0 : (a2_0 == 1) = false := beq_eq_false_iff_ne.mpr c11
   have c11b1 : (a2_0 != 1) = true := bne_iff_ne.mpr c11
   (first | rw [c11b0] | (simp only [i64_w, i32_w]; rw [c11b0]) | skip)
   have HC12 := Aside0.mk H
   clear H
   go_upto_if 12 with (fail)
   go_cut [12] (fun v12 wc => ∃ (kq : Nat) (x12_11 : Bool), v12 = .bool x12_11 ∧ Aside0 (sound_op.j0 kq 1 a2_0 x12_11 l0_0 a0_1 a1_0 a1_1 l1_2 a2_0 a2_1 = some r) ∧ Aside0 (kq ≤ k) ∧ Aside0 (wc.heap[gb146]? = some (.cells #[(.slice A0_0 l0_0.length c0_0), .int .i64 a0_1] 24 (0, 0))) ∧ Aside0 (wc.heap[gb147]? = some (.cells #[.int .i64 a1_0, .int .i64 a1_1, (.slice A1_2 l1_2.length c1_2)] 29 (0, 0))) ∧ Aside0 (wc.heap[gb148]? = some (.cells #[.int .i64 a2_0, .int .i64 a2_1] 26 (0, 0))) ∧ Aside0 (Below w.heap.size w wc))
   case first =>
    have H := HC12.out
    clear HC12
    by_cases c13 : a2_0 = 2
    ·rw [if_pos c13] at H
     have c13b0 : (a2_0 == 2) = true := beq_iff_eq.mpr c13
     have c13b1 : (a2_0 != 2) = false := bne_eq_false_iff_eq.mpr c13
     clear c13
     (first | rw [c13b0] | (simp only [i64_w, i32_w]; rw [c13b0]) | skip)
     have H' := Aside0.mk H
     clear H
     go_wp2
     go_meet
     case rel => exact ⟨_, ((a2_0 == 2)), (by first | rfl | (simp; done) | (simp [*]; done)), H', ⟨by first | omega | exact Nat.le_refl _⟩, ⟨BK146.out⟩, ⟨BK147.out⟩, ⟨BK148.out⟩, ⟨by repeat (first | (with_reducible first | exact HB.out | apply below_alloc | apply pw_below_drewN | apply below_drew1 | refine below_set ?_ GE146.out | refine below_set ?_ GE147.out | refine below_set ?_ GE148.out) | exact HB.out)⟩⟩
    ·rw [if_neg c13] at H
     have c13b0 : (a2_0 == 2) = false := beq_eq_false_iff_ne.mpr c13
     have c13b1 : (a2_0 != 2) = true := bne_iff_ne.mpr c13
     (first | rw [c13b0] | (simp only [i64_w, i32_w]; rw [c13b0]) | skip)
     have H' := Aside0.mk H
     clear H
     go_wp2
     go_meet
     case rel => exact ⟨_, ((a2_0 == 3)), (by first | rfl | (simp; done) | (simp [*]; done)), H', ⟨by first | omega | exact Nat.le_refl _⟩, ⟨BK146.out⟩, ⟨BK147.out⟩, ⟨BK148.out⟩, ⟨by repeat (first | (with_reducible first | exact HB.out | apply below_alloc | apply pw_below_drewN | apply below_drew1 | refine below_set ?_ GE146.out | refine below_set ?_ GE147.out | refine below_set ?_ GE148.out) | exact HB.out)⟩⟩
   case rest =>
    clear HC12
    try clear c1; try clear p2; try clear c4; try clear c8; try clear c9; try clear c11; try clear c11b0; try clear c11b1
    try clear c13; try clear c13b0; try clear c13b1; try clear hcz10_0; try clear hcz10_1; try clear hfz10_0; try clear hfz10_1
    obtain ⟨kq, x12_11, rfl, HA, HJ11, BK146, BK147, BK148, HB⟩ := hcut
    cases kq with
    | zero => exact absurd HA.out (by simp [sound_op.j0])
    | succ kj11 =>
     have H := HA.out
     clear HA
     simp only [sound_op.j0] at H
     by_cases c14 : x12_11 = true
     ·subst c14
      have H1 : (sound_op.j2 kj11 a1_1 a2_0 a2_1) = some r := by rw [if_pos rfl] at H; exact H
      clear H
      have H := H1
      clear H1
      have H' := Aside0.mk H
      clear H
      have hnb15 := NB147_146.out
      have hnc15 := NB146_147.out
      have hnb16 := NB147_148.out
      have hnc16 := NB148_147.out
      have hcz17_0 : wc.cell? ⟨gb147, 0, none⟩ = some (.int .i64 a1_0) := (blk_cell BK147.out 0).trans rfl
      have hcz17_1 : wc.cell? ⟨gb147, 1, none⟩ = some (.int .i64 a1_1) := (blk_cell BK147.out 1).trans rfl
      have hcz17_2 : wc.cell? ⟨gb147, 2, none⟩ = some (.slice A1_2 l1_2.length c1_2) := (blk_cell BK147.out 2).trans rfl
      have hfz17_0 := blk_frozen BK147.out 0
      have hfz17_1 := blk_frozen BK147.out 1
      have hfz17_2 := blk_frozen BK147.out 2
      go_wp2
      go_meet
      case rel => exact ⟨_, (a1_1), (by first | rfl | (simp; done) | (simp [*]; done)), H', ⟨by have := HJ11.out; first | omega | exact Nat.le_refl _⟩, ⟨BK146.out⟩, ⟨BK147.out⟩, ⟨BK148.out⟩, ⟨by repeat (first | (with_reducible first | exact HB.out | apply below_alloc | apply pw_below_drewN | apply below_drew1 | refine below_set ?_ GE146.out | refine below_set ?_ GE147.out | refine below_set ?_ GE148.out) | exact HB.out)⟩⟩
     ·replace c14 := Bool.eq_false_iff.mpr c14
      subst c14
      have H1 : (if a2_0 = 15 then (sound_op.j1 kj11 1 a2_0 (a2_0 == 15) l0_0 a0_1 a1_0 a1_1 l1_2 a2_0 a2_1) else (sound_op.j1 kj11 1 a2_0 (a2_0 == 16) l0_0 a0_1 a1_0 a1_1 l1_2 a2_0 a2_1)) = some r := by rw [if_neg (show ¬ (false = true) by decide)] at H; exact H
      clear H
      have H := H1
      clear H1
      have HC18 := Aside0.mk H
      clear H
      go_upto_if 17 with (fail)
      go_cut [17] (fun v17 wc => ∃ (kq : Nat) (x17_17 : Bool), v17 = .bool x17_17 ∧ Aside0 (sound_op.j1 kq 1 a2_0 x17_17 l0_0 a0_1 a1_0 a1_1 l1_2 a2_0 a2_1 = some r) ∧ Aside0 (kq ≤ kj11) ∧ Aside0 (wc.heap[gb146]? = some (.cells #[(.slice A0_0 l0_0.length c0_0), .int .i64 a0_1] 24 (0, 0))) ∧ Aside0 (wc.heap[gb147]? = some (.cells #[.int .i64 a1_0, .int .i64 a1_1, (.slice A1_2 l1_2.length c1_2)] 29 (0, 0))) ∧ Aside0 (wc.heap[gb148]? = some (.cells #[.int .i64 a2_0, .int .i64 a2_1] 26 (0, 0))) ∧ Aside0 (Below w.heap.size w wc))
      case first =>
       have H := HC18.out
       clear HC18
       by_cases c19 : a2_0 = 15
       ·rw [if_pos c19] at H
        have c19b0 : (a2_0 == 15) = true := beq_iff_eq.mpr c19
        have c19b1 : (a2_0 != 15) = false := bne_eq_false_iff_eq.mpr c19
        clear c19
        (first | rw [c19b0] | (simp only [i64_w, i32_w]; rw [c19b0]) | skip)
        have H' := Aside0.mk H
        clear H
        go_wp2
        go_meet
        case rel => exact ⟨_, ((a2_0 == 15)), (by first | rfl | (simp; done) | (simp [*]; done)), H', ⟨by have := HJ11.out; first | omega | exact Nat.le_refl _⟩, ⟨BK146.out⟩, ⟨BK147.out⟩, ⟨BK148.out⟩, ⟨by repeat (first | (with_reducible first | exact HB.out | apply below_alloc | apply pw_below_drewN | apply below_drew1 | refine below_set ?_ GE146.out | refine below_set ?_ GE147.out | refine below_set ?_ GE148.out) | exact HB.out)⟩⟩
       ·rw [if_neg c19] at H
        have c19b0 : (a2_0 == 15) = false := beq_eq_false_iff_ne.mpr c19
        have c19b1 : (a2_0 != 15) = true := bne_iff_ne.mpr c19
        (first | rw [c19b0] | (simp only [i64_w, i32_w]; rw [c19b0]) | skip)
        have H' := Aside0.mk H
        clear H
        go_wp2
        go_meet
        case rel => exact ⟨_, ((a2_0 == 16)), (by first | rfl | (simp; done) | (simp [*]; done)), H', ⟨by have := HJ11.out; first | omega | exact Nat.le_refl _⟩, ⟨BK146.out⟩, ⟨BK147.out⟩, ⟨BK148.out⟩, ⟨by repeat (first | (with_reducible first | exact HB.out | apply below_alloc | apply pw_below_drewN | apply below_drew1 | refine below_set ?_ GE146.out | refine below_set ?_ GE147.out | refine below_set ?_ GE148.out) | exact HB.out)⟩⟩
      case rest =>
       clear HC18
       try clear c1; try clear p2; try clear c4; try clear c8; try clear c9; try clear c11; try clear c11b0; try clear c11b1
       try clear c13; try clear c13b0; try clear c13b1; try clear c14; try clear c15; try clear c16; try clear c19; try clear c19b0
       try clear c19b1; try clear hcz10_0; try clear hcz10_1; try clear hcz17_0; try clear hcz17_1; try clear hcz17_2; try clear hfz10_0; try clear hfz10_1
       try clear hfz17_0; try clear hfz17_1; try clear hfz17_2; try clear p2
       obtain ⟨kq, x17_17, rfl, HA, HJ17, BK146, BK147, BK148, HB⟩ := hcut
       cases kq with
       | zero => exact absurd HA.out (by simp [sound_op.j1])
       | succ kj17 =>
        have H := HA.out
        clear HA
        simp only [sound_op.j1] at H
        by_cases c20 : x17_17 = true
        ·subst c20
         have H1 : (sound_op.j2 kj17 (l1_2.length : Int) a2_0 a2_1) = some r := by rw [if_pos rfl] at H; exact H
         clear H
         have H := H1
         clear H1
         have H' := Aside0.mk H
         clear H
         have hnb21 := NB147_146.out
         have hnc21 := NB146_147.out
         have hnb22 := NB147_148.out
         have hnc22 := NB148_147.out
         have hcz23_0 : wc.cell? ⟨gb147, 0, none⟩ = some (.int .i64 a1_0) := (blk_cell BK147.out 0).trans rfl
         have hcz23_1 : wc.cell? ⟨gb147, 1, none⟩ = some (.int .i64 a1_1) := (blk_cell BK147.out 1).trans rfl
         have hcz23_2 : wc.cell? ⟨gb147, 2, none⟩ = some (.slice A1_2 l1_2.length c1_2) := (blk_cell BK147.out 2).trans rfl
         have hfz23_0 := blk_frozen BK147.out 0
         have hfz23_1 := blk_frozen BK147.out 1
         have hfz23_2 := blk_frozen BK147.out 2
         go_wp2
         go_meet
         case rel => exact ⟨_, ((l1_2.length : Int)), (by first | rfl | (simp; done) | (simp [*]; done)), H', ⟨by have := HJ11.out; have := HJ17.out; first | omega | exact Nat.le_refl _⟩, ⟨BK146.out⟩, ⟨BK147.out⟩, ⟨BK148.out⟩, ⟨by repeat (first | (with_reducible first | exact HB.out | apply below_alloc | apply pw_below_drewN | apply below_drew1 | refine below_set ?_ GE146.out | refine below_set ?_ GE147.out | refine below_set ?_ GE148.out) | exact HB.out)⟩⟩
        ·replace c20 := Bool.eq_false_iff.mpr c20
         subst c20
         have H1 : (if a2_0 = 17 then (sound_op.j2 kj17 (l0_0.length : Int) a2_0 a2_1) else (if a2_0 = 20 then (sound_op.j2 kj17 128 a2_0 a2_1) else (sound_op.j2 kj17 1 a2_0 a2_1))) = some r := by rw [if_neg (show ¬ (false = true) by decide)] at H; exact H
         clear H
         have H := H1
         clear H1
         by_cases c24 : a2_0 = 17
         ·rw [if_pos c24] at H
          have c24b0 : (a2_0 == 17) = true := beq_iff_eq.mpr c24
          have c24b1 : (a2_0 != 17) = false := bne_eq_false_iff_eq.mpr c24
          clear c24
          have H' := Aside0.mk H
          clear H
          have hnb25 := NB146_147.out
          have hnc25 := NB147_146.out
          have hnb26 := NB146_148.out
          have hnc26 := NB148_146.out
          obtain ⟨hcz27_0, hcz27_1⟩ := blk2 BK146.out
          obtain ⟨hfz27_0, hfz27_1⟩ := frz2 BK146.out
          go_wp2
          go_meet
          case rel => exact ⟨_, ((l0_0.length : Int)), (by first | rfl | (simp; done) | (simp [*]; done)), H', ⟨by have := HJ11.out; have := HJ17.out; first | omega | exact Nat.le_refl _⟩, ⟨BK146.out⟩, ⟨BK147.out⟩, ⟨BK148.out⟩, ⟨by repeat (first | (with_reducible first | exact HB.out | apply below_alloc | apply pw_below_drewN | apply below_drew1 | refine below_set ?_ GE146.out | refine below_set ?_ GE147.out | refine below_set ?_ GE148.out) | exact HB.out)⟩⟩
         ·rw [if_neg c24] at H
          have c24b0 : (a2_0 == 17) = false := beq_eq_false_iff_ne.mpr c24
          have c24b1 : (a2_0 != 17) = true := bne_iff_ne.mpr c24
          by_cases c28 : a2_0 = 20
          ·rw [if_pos c28] at H
           have c28b0 : (a2_0 == 20) = true := beq_iff_eq.mpr c28
           have c28b1 : (a2_0 != 20) = false := bne_eq_false_iff_eq.mpr c28
           clear c28
           have H' := Aside0.mk H
           clear H
           go_wp2
           go_meet
           case rel => exact ⟨_, (128), (by first | rfl | (simp; done) | (simp [*]; done)), H', ⟨by have := HJ11.out; have := HJ17.out; first | omega | exact Nat.le_refl _⟩, ⟨BK146.out⟩, ⟨BK147.out⟩, ⟨BK148.out⟩, ⟨by repeat (first | (with_reducible first | exact HB.out | apply below_alloc | apply pw_below_drewN | apply below_drew1 | refine below_set ?_ GE146.out | refine below_set ?_ GE147.out | refine below_set ?_ GE148.out) | exact HB.out)⟩⟩
          ·rw [if_neg c28] at H
           have c28b0 : (a2_0 == 20) = false := beq_eq_false_iff_ne.mpr c28
           have c28b1 : (a2_0 != 20) = true := bne_iff_ne.mpr c28
           have H' := Aside0.mk H
           clear H
           go_wp2
           go_meet
           case rel => exact ⟨_, (1), (by first | rfl | (simp; done) | (simp [*]; done)), H', ⟨by have := HJ11.out; have := HJ17.out; first | omega | exact Nat.le_refl _⟩, ⟨BK146.out⟩, ⟨BK147.out⟩, ⟨BK148.out⟩, ⟨by repeat (first | (with_reducible first | exact HB.out | apply below_alloc | apply pw_below_drewN | apply below_drew1 | refine below_set ?_ GE146.out | refine below_set ?_ GE147.out | refine below_set ?_ GE148.out) | exact HB.out)⟩⟩
 case rest =>
  clear HC4
  try clear c1; try clear c2; try clear p2; try clear c4; try clear c8; try clear c9; try clear c11; try clear c11b0
  try clear c11b1; try clear c13; try clear c13b0; try clear c13b1; try clear c14; try clear c15; try clear c16; try clear c19
  try clear c19b0; try clear c19b1; try clear c20; try clear c21; try clear c22; try clear c24; try clear c24b0; try clear c24b1
  try clear c25; try clear c26; try clear c28; try clear c28b0; try clear c28b1; try clear hcz10_0; try clear hcz10_1; try clear hcz17_0
  try clear hcz17_1; try clear hcz17_2; try clear hcz23_0; try clear hcz23_1; try clear hcz23_2; try clear hcz27_0; try clear hcz27_1; try clear hfz10_0
  try clear hfz10_1; try clear hfz17_0; try clear hfz17_1; try clear hfz17_2; try clear hfz23_0; try clear hfz23_1; try clear hfz23_2; try clear hfz27_0
  try clear hfz27_1; try clear p2
  obtain ⟨kq, x7_3, rfl, HA, HJ3, BK146, BK147, BK148, HB⟩ := hcut
  cases kq with
  | zero => exact absurd HA.out (by simp [sound_op.j2])
  | succ kj3 =>
   have H := HA.out
   clear HA
   simp only [sound_op.j2] at H
   have HC29 := Aside0.mk H
   clear H
   go_upto_region 15 with (fail)
   go_cut [37] (fun v37 wc => ∃ (kq : Nat) (x37_28 : Bool), v37 = .bool x37_28 ∧ Aside0 (sound_op.j3 kq x7_3 x37_28 a2_0 a2_1 = some r) ∧ Aside0 (kq ≤ kj3) ∧ Aside0 (wc.heap[gb146]? = some (.cells #[(.slice A0_0 l0_0.length c0_0), .int .i64 a0_1] 24 (0, 0))) ∧ Aside0 (wc.heap[gb147]? = some (.cells #[.int .i64 a1_0, .int .i64 a1_1, (.slice A1_2 l1_2.length c1_2)] 29 (0, 0))) ∧ Aside0 (wc.heap[gb148]? = some (.cells #[.int .i64 a2_0, .int .i64 a2_1] 26 (0, 0))) ∧ Aside0 (Below w.heap.size w wc))
   case first =>
    have H := HC29.out
    clear HC29
    by_cases c30 : a2_0 < 1
    ·rw [if_pos c30] at H
     have c30b0 : decide (a2_0 < 1) = true := decide_eq_true c30
     clear c30
     (first | rw [c30b0] | (simp only [i64_w, i32_w]; rw [c30b0]) | skip)
     have H' := Aside0.mk H
     clear H
     have hnb31 := NB148_146.out
     have hnc31 := NB146_148.out
     have hnb32 := NB148_147.out
     have hnc32 := NB147_148.out
     obtain ⟨hcz33_0, hcz33_1⟩ := blk2 BK148.out
     obtain ⟨hfz33_0, hfz33_1⟩ := frz2 BK148.out
     go_wp2
     go_meet
     case rel => exact ⟨_, (true), (by first | rfl | (simp; done) | (simp [*]; done)), H', ⟨by have := HJ3.out; first | omega | exact Nat.le_refl _⟩, ⟨BK146.out⟩, ⟨BK147.out⟩, ⟨BK148.out⟩, ⟨by repeat (first | (with_reducible first | exact HB.out | apply below_alloc | apply pw_below_drewN | apply below_drew1 | refine below_set ?_ GE146.out | refine below_set ?_ GE147.out | refine below_set ?_ GE148.out) | exact HB.out)⟩⟩
    ·rw [if_neg c30] at H
     have c30b0 : decide (a2_0 < 1) = false := decide_eq_false c30
     clear c30
     (first | rw [c30b0] | (simp only [i64_w, i32_w]; rw [c30b0]) | skip)
     have H' := Aside0.mk H
     clear H
     have hnb34 := NB148_146.out
     have hnc34 := NB146_148.out
     have hnb35 := NB148_147.out
     have hnc35 := NB147_148.out
     obtain ⟨hcz36_0, hcz36_1⟩ := blk2 BK148.out
     obtain ⟨hfz36_0, hfz36_1⟩ := frz2 BK148.out
     go_wp2
     go_meet
     case rel => exact ⟨_, (decide (a2_0 > 20)), (by first | rfl | (simp; done) | (simp [*]; done)), H', ⟨by have := HJ3.out; first | omega | exact Nat.le_refl _⟩, ⟨BK146.out⟩, ⟨BK147.out⟩, ⟨BK148.out⟩, ⟨by repeat (first | (with_reducible first | exact HB.out | apply below_alloc | apply pw_below_drewN | apply below_drew1 | refine below_set ?_ GE146.out | refine below_set ?_ GE147.out | refine below_set ?_ GE148.out) | exact HB.out)⟩⟩
   case rest =>
    clear HC29
    try clear c1; try clear c2; try clear p2; try clear c3; try clear c4; try clear c8; try clear c9; try clear c11
    try clear c11b0; try clear c11b1; try clear c13; try clear c13b0; try clear c13b1; try clear c14; try clear c15; try clear c16
    try clear c19; try clear c19b0; try clear c19b1; try clear c20; try clear c21; try clear c22; try clear c24; try clear c24b0
    try clear c24b1; try clear c25; try clear c26; try clear c28; try clear c28b0; try clear c28b1; try clear c30; try clear c30b0
    try clear c31; try clear c32; try clear c34; try clear c35; try clear hcz10_0; try clear hcz10_1; try clear hcz17_0; try clear hcz17_1
    try clear hcz17_2; try clear hcz23_0; try clear hcz23_1; try clear hcz23_2; try clear hcz27_0; try clear hcz27_1; try clear hcz33_0; try clear hcz33_1
    try clear hcz36_0; try clear hcz36_1; try clear hfz10_0; try clear hfz10_1; try clear hfz17_0; try clear hfz17_1; try clear hfz17_2; try clear hfz23_0
    try clear hfz23_1; try clear hfz23_2; try clear hfz27_0; try clear hfz27_1; try clear hfz33_0; try clear hfz33_1; try clear hfz36_0; try clear hfz36_1
    try clear p2
    obtain ⟨kq, x37_28, rfl, HA, HJ28, BK146, BK147, BK148, HB⟩ := hcut
    cases kq with
    | zero => exact absurd HA.out (by simp [sound_op.j3])
    | succ kj28 =>
     have H := HA.out
     clear HA
     simp only [sound_op.j3] at H
     by_cases c37 : x37_28 = true
     ·subst c37
      have H1 : (some 3) = some r := by rw [if_pos rfl] at H; exact H
      clear H
      have H := H1
      clear H1
      obtain rfl := Option.some.inj H
      go_wp2
      go_ret
      exact ⟨by first | rfl | (simp [errW_none, errW_some] <;> rfl) | (simp [*, errW_none, errW_some] <;> rfl), by repeat (first | (with_reducible first | exact HB.out | apply below_alloc | apply pw_below_drewN | apply below_drew1 | refine below_set ?_ GE146.out | refine below_set ?_ GE147.out | refine below_set ?_ GE148.out) | exact HB.out)⟩
     ·replace c37 := Bool.eq_false_iff.mpr c37
      subst c37
      have H1 : (if a2_1 < 0 then (some 1) else (if a2_1 ≥ x7_3 then (some 1) else (if a2_0 = 20 then (if (Int.tmod a2_1 8) > 6 then (some 1) else (some 0)) else (some 0)))) = some r := by rw [if_neg (show ¬ (false = true) by decide)] at H; exact H
      clear H
      have H := H1
      clear H1
      by_cases c38 : a2_1 < 0
      ·rw [if_pos c38] at H
       have c38b0 : decide (a2_1 < 0) = true := decide_eq_true c38
       clear c38
       obtain rfl := Option.some.inj H
       have hnb39 := NB148_146.out
       have hnc39 := NB146_148.out
       have hnb40 := NB148_147.out
       have hnc40 := NB147_148.out
       obtain ⟨hcz41_0, hcz41_1⟩ := blk2 BK148.out
       obtain ⟨hfz41_0, hfz41_1⟩ := frz2 BK148.out
       go_wp2
       go_ret
       exact ⟨by first | rfl | (simp [errW_none, errW_some] <;> rfl) | (simp [*, errW_none, errW_some] <;> rfl), by repeat (first | (with_reducible first | exact HB.out | apply below_alloc | apply pw_below_drewN | apply below_drew1 | refine below_set ?_ GE146.out | refine below_set ?_ GE147.out | refine below_set ?_ GE148.out) | exact HB.out)⟩
      ·rw [if_neg c38] at H
       have c38b0 : decide (a2_1 < 0) = false := decide_eq_false c38
       clear c38
       by_cases c42 : a2_1 ≥ x7_3
       ·rw [if_pos c42] at H
        have c42b0 : decide (x7_3 ≤ a2_1) = true := decide_eq_true c42
        clear c42
        obtain rfl := Option.some.inj H
        have hnb43 := NB148_146.out
        have hnc43 := NB146_148.out
        have hnb44 := NB148_147.out
        have hnc44 := NB147_148.out
        obtain ⟨hcz45_0, hcz45_1⟩ := blk2 BK148.out
        obtain ⟨hfz45_0, hfz45_1⟩ := frz2 BK148.out
        go_wp2
        go_ret
        exact ⟨by first | rfl | (simp [errW_none, errW_some] <;> rfl) | (simp [*, errW_none, errW_some] <;> rfl), by repeat (first | (with_reducible first | exact HB.out | apply below_alloc | apply pw_below_drewN | apply below_drew1 | refine below_set ?_ GE146.out | refine below_set ?_ GE147.out | refine below_set ?_ GE148.out) | exact HB.out)⟩
       ·rw [if_neg c42] at H
        have c42b0 : decide (x7_3 ≤ a2_1) = false := decide_eq_false c42
        clear c42
        by_cases c46 : a2_0 = 20
        ·rw [if_pos c46] at H
         have c46b0 : (a2_0 == 20) = true := beq_iff_eq.mpr c46
         have c46b1 : (a2_0 != 20) = false := bne_eq_false_iff_eq.mpr c46
         clear c46
         by_cases c47 : (Int.tmod a2_1 8) > 6
         ·rw [if_pos c47] at H
          have c47b0 : decide (6 < (Int.tmod a2_1 8)) = true := decide_eq_true c47
          clear c47
          obtain rfl := Option.some.inj H
          have hnb48 := NB148_146.out
          have hnc48 := NB146_148.out
          have hnb49 := NB148_147.out
          have hnc49 := NB147_148.out
          obtain ⟨hcz50_0, hcz50_1⟩ := blk2 BK148.out
          obtain ⟨hfz50_0, hfz50_1⟩ := frz2 BK148.out
          go_wp2
          go_ret
          exact ⟨by first | rfl | (simp [errW_none, errW_some] <;> rfl) | (simp [*, errW_none, errW_some] <;> rfl), by repeat (first | (with_reducible first | exact HB.out | apply below_alloc | apply pw_below_drewN | apply below_drew1 | refine below_set ?_ GE146.out | refine below_set ?_ GE147.out | refine below_set ?_ GE148.out) | exact HB.out)⟩
         ·rw [if_neg c47] at H
          have c47b0 : decide (6 < (Int.tmod a2_1 8)) = false := decide_eq_false c47
          clear c47
          obtain rfl := Option.some.inj H
          have hnb51 := NB148_146.out
          have hnc51 := NB146_148.out
          have hnb52 := NB148_147.out
          have hnc52 := NB147_148.out
          obtain ⟨hcz53_0, hcz53_1⟩ := blk2 BK148.out
          obtain ⟨hfz53_0, hfz53_1⟩ := frz2 BK148.out
          go_wp2
          go_ret
          exact ⟨by first | rfl | (simp [errW_none, errW_some] <;> rfl) | (simp [*, errW_none, errW_some] <;> rfl), by repeat (first | (with_reducible first | exact HB.out | apply below_alloc | apply pw_below_drewN | apply below_drew1 | refine below_set ?_ GE146.out | refine below_set ?_ GE147.out | refine below_set ?_ GE148.out) | exact HB.out)⟩
        ·rw [if_neg c46] at H
         have c46b0 : (a2_0 == 20) = false := beq_eq_false_iff_ne.mpr c46
         have c46b1 : (a2_0 != 20) = true := bne_iff_ne.mpr c46
         obtain rfl := Option.some.inj H
         have hnb54 := NB148_146.out
         have hnc54 := NB146_148.out
         have hnb55 := NB148_147.out
         have hnc55 := NB147_148.out
         obtain ⟨hcz56_0, hcz56_1⟩ := blk2 BK148.out
         obtain ⟨hfz56_0, hfz56_1⟩ := frz2 BK148.out
         go_wp2
         go_ret
         exact ⟨by first | rfl | (simp [errW_none, errW_some] <;> rfl) | (simp [*, errW_none, errW_some] <;> rfl), by repeat (first | (with_reducible first | exact HB.out | apply below_alloc | apply pw_below_drewN | apply below_drew1 | refine below_set ?_ GE146.out | refine below_set ?_ GE147.out | refine below_set ?_ GE148.out) | exact HB.out)⟩

end Go.Proofs.Ytkoopdoeehoigaa.PSoundTells
