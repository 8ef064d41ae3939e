-- Printed by a program: the print with changes of this session (wip/printpatch.py).
import Derived.Test.YtmpfboilodlfnaaPFlowMadex0
import Derived.Test.YtmpfboilodlfnaaPFlowMadex5
import Derived.Test.YtmpfboilodlfnaaPFlowMadex6
namespace Go.Proofs.Ytmpfboilodlfnaa.PFlowMade
open Go.Proofs.Ytmpfboilodlfnaa.Fnv Go.Proofs.Ytmpfboilodlfnaa.Ary
open Go.RowKit Go.Proofs.YtmpfboilodlfnaaW.PrintWords Go.Proofs.YtmpfboilodlfnaaW.PrintLast Go.Proofs.YtmpfboilodlfnaaW.PrintMore
attribute [local go_sem] max2_int min2_int max_two min_two max_three min_three max_four min_four   -- for this text's walks alone
set_option linter.unusedVariables false
set_option linter.unusedSimpArgs false

/-! ### tourref5_Costs: function 23 -/
mutual
def tourref5_Costs.l0 : Nat → List Int → List Int → Int → Int → Int → Int → List Int → Option (List Int)
 | 0, _, _, _, _, _, _, _ => none
 | k + 1, x5, x17, x18, x19, x150000, x150001, x150002 => if x19 < x18 then (if 0 ≤ x19 then (if x19 < (x17.length : Int) then (if 0 ≤ (rd x17 x19) then (if (rd x17 x19) < (x150002.length : Int) then (if (rd x150002 (rd x17 x19)) > 0 then (if (rd x17 x19) < (x5.length : Int) then (tourref5_Costs.l0 k (x5.set ((rd x17 x19) : Int).toNat 0) x17 x18 (wrap64 (x19 + 1)) x150000 x150001 x150002) else (none)) else (tourref5_Costs.l0 k x5 x17 x18 (wrap64 (x19 + 1)) x150000 x150001 x150002)) else (none)) else (none)) else (none)) else (none)) else (tourref5_Costs.l1 k x5 true x150000 x150001 x150002)
def tourref5_Costs.l1 : Nat → List Int → Bool → Int → Int → List Int → Option (List Int)
 | 0, _, _, _, _, _ => none
 | k + 1, x5, x8, x150000, x150001, x150002 => if x8 = true then (tourref5_Costs.l2 k x5 false (x5.length : Int) 0 x150000 x150001 x150002) else (some x5)
def tourref5_Costs.l2 : Nat → List Int → Bool → Int → Int → Int → Int → List Int → Option (List Int)
 | 0, _, _, _, _, _, _, _ => none
 | k + 1, x5, x8, x35, x36, x150000, x150001, x150002 => if x36 < x35 then (tourref5_Costs.l3 k x5 x8 x36 1 x35 x36 x150000 x150001 x150002) else (tourref5_Costs.l1 k x5 x8 x150000 x150001 x150002)
def tourref5_Costs.l3 : Nat → List Int → Bool → Int → Int → Int → Int → Int → Int → List Int → Option (List Int)
 | 0, _, _, _, _, _, _, _, _, _ => none
 | k + 1, x5, x8, x9, x10, x35, x36, x150000, x150001, x150002 => if x10 ≤ 4 then (if 0 ≤ x9 then (if x9 < (x150002.length : Int) then (tourref5_Costs.j4 k x5 x8 x9 x10 x35 x36 (decide ((rd x150002 x9) > 0)) x150000 x150001 x150002) else (none)) else (none)) else (tourref5_Costs.j4 k x5 x8 x9 x10 x35 x36 false x150000 x150001 x150002)
def tourref5_Costs.j4 : Nat → List Int → Bool → Int → Int → Int → Int → Bool → Int → Int → List Int → Option (List Int)
 | 0, _, _, _, _, _, _, _, _, _, _ => none
 | k + 1, x5, x8, x9, x10, x35, x36, x48, x150000, x150001, x150002 => if x48 = true then ((tourref5_Beyond.f k x150000 x150001 x150002 x9 x10).bind fun t160 => (if t160 ≥ 0 then (if 0 ≤ t160 then (if t160 < (x5.length : Int) then (if (rd x5 t160) ≥ 0 then (if 0 ≤ x9 then (if x9 < (x5.length : Int) then (if (rd x5 x9) < 0 then (if t160 < (x150002.length : Int) then (tourref5_Costs.l3 k (x5.set (x9 : Int).toNat (wrap64 ((rd x5 t160) + (rd x150002 t160)))) true x9 (wrap64 (x10 + 1)) x35 x36 x150000 x150001 x150002) else (none)) else (if t160 < (x150002.length : Int) then (if (wrap64 ((rd x5 t160) + (rd x150002 t160))) < (rd x5 x9) then (tourref5_Costs.l3 k (x5.set (x9 : Int).toNat (wrap64 ((rd x5 t160) + (rd x150002 t160)))) true x9 (wrap64 (x10 + 1)) x35 x36 x150000 x150001 x150002) else (tourref5_Costs.l3 k x5 x8 x9 (wrap64 (x10 + 1)) x35 x36 x150000 x150001 x150002)) else (none))) else (none)) else (none)) else (tourref5_Costs.l3 k x5 x8 x9 (wrap64 (x10 + 1)) x35 x36 x150000 x150001 x150002)) else (none)) else (none)) else (tourref5_Costs.l3 k x5 x8 x9 (wrap64 (x10 + 1)) x35 x36 x150000 x150001 x150002))) else (tourref5_Costs.l2 k x5 x8 x35 (wrap64 (x36 + 1)) x150000 x150001 x150002)
end
def tourref5_Costs.f (k : Nat) (a0_0 : Int) (a0_1 : Int) (l0_2 : List Int) (l1 : List Int) : Option (List Int) := (slices_Repeat_int_int.f (([(-1)] : List Int)) (l0_2.length : Int)).bind fun t153 => (tourref5_Costs.l0 k t153 l1 (l1.length : Int) 0 a0_0 a0_1 l0_2)
theorem tourref5_Costs.mono_l : ∀ k, (∀ y0 y1 y2 y3 y4 y5 y6, LeO (tourref5_Costs.l0 k y0 y1 y2 y3 y4 y5 y6) (tourref5_Costs.l0 (k + 1) y0 y1 y2 y3 y4 y5 y6)) ∧ (∀ y0 y1 y2 y3 y4, LeO (tourref5_Costs.l1 k y0 y1 y2 y3 y4) (tourref5_Costs.l1 (k + 1) y0 y1 y2 y3 y4)) ∧ (∀ y0 y1 y2 y3 y4 y5 y6, LeO (tourref5_Costs.l2 k y0 y1 y2 y3 y4 y5 y6) (tourref5_Costs.l2 (k + 1) y0 y1 y2 y3 y4 y5 y6)) ∧ (∀ y0 y1 y2 y3 y4 y5 y6 y7 y8, LeO (tourref5_Costs.l3 k y0 y1 y2 y3 y4 y5 y6 y7 y8) (tourref5_Costs.l3 (k + 1) y0 y1 y2 y3 y4 y5 y6 y7 y8)) ∧ (∀ y0 y1 y2 y3 y4 y5 y6 y7 y8 y9, LeO (tourref5_Costs.j4 k y0 y1 y2 y3 y4 y5 y6 y7 y8 y9) (tourref5_Costs.j4 (k + 1) y0 y1 y2 y3 y4 y5 y6 y7 y8 y9))
 | 0 => ⟨fun _ _ _ _ _ _ _ r h => by simp [tourref5_Costs.l0] at h, fun _ _ _ _ _ r h => by simp [tourref5_Costs.l1] at h, fun _ _ _ _ _ _ _ r h => by simp [tourref5_Costs.l2] at h, fun _ _ _ _ _ _ _ _ _ r h => by simp [tourref5_Costs.l3] at h, fun _ _ _ _ _ _ _ _ _ _ r h => by simp [tourref5_Costs.j4] at h⟩
 | k + 1 => by
  obtain ⟨ih0, ih1, ih2, ih3, ih4⟩ := tourref5_Costs.mono_l k
  refine ⟨?_, ?_, ?_, ?_, ?_⟩
  ·intro y0 y1 y2 y3 y4 y5 y6
   unfold tourref5_Costs.l0
   repeat' first
   | (with_reducible exact ih0 _ _ _ _ _ _ _)
   | (with_reducible exact ih1 _ _ _ _ _)
   | (with_reducible exact ih2 _ _ _ _ _ _ _)
   | (with_reducible exact ih3 _ _ _ _ _ _ _ _ _)
   | (with_reducible exact ih4 _ _ _ _ _ _ _ _ _ _)
   | (with_reducible exact tourref5_Beyond.mono _ _ _ _ _ _)
   | (with_reducible exact LeO.refl _)
   | (with_reducible exact LeO.none _)
   | (with_reducible refine LeO.ite ?_ ?_)
   | (with_reducible refine LeO.bind ?_ (fun _ => ?_))
   | exact ih0 _ _ _ _ _ _ _
   | exact ih1 _ _ _ _ _
   | exact ih2 _ _ _ _ _ _ _
   | exact ih3 _ _ _ _ _ _ _ _ _
   | exact ih4 _ _ _ _ _ _ _ _ _ _
   | exact tourref5_Beyond.mono _ _ _ _ _ _
   | exact LeO.none _
   | refine LeO.ite ?_ ?_
   | refine LeO.bind ?_ (fun _ => ?_)
  ·intro y0 y1 y2 y3 y4
   unfold tourref5_Costs.l1
   repeat' first
   | (with_reducible exact ih0 _ _ _ _ _ _ _)
   | (with_reducible exact ih1 _ _ _ _ _)
   | (with_reducible exact ih2 _ _ _ _ _ _ _)
   | (with_reducible exact ih3 _ _ _ _ _ _ _ _ _)
   | (with_reducible exact ih4 _ _ _ _ _ _ _ _ _ _)
   | (with_reducible exact tourref5_Beyond.mono _ _ _ _ _ _)
   | (with_reducible exact LeO.refl _)
   | (with_reducible exact LeO.none _)
   | (with_reducible refine LeO.ite ?_ ?_)
   | (with_reducible refine LeO.bind ?_ (fun _ => ?_))
   | exact ih0 _ _ _ _ _ _ _
   | exact ih1 _ _ _ _ _
   | exact ih2 _ _ _ _ _ _ _
   | exact ih3 _ _ _ _ _ _ _ _ _
   | exact ih4 _ _ _ _ _ _ _ _ _ _
   | exact tourref5_Beyond.mono _ _ _ _ _ _
   | exact LeO.none _
   | refine LeO.ite ?_ ?_
   | refine LeO.bind ?_ (fun _ => ?_)
  ·intro y0 y1 y2 y3 y4 y5 y6
   unfold tourref5_Costs.l2
   repeat' first
   | (with_reducible exact ih0 _ _ _ _ _ _ _)
   | (with_reducible exact ih1 _ _ _ _ _)
   | (with_reducible exact ih2 _ _ _ _ _ _ _)
   | (with_reducible exact ih3 _ _ _ _ _ _ _ _ _)
   | (with_reducible exact ih4 _ _ _ _ _ _ _ _ _ _)
   | (with_reducible exact tourref5_Beyond.mono _ _ _ _ _ _)
   | (with_reducible exact LeO.refl _)
   | (with_reducible exact LeO.none _)
   | (with_reducible refine LeO.ite ?_ ?_)
   | (with_reducible refine LeO.bind ?_ (fun _ => ?_))
   | exact ih0 _ _ _ _ _ _ _
   | exact ih1 _ _ _ _ _
   | exact ih2 _ _ _ _ _ _ _
   | exact ih3 _ _ _ _ _ _ _ _ _
   | exact ih4 _ _ _ _ _ _ _ _ _ _
   | exact tourref5_Beyond.mono _ _ _ _ _ _
   | exact LeO.none _
   | refine LeO.ite ?_ ?_
   | refine LeO.bind ?_ (fun _ => ?_)
  ·intro y0 y1 y2 y3 y4 y5 y6 y7 y8
   unfold tourref5_Costs.l3
   repeat' first
   | (with_reducible exact ih0 _ _ _ _ _ _ _)
   | (with_reducible exact ih1 _ _ _ _ _)
   | (with_reducible exact ih2 _ _ _ _ _ _ _)
   | (with_reducible exact ih3 _ _ _ _ _ _ _ _ _)
   | (with_reducible exact ih4 _ _ _ _ _ _ _ _ _ _)
   | (with_reducible exact tourref5_Beyond.mono _ _ _ _ _ _)
   | (with_reducible exact LeO.refl _)
   | (with_reducible exact LeO.none _)
   | (with_reducible refine LeO.ite ?_ ?_)
   | (with_reducible refine LeO.bind ?_ (fun _ => ?_))
   | exact ih0 _ _ _ _ _ _ _
   | exact ih1 _ _ _ _ _
   | exact ih2 _ _ _ _ _ _ _
   | exact ih3 _ _ _ _ _ _ _ _ _
   | exact ih4 _ _ _ _ _ _ _ _ _ _
   | exact tourref5_Beyond.mono _ _ _ _ _ _
   | exact LeO.none _
   | refine LeO.ite ?_ ?_
   | refine LeO.bind ?_ (fun _ => ?_)
  ·intro y0 y1 y2 y3 y4 y5 y6 y7 y8 y9
   unfold tourref5_Costs.j4
   repeat' first
   | (with_reducible exact ih0 _ _ _ _ _ _ _)
   | (with_reducible exact ih1 _ _ _ _ _)
   | (with_reducible exact ih2 _ _ _ _ _ _ _)
   | (with_reducible exact ih3 _ _ _ _ _ _ _ _ _)
   | (with_reducible exact ih4 _ _ _ _ _ _ _ _ _ _)
   | (with_reducible exact tourref5_Beyond.mono _ _ _ _ _ _)
   | (with_reducible exact LeO.refl _)
   | (with_reducible exact LeO.none _)
   | (with_reducible refine LeO.ite ?_ ?_)
   | (with_reducible refine LeO.bind ?_ (fun _ => ?_))
   | exact ih0 _ _ _ _ _ _ _
   | exact ih1 _ _ _ _ _
   | exact ih2 _ _ _ _ _ _ _
   | exact ih3 _ _ _ _ _ _ _ _ _
   | exact ih4 _ _ _ _ _ _ _ _ _ _
   | exact tourref5_Beyond.mono _ _ _ _ _ _
   | exact LeO.none _
   | refine LeO.ite ?_ ?_
   | refine LeO.bind ?_ (fun _ => ?_)
theorem tourref5_Costs.mono : ∀ a0 a1 a2 a3 k, LeO (tourref5_Costs.f k a0 a1 a2 a3) (tourref5_Costs.f (k + 1) a0 a1 a2 a3) := by
 intro a0 a1 a2 a3 k
 obtain ⟨ih0, ih1, ih2, ih3, ih4⟩ := tourref5_Costs.mono_l k
 unfold tourref5_Costs.f
 repeat' first
   | (with_reducible exact ih0 _ _ _ _ _ _ _)
   | (with_reducible exact ih1 _ _ _ _ _)
   | (with_reducible exact ih2 _ _ _ _ _ _ _)
   | (with_reducible exact ih3 _ _ _ _ _ _ _ _ _)
   | (with_reducible exact ih4 _ _ _ _ _ _ _ _ _ _)
   | (with_reducible exact tourref5_Beyond.mono _ _ _ _ _ _)
   | (with_reducible exact LeO.refl _)
   | (with_reducible exact LeO.none _)
   | (with_reducible refine LeO.ite ?_ ?_)
   | (with_reducible refine LeO.bind ?_ (fun _ => ?_))
   | exact ih0 _ _ _ _ _ _ _
   | exact ih1 _ _ _ _ _
   | exact ih2 _ _ _ _ _ _ _
   | exact ih3 _ _ _ _ _ _ _ _ _
   | exact ih4 _ _ _ _ _ _ _ _ _ _
   | exact tourref5_Beyond.mono _ _ _ _ _ _
   | exact LeO.none _
   | refine LeO.ite ?_ ?_
   | refine LeO.bind ?_ (fun _ => ?_)
def tourref5_Costs.T18 : Bool × List (List Nat × List Nat) := (true, [([], []), ([0], [0]), ([1], [1]), ([2], [2]), ([2], [2]), ([3, 4, 2], [2, 3, 4]), ([5, 2], [2, 5]), ([6, 2], [2, 6]), ([2, 7], [2, 7]), ([8, 2], [8]), ([9], [9]), ([9], [9]), ([10, 11, 9], [9, 10, 11]), ([12, 9], [9, 12]), ([13, 9], [9, 13]), ([14, 9, 9], [9, 14]), ([15], [15]), ([15], [15]), ([16, 17, 15], [15, 16, 17]), ([18, 15], [15, 18]), ([15], [15]), ([20, 15], [15, 20]), ([15], [15]), ([21, 22, 15], [15, 21, 22]), ([23, 15], [15, 23]), ([19, 24, 15], [15, 19, 24]), ([15], [15]), ([15], [15]), ([26, 27, 15], [15, 26, 27]), ([28, 15], [15, 28]), ([25, 29, 15], [15, 25, 29]), ([15, 30, 9], [9, 15, 30]), ([9, 31], [9, 31])])
def tourref5_Costs.B18 : List Nat := [0, 1, 3, 7, 7, 31, 63, 127, 255, 511, 1023, 1023, 4095, 8191, 16383, 32767, 65535, 65535, 262143, 524287, 65535, 1114111, 65535, 7405567, 15794175, 33554431, 65535, 65535, 201392127, 469827583, 1073741823, 2147483647, 4294967295]
theorem tourref5_Costs.tab18 : rtab .any (opsOf Try.f23 18) = tourref5_Costs.T18 := by kernel_rfl
theorem tourref5_Costs.bits18 : waitsOk tourref5_Costs.T18.2 tourref5_Costs.B18 = true := by kernel_rfl
def tourref5_Costs.T19 : Bool × List (List Nat × List Nat) := (true, [([], []), ([], []), ([], []), ([], []), ([2, 3], [2, 3]), ([4], [4]), ([], []), ([6], [6]), ([], []), ([7, 8], [7, 8]), ([9], [9]), ([5, 10], [5, 10]), ([0, 1, 0, 1, 2, 3, 4, 5, 6, 7, 8, 9, 10, 11], [0, 1]), ([12, 11, 0, 1, 2, 3, 4, 5, 6, 7, 8, 9, 10, 11], [11, 12]), ([13, 0, 1, 2, 3, 4, 5, 6, 7, 8, 9, 10, 11, 12, 13], [])])
def tourref5_Costs.B19 : List Nat := [0, 0, 0, 0, 12, 28, 0, 64, 0, 448, 960, 2044, 4095, 8191, 16383]
theorem tourref5_Costs.tab19 : rtab .any (opsOf Try.f23 19) = tourref5_Costs.T19 := by kernel_rfl
theorem tourref5_Costs.bits19 : waitsOk tourref5_Costs.T19.2 tourref5_Costs.B19 = true := by kernel_rfl
set_option maxHeartbeats 8000000 in
set_option maxRecDepth 100000 in
theorem tourref5_Costs.calls (k : Nat) (a0_0 : Int) (a0_1 : Int) (A0_2 : Option Addr) (c0_2 : Nat) (l0_2 : List Int) (A1 : Option Addr) (c1 : Nat) (l1 : List Int) (r : List Int) (w : World) (hr0_2 : Kd.C (Kd.int .i64) w A0_2 l0_2.length l0_2) (hc0_2 : l0_2.length ≤ c0_2) (hr1 : Kd.C (Kd.int .i64) w A1 l1.length l1) (hc1 : l1.length ≤ c1) (h : tourref5_Costs.f k a0_0 a0_1 l0_2 l1 = some r) :
  Calls Try.prog 23 #[.agg #[.int .i64 a0_0, .int .i64 a0_1, .slice A0_2 l0_2.length c0_2], .slice A1 l1.length c1] w fun e w' => ∃ v0_ : Value, e = .returned (v0_) ∧ Kd.R (Kd.int .i64) 3 w' w.heap.size (fun _ => True) v0_ r ∧ Below w.heap.size w w' := by
 have hu25 := Try.underlying25
 have HR0_2 := Aside0.mk hr0_2
 have HC0_2 := Aside0.mk hc0_2
 clear hr0_2 hc0_2
 have HR1 := Aside0.mk hr1
 have HC1 := Aside0.mk hc1
 clear hr1 hc1
 have HB := Aside0.mk (Below.refl w.heap.size w)
 have H : ((slices_Repeat_int_int.f (([(-1)] : List Int)) (l0_2.length : Int)).bind fun t153 => (tourref5_Costs.l0 k t153 l1 (l1.length : Int) 0 a0_0 a0_1 l0_2)) = some r := h
 clear h
 obtain ⟨y150, hy150⟩ : ∃ y_ : List Int, y_ = (([(-1)] : List Int)) := ⟨_, rfl⟩
 replace H : ((slices_Repeat_int_int.f y150 (l0_2.length : Int)).bind fun t153 => (tourref5_Costs.l0 k t153 l1 (l1.length : Int) 0 a0_0 a0_1 l0_2)) = some r := by first | (rw [hy150]; with_reducible exact H) | (have H2_ := (Option.bind_some _ _).symm.trans H; rw [hy150]; with_reducible exact H2_) | (have H2_ := (Option.bind_some _ _).symm.trans H; with_reducible exact H2_) | with_reducible exact H | (rw [hy150]; exact H) | exact H
 have Ny150 := Aside0.mk hy150
 clear hy150
 replace H := Option.bind_eq_some_iff.mp H
 obtain ⟨t153, A30, H⟩ := H
 replace H : (tourref5_Costs.l0 k t153 l1 (l1.length : Int) 0 a0_0 a0_1 l0_2) = some r := H
 have A3 := Aside0.mk A30
 clear A30
 have H' := Aside0.mk H
 clear H
 go_enter Try.func23, Try.ntmps23
 go_wp2_with (first | ((with_reducible refine gate_dst (N := 2) rfl ?_); refine box_event ?hg (N := 2) ?hd (cs := #[.int .i64 a0_0, .int .i64 a0_1, .slice A0_2 l0_2.length c0_2]) (t := 25) ?hr ?_; (case hd => rfl); (case hg => rfl); (case hr => first | (go_simp; done) | (go_simp; rfl)); intro gb149 hg w4 hbox hb; have n0_ := Aside0.mk (below_step (by repeat (first | (with_reducible first | exact HB.out | apply below_alloc | apply pw_below_drewN | apply below_drew1) | exact HB.out)) hb); have n1_ := Aside0.mk (hbox); have n2_ := Aside0.mk ((by rw [hg]; exact (below_size (by repeat (first | (with_reducible first | exact HB.out | apply below_alloc | apply pw_below_drewN | apply below_drew1) | exact HB.out))) : w.heap.size ≤ gb149)); have n3_ := Aside0.mk ((by rw [hg]; exact (below_size (by repeat (first | (with_reducible first | exact HB.out | apply below_alloc | apply pw_below_drewN | apply below_drew1) | exact HB.out))) : w.heap.size ≤ gb149)); clear HB; have HB := n0_; have BK149 := n1_; have GW149 := n2_; have GE149 := n3_; clear n0_ n1_ n2_ n3_; clear hb hbox hg) | ((with_reducible refine gate_dst (N := 12) rfl ?_); refine Kd.R_lit (Kd.int .i64) _ 3 ?hg (N := 12) ?hd (xs := ([(-1)] : List Int)) (inner := [.int .i64 (-1)]) (ok := fun _ => True) (okp := fun _ => True) ?hr ?hp (fun _ hk => hk) trivial (Below.refl _ _) (Nat.le_refl _) (by simp) ?_; (case hd => rfl); (case hg => rfl); (case hr => first | (go_simp; done) | (go_simp; rfl)); (case hp => exact (Reps.one (show Kd.M (Kd.int .i64) _ _ _ (-1) [.int .i64 (-1)] from rfl) (Reps.none _ _))); intro v151 w5 ho6 hb hg_ hnew_; clear hg_ hnew_; (first | rw [← Ny150.out] at ho6 | (simp only [Int.reduceToNat] at ho6; rw [← Ny150.out] at ho6)); have n0_ := Aside0.mk (Kd.R_lower ho6 (below_size (by repeat (first | (with_reducible first | exact HB.out | apply below_alloc | apply pw_below_drewN | apply below_drew1 | refine below_set ?_ GE149.out) | exact HB.out)))); have n1_ := Aside0.mk (bb hb BK149.out); have n2_ := Aside0.mk (below_step (by repeat (first | (with_reducible first | exact HB.out | apply below_alloc | apply pw_below_drewN | apply below_drew1 | refine below_set ?_ GE149.out) | exact HB.out)) hb); clear BK149; clear HB; have HO152 := n0_; have BK149 := n1_; have HB := n2_; clear n0_ n1_ n2_; clear hb ho6; have hcz7_0 : w5.cell? ⟨gb149, 0, none⟩ = some (.int .i64 a0_0) := (blk_cell BK149.out 0).trans rfl; have hcz7_1 : w5.cell? ⟨gb149, 1, none⟩ = some (.int .i64 a0_1) := (blk_cell BK149.out 1).trans rfl; have hcz7_2 : w5.cell? ⟨gb149, 2, none⟩ = some (.slice A0_2 l0_2.length c0_2) := (blk_cell BK149.out 2).trans rfl; have hfz7_0 := blk_frozen BK149.out 0; have hfz7_1 := blk_frozen BK149.out 1; have hfz7_2 := blk_frozen BK149.out 2; obtain ⟨Ao8, co8, eo8⟩ := Kd.R_slice HO152.out; subst eo8) | ((with_reducible refine gate_callee (f := 33) rfl ?_); refine goesL_ (some 16) rfl rfl Try.func33 (by kernel_rfl) rfl #[.slice Ao8 y150.length co8, .int .i64 (l0_2.length : Int)] rfl (by (try simp only [zm1, zm2, zm3]); first | done | rfl) ?_; (with_reducible refine (slices_Repeat_int_int.calls _ _ y150 (l0_2.length : Int) t153 _ ?side1 ?side2 A3.out).mono ?_); (case side1 => repeat (first | exact (Kd.R_reads' HO152.out).2.2 | (with_reducible refine Kd.C_alloc ?_ _) | (with_reducible refine Kd.C_drewN ?_ _) | (with_reducible refine Kd.C_drew ?_))); (case side2 => exact (Kd.R_reads' HO152.out).2.1); rintro e w9 ⟨v154, rfl, ho0, hb⟩; refine ⟨_, rfl, ?_⟩; have n0_ := Aside0.mk (Kd.R_elder' (by (with_reducible repeat (first | apply Kd.R_alloc | apply Kd.R_drewN | apply Kd.R_drew)); exact HO152.out) (Kd.R_base ho0) hb); have n1_ := Aside0.mk (Kd.R_lower (Kd.R_new' ho0 (Kd.R_lt (by (with_reducible repeat (first | apply Kd.R_alloc | apply Kd.R_drewN | apply Kd.R_drew)); exact HO152.out))) (below_size (by repeat (first | (with_reducible first | exact HB.out | apply below_alloc | apply pw_below_drewN | apply below_drew1 | refine below_set ?_ GE149.out) | exact HB.out)))); have n2_ := Aside0.mk (bb hb BK149.out); have n3_ := Aside0.mk (below_step (by repeat (first | (with_reducible first | exact HB.out | apply below_alloc | apply pw_below_drewN | apply below_drew1 | refine below_set ?_ GE149.out) | exact HB.out)) hb); clear HO152; clear BK149; clear HB; have HO152 := n0_; have HO155 := n1_; have BK149 := n2_; have HB := n3_; clear n0_ n1_ n2_ n3_; (try clear hb); (try clear hb2); (try clear hk); (try clear hi); (try clear ho0)))
 go_loopg [19] k (fun kq v19 w' => ∃ (x5_1 : List Int) (x19_1 : Int), v19 = .int .i64 x19_1 ∧ Aside0 (tourref5_Costs.l0 kq x5_1 l1 (l1.length : Int) x19_1 a0_0 a0_1 l0_2 = some r) ∧ Aside0 (kq ≤ k) ∧ Aside0 (Kd.R (Kd.int .i64) 3 w' w.heap.size (fun _ => True) v154 x5_1) ∧ Aside0 (w'.heap[gb149]? = some (.cells #[.int .i64 a0_0, .int .i64 a0_1, (.slice A0_2 l0_2.length c0_2)] 25 (0, 0))) ∧ Aside0 (Below w.heap.size w w'))
 case atStart => exact ⟨(t153), (0), (by first | rfl | (simp; done) | (simp [*]; done)), H', ⟨Nat.le_refl _⟩, ⟨by (with_reducible repeat (first | apply Kd.R_alloc | apply Kd.R_drewN | apply Kd.R_drew)); exact Kd.R_mono HO155.out (fun _ hk => trivial)⟩, ⟨BK149.out⟩, ⟨by repeat (first | (with_reducible first | exact HB.out | apply below_alloc | apply pw_below_drewN | apply below_drew1 | refine below_set ?_ GE149.out) | exact HB.out)⟩⟩
 case round =>
  clear H'
  try clear c1; try clear c2; try clear p2; try clear c3; try clear hcz7_0; try clear hcz7_1; try clear hcz7_2; try clear hfz7_0
  try clear hfz7_1; try clear hfz7_2
  obtain ⟨x5_1, x19_1, rfl, HA, HK1, HO_5, BK149, HB⟩ := hrel
  cases gk with
  | zero => exact absurd HA.out (by simp [tourref5_Costs.l0])
  | succ k1 =>
   have H := HA.out
   clear HA
   simp only [tourref5_Costs.l0] at H
   by_cases c10 : x19_1 < (l1.length : Int)
   ·rw [if_pos c10] at H
    have c10b0 : decide (x19_1 < (l1.length : Int)) = true := decide_eq_true c10
    clear c10
    by_cases c11 : 0 ≤ x19_1
    ·rw [if_pos c11] at H
     have c11b0 : decide (0 ≤ x19_1) = true := decide_eq_true c11
     clear c11
     by_cases c12 : x19_1 < (l1.length : Int)
     ·rw [if_pos c12] at H
      have c12b0 : decide (x19_1 < (l1.length : Int)) = true := decide_eq_true c12
      clear c12
      by_cases c13 : 0 ≤ (rd l1 x19_1)
      ·rw [if_pos c13] at H
       have c13b0 : decide (0 ≤ (rd l1 x19_1)) = true := decide_eq_true c13
       clear c13
       by_cases c14 : (rd l1 x19_1) < (l0_2.length : Int)
       ·rw [if_pos c14] at H
        have c14b0 : decide ((rd l1 x19_1) < (l0_2.length : Int)) = true := decide_eq_true c14
        clear c14
        by_cases c15 : (rd l0_2 (rd l1 x19_1)) > 0
        ·rw [if_pos c15] at H
         have c15b0 : decide (0 < (rd l0_2 (rd l1 x19_1))) = true := decide_eq_true c15
         clear c15
         by_cases c16 : (rd l1 x19_1) < (x5_1.length : Int)
         ·rw [if_pos c16] at H
          have c16b0 : decide ((rd l1 x19_1) < (x5_1.length : Int)) = true := decide_eq_true c16
          clear c16
          obtain ⟨y158, hy158⟩ : ∃ y_ : List Int, y_ = (x5_1.set ((rd l1 x19_1) : Int).toNat 0) := ⟨_, rfl⟩
          replace H : (tourref5_Costs.l0 k1 y158 l1 (l1.length : Int) (wrap64 (x19_1 + 1)) a0_0 a0_1 l0_2) = some r := by first | (rw [hy158]; with_reducible exact H) | (have H2_ := (Option.bind_some _ _).symm.trans H; rw [hy158]; with_reducible exact H2_) | (have H2_ := (Option.bind_some _ _).symm.trans H; with_reducible exact H2_) | with_reducible exact H | (rw [hy158]; exact H) | exact H
          have Ny158 := Aside0.mk hy158
          clear hy158
          have H' := Aside0.mk H
          clear H
          have p156 : 0 ≤ (x19_1 : Int) := of_decide_eq_true (by first | (with_reducible assumption) | assumption)
          have q156 : x19_1 < (l1.length : Int) := of_decide_eq_true (by first | (with_reducible assumption) | assumption)
          obtain ⟨ad156, e156, hx156_0⟩ := Kd.at_int HR1.out x19_1 p156 q156
          cases e156
          replace hx156_0 := (HB.out.cell (World.block_lt_of_cell? w _ hx156_0)).trans hx156_0
          replace p156 := eq_true p156
          replace q156 := eq_true q156
          have hcz18_0 : wr.cell? ⟨gb149, 0, none⟩ = some (.int .i64 a0_0) := (blk_cell BK149.out 0).trans rfl
          have hcz18_1 : wr.cell? ⟨gb149, 1, none⟩ = some (.int .i64 a0_1) := (blk_cell BK149.out 1).trans rfl
          have hcz18_2 : wr.cell? ⟨gb149, 2, none⟩ = some (.slice A0_2 l0_2.length c0_2) := (blk_cell BK149.out 2).trans rfl
          have hfz18_0 := blk_frozen BK149.out 0
          have hfz18_1 := blk_frozen BK149.out 1
          have hfz18_2 := blk_frozen BK149.out 2
          have p157 : 0 ≤ ((rd l1 x19_1) : Int) := of_decide_eq_true (by first | (with_reducible assumption) | assumption)
          have q157 : (rd l1 x19_1) < (l0_2.length : Int) := of_decide_eq_true (by first | (with_reducible assumption) | assumption)
          obtain ⟨ad157, e157, hx157_0⟩ := Kd.at_int HR0_2.out (rd l1 x19_1) p157 q157
          cases e157
          replace hx157_0 := (HB.out.cell (World.block_lt_of_cell? w _ hx157_0)).trans hx157_0
          replace p157 := eq_true p157
          replace q157 := eq_true q157
          have p17 : 0 ≤ ((rd l1 x19_1) : Int) := of_decide_eq_true (by first | (with_reducible assumption) | assumption)
          have q17 : ((rd l1 x19_1) : Int) < ((x5_1.length : Int) : Int) := of_decide_eq_true (by first | (with_reducible assumption) | assumption)
          obtain ⟨go17, co17, eo17, gb17, gl17, cl17, HG17⟩ := Kd.R_form HO_5.out (by omega)
          (first | cases eo17 | (injection eo17 with ea_ en_ ec_; (first | subst ea_ | (injection ea_ with ea_; subst ea_)); subst ec_; clear en_))
          have GB17 := Aside0.mk gb17
          have GG17 := Aside0.mk HG17
          clear gb17 gl17 HG17
          obtain ⟨hx17_0, hf17_0⟩ := Kd.R_celln 0 HO_5.out ((rd l1 x19_1) : Int) p17 q17
          replace p17 := eq_true p17
          replace q17 := eq_true q17
          have HP19 := Kd.R_putg HO_5.out ((rd l1 x19_1) : Int) 0
          go_wp2_with (first | ((with_reducible refine gate_store (t := 3) (p := 31) rfl ?_); refine store_event (t := 3) (p := 31) (v := ?vo_w20) (w1 := (wr.setCell ⟨go17, ((rd l1 x19_1) : Int).toNat, none⟩ (.int .i64 0))) ?hg ?ho ?hn ?hr ?_; (case ho => rfl); (case hg => rfl); (case hn => rfl); (case hr => first | (go_simp; done) | (go_simp; rfl)); intro w20 hw; have hg : wr.grownBy w20 (some go17) := (by rw [hw]; exact HP19.2); have hp_ : Kd.R (Kd.int .i64) 3 w20 w.heap.size (fun _ => True) (.slice (some ⟨go17, 0, none⟩) x5_1.length co17) y158 := (by rw [hw, Ny158.out]; exact HP19.1); clear HP19; have n0_ := Aside0.mk (hp_); have n1_ := Aside0.mk (blk_grown (g := gb149) (o := .cells #[.int .i64 a0_0, .int .i64 a0_1, .slice (some ad157) l0_2.length c0_2] 25 (0, 0)) (by (with_reducible repeat (first | refine blk_drewN ?_ _ | refine blk_drew ?_ | refine blk_alloc ?_ _)); exact BK149.out) hg (Kd.R_ne HO_5.out BK149.out (by decide))); have n2_ := Aside0.mk ((by rw [hw]; exact below_set (HB.out) GB17.out : Below w.heap.size w w20)); clear HO_5; clear BK149; clear HB; have HO_5 := n0_; have BK149 := n1_; have HB := n2_; clear n0_ n1_ n2_; clear hg hw hp_))
          go_roundg k1
          case measure => have := HK1.out; omega
          case rel => exact ⟨(y158), (wrap64 (x19_1 + 1)), (by first | rfl | (simp; done) | (simp [*]; done)), H', ⟨by have := HK1.out; omega⟩, ⟨by (with_reducible repeat (first | apply Kd.R_alloc | apply Kd.R_drewN | apply Kd.R_drew)); exact HO_5.out⟩, ⟨BK149.out⟩, ⟨by repeat (first | (with_reducible first | exact HB.out | apply below_alloc | apply pw_below_drewN | apply below_drew1 | refine below_set ?_ GE149.out) | exact HB.out)⟩⟩
         ·rw [if_neg c16] at H
          exact absurd H (by simp)
        ·rw [if_neg c15] at H
         have c15b0 : decide (0 < (rd l0_2 (rd l1 x19_1))) = false := decide_eq_false c15
         clear c15
         have H' := Aside0.mk H
         clear H
         have p156 : 0 ≤ (x19_1 : Int) := of_decide_eq_true (by first | (with_reducible assumption) | assumption)
         have q156 : x19_1 < (l1.length : Int) := of_decide_eq_true (by first | (with_reducible assumption) | assumption)
         obtain ⟨ad156, e156, hx156_0⟩ := Kd.at_int HR1.out x19_1 p156 q156
         cases e156
         replace hx156_0 := (HB.out.cell (World.block_lt_of_cell? w _ hx156_0)).trans hx156_0
         replace p156 := eq_true p156
         replace q156 := eq_true q156
         have hcz21_0 : wr.cell? ⟨gb149, 0, none⟩ = some (.int .i64 a0_0) := (blk_cell BK149.out 0).trans rfl
         have hcz21_1 : wr.cell? ⟨gb149, 1, none⟩ = some (.int .i64 a0_1) := (blk_cell BK149.out 1).trans rfl
         have hcz21_2 : wr.cell? ⟨gb149, 2, none⟩ = some (.slice A0_2 l0_2.length c0_2) := (blk_cell BK149.out 2).trans rfl
         have hfz21_0 := blk_frozen BK149.out 0
         have hfz21_1 := blk_frozen BK149.out 1
         have hfz21_2 := blk_frozen BK149.out 2
         have p157 : 0 ≤ ((rd l1 x19_1) : Int) := of_decide_eq_true (by first | (with_reducible assumption) | assumption)
         have q157 : (rd l1 x19_1) < (l0_2.length : Int) := of_decide_eq_true (by first | (with_reducible assumption) | assumption)
         obtain ⟨ad157, e157, hx157_0⟩ := Kd.at_int HR0_2.out (rd l1 x19_1) p157 q157
         cases e157
         replace hx157_0 := (HB.out.cell (World.block_lt_of_cell? w _ hx157_0)).trans hx157_0
         replace p157 := eq_true p157
         replace q157 := eq_true q157
         go_wp2
         go_roundg k1
         case measure => have := HK1.out; omega
         case rel => exact ⟨(x5_1), (wrap64 (x19_1 + 1)), (by first | rfl | (simp; done) | (simp [*]; done)), H', ⟨by have := HK1.out; omega⟩, ⟨by (with_reducible repeat (first | apply Kd.R_alloc | apply Kd.R_drewN | apply Kd.R_drew)); exact HO_5.out⟩, ⟨BK149.out⟩, ⟨by repeat (first | (with_reducible first | exact HB.out | apply below_alloc | apply pw_below_drewN | apply below_drew1 | refine below_set ?_ GE149.out) | exact HB.out)⟩⟩
       ·rw [if_neg c14] at H
        exact absurd H (by simp)
      ·rw [if_neg c13] at H
       exact absurd H (by simp)
     ·rw [if_neg c12] at H
      exact absurd H (by simp)
    ·rw [if_neg c11] at H
     exact absurd H (by simp)
   ·rw [if_neg c10] at H
    have c10b0 : decide (x19_1 < (l1.length : Int)) = false := decide_eq_false c10
    clear c10
    have H' := Aside0.mk H
    clear H
    go_wp2
    go_loopg [8] k1 (fun kq v8 w' => ∃ (x5_2 : List Int) (x8_2 : Bool), v8 = .bool x8_2 ∧ Aside0 (tourref5_Costs.l1 kq x5_2 x8_2 a0_0 a0_1 l0_2 = some r) ∧ Aside0 (kq ≤ k1) ∧ Aside0 (Kd.R (Kd.int .i64) 3 w' w.heap.size (fun _ => True) v154 x5_2) ∧ Aside0 (w'.heap[gb149]? = some (.cells #[.int .i64 a0_0, .int .i64 a0_1, (.slice A0_2 l0_2.length c0_2)] 25 (0, 0))) ∧ Aside0 (Below w.heap.size w w'))
    case atStart => exact ⟨(x5_1), (true), (by first | rfl | (simp; done) | (simp [*]; done)), H', ⟨Nat.le_refl _⟩, ⟨by (with_reducible repeat (first | apply Kd.R_alloc | apply Kd.R_drewN | apply Kd.R_drew)); exact HO_5.out⟩, ⟨BK149.out⟩, ⟨by repeat (first | (with_reducible first | exact HB.out | apply below_alloc | apply pw_below_drewN | apply below_drew1 | refine below_set ?_ GE149.out) | exact HB.out)⟩⟩
    case round =>
     clear H'
     try clear c1; try clear p1; try clear q1; try clear hx1; try clear c2; try clear p2; try clear c3; try clear p6
     try clear c10; try clear c10b0; try clear c11; try clear c11b0; try clear c12; try clear c12b0; try clear c13; try clear c13b0
     try clear c14; try clear c14b0; try clear c15; try clear c15b0; try clear p15; try clear q15; try clear hx15; try clear c16
     try clear c16b0; try clear p17; try clear q17; try clear hx17; try clear hf17; try clear hcz18_0; try clear hcz18_1; try clear hcz18_2
     try clear hcz21_0; try clear hcz21_1; try clear hcz21_2; try clear hcz7_0; try clear hcz7_1; try clear hcz7_2; try clear hfz18_0; try clear hfz18_1
     try clear hfz18_2; try clear hfz21_0; try clear hfz21_1; try clear hfz21_2; try clear hfz7_0; try clear hfz7_1; try clear hfz7_2; try clear hx156_0
     try clear hx157_0; try clear hx17_0; try clear p156; try clear p157; try clear p17; try clear p2; try clear q156; try clear q157
     try clear q17
     obtain ⟨x5_2, x8_2, rfl, HA, HK2, HO_5, BK149, HB⟩ := hrel
     cases gk with
     | zero => exact absurd HA.out (by simp [tourref5_Costs.l1])
     | succ k2 =>
      have H := HA.out
      clear HA
      simp only [tourref5_Costs.l1] at H
      by_cases c22 : x8_2 = true
      ·subst c22
       have H1 : (tourref5_Costs.l2 k2 x5_2 false (x5_2.length : Int) 0 a0_0 a0_1 l0_2) = some r := by rw [if_pos rfl] at H; exact H
       clear H
       have H := H1
       clear H1
       have H' := Aside0.mk H
       clear H
       obtain ⟨Ao23, co23, eo23⟩ := Kd.R_slice HO_5.out
       subst eo23
       go_wp2
       go_loopg [8, 36] k2 (fun kq v8 v36 w' => ∃ (x5_3 : List Int) (x8_3 : Bool) (x36_3 : Int), v8 = .bool x8_3 ∧ v36 = .int .i64 x36_3 ∧ Aside0 (tourref5_Costs.l2 kq x5_3 x8_3 (x5_2.length : Int) x36_3 a0_0 a0_1 l0_2 = some r) ∧ Aside0 (kq ≤ k2) ∧ Aside0 (Kd.R (Kd.int .i64) 3 w' w.heap.size (fun _ => True) (.slice Ao23 x5_2.length co23) x5_3) ∧ Aside0 (w'.heap[gb149]? = some (.cells #[.int .i64 a0_0, .int .i64 a0_1, (.slice A0_2 l0_2.length c0_2)] 25 (0, 0))) ∧ Aside0 (Below w.heap.size w w'))
       case atStart => exact ⟨(x5_2), (false), (0), (by first | rfl | (simp; done) | (simp [*]; done)), (by first | rfl | (simp; done) | (simp [*]; done)), H', ⟨Nat.le_refl _⟩, ⟨by (with_reducible repeat (first | apply Kd.R_alloc | apply Kd.R_drewN | apply Kd.R_drew)); exact HO_5.out⟩, ⟨BK149.out⟩, ⟨by repeat (first | (with_reducible first | exact HB.out | apply below_alloc | apply pw_below_drewN | apply below_drew1 | refine below_set ?_ GE149.out) | exact HB.out)⟩⟩
       case round =>
        clear H'
        try clear c1; try clear p1; try clear q1; try clear hx1; try clear c2; try clear p2; try clear c3; try clear p6
        try clear c10; try clear c10b0; try clear c11; try clear c11b0; try clear c12; try clear c12b0; try clear c13; try clear c13b0
        try clear c14; try clear c14b0; try clear c15; try clear c15b0; try clear p15; try clear q15; try clear hx15; try clear c16
        try clear c16b0; try clear p17; try clear q17; try clear hx17; try clear hf17; try clear c22; try clear c23; try clear hcz18_0
        try clear hcz18_1; try clear hcz18_2; try clear hcz21_0; try clear hcz21_1; try clear hcz21_2; try clear hcz7_0; try clear hcz7_1; try clear hcz7_2
        try clear hfz18_0; try clear hfz18_1; try clear hfz18_2; try clear hfz21_0; try clear hfz21_1; try clear hfz21_2; try clear hfz7_0; try clear hfz7_1
        try clear hfz7_2; try clear hx156_0; try clear hx157_0; try clear hx17_0; try clear p1; try clear p15; try clear p156; try clear p157
        try clear p17; try clear p2; try clear p6; try clear q1; try clear q15; try clear q156; try clear q157; try clear q17
        obtain ⟨x5_3, x8_3, x36_3, rfl, rfl, HA, HK3, HO_5, BK149, HB⟩ := hrel
        have hl5_3 := (Kd.R_reads' HO_5.out).1
        rw [hl5_3] at HO_5
        (try simp only [hl5_3])
        (try simp only [hl5_3] at BK149)
        cases gk with
        | zero => exact absurd HA.out (by simp [tourref5_Costs.l2])
        | succ k3 =>
         have H := HA.out
         clear HA
         simp only [tourref5_Costs.l2] at H
         by_cases c24 : x36_3 < (x5_2.length : Int)
         ·rw [if_pos c24] at H
          have c24b0 : decide (x36_3 < (x5_2.length : Int)) = true := decide_eq_true c24
          clear c24
          (try rw [hl5_3] at c24b0)
          have H' := Aside0.mk H
          clear H
          go_wp2
          go_loopg [8, 10] k3 (fun kq v8 v10 w' => ∃ (x5_4 : List Int) (x8_4 : Bool) (x10_4 : Int), v8 = .bool x8_4 ∧ v10 = .int .i64 x10_4 ∧ Aside0 (tourref5_Costs.l3 kq x5_4 x8_4 x36_3 x10_4 (x5_2.length : Int) x36_3 a0_0 a0_1 l0_2 = some r) ∧ Aside0 (kq ≤ k3) ∧ Aside0 (Kd.R (Kd.int .i64) 3 w' w.heap.size (fun _ => True) (.slice Ao23 x5_3.length co23) x5_4) ∧ Aside0 (w'.heap[gb149]? = some (.cells #[.int .i64 a0_0, .int .i64 a0_1, (.slice A0_2 l0_2.length c0_2)] 25 (0, 0))) ∧ Aside0 (Below w.heap.size w w'))
          case atStart => exact ⟨(x5_3), (x8_3), (1), (by first | rfl | (simp; done) | (simp [*]; done)), (by first | rfl | (simp; done) | (simp [*]; done)), H', ⟨Nat.le_refl _⟩, ⟨by (try simp only [hl5_3]); (with_reducible repeat (first | apply Kd.R_alloc | apply Kd.R_drewN | apply Kd.R_drew)); exact HO_5.out⟩, ⟨by (try simp only [hl5_3]); (with_reducible repeat (first | refine blk_drewN ?_ _ | refine blk_drew ?_ | refine blk_alloc ?_ _)); exact BK149.out⟩, ⟨by repeat (first | (with_reducible first | exact HB.out | apply below_alloc | apply pw_below_drewN | apply below_drew1 | refine below_set ?_ GE149.out) | exact HB.out)⟩⟩
          case round =>
           clear H'
           try clear c1; try clear p1; try clear q1; try clear hx1; try clear c2; try clear p2; try clear c3; try clear p6
           try clear c10; try clear c10b0; try clear c11; try clear c11b0; try clear c12; try clear c12b0; try clear c13; try clear c13b0
           try clear c14; try clear c14b0; try clear c15; try clear c15b0; try clear p15; try clear q15; try clear hx15; try clear c16
           try clear c16b0; try clear p17; try clear q17; try clear hx17; try clear hf17; try clear c22; try clear c23; try clear c24
           try clear c24b0; try clear hcz18_0; try clear hcz18_1; try clear hcz18_2; try clear hcz21_0; try clear hcz21_1; try clear hcz21_2; try clear hcz7_0
           try clear hcz7_1; try clear hcz7_2; try clear hfz18_0; try clear hfz18_1; try clear hfz18_2; try clear hfz21_0; try clear hfz21_1; try clear hfz21_2
           try clear hfz7_0; try clear hfz7_1; try clear hfz7_2; try clear hx156_0; try clear hx157_0; try clear hx17_0; try clear p1; try clear p15
           try clear p156; try clear p157; try clear p17; try clear p2; try clear p6; try clear q1; try clear q15; try clear q156
           try clear q157; try clear q17
           obtain ⟨x5_4, x8_4, x10_4, rfl, rfl, HA, HK4, HO_5, BK149, HB⟩ := hrel
           have hl5_4 := (Kd.R_reads' HO_5.out).1
           rw [hl5_4] at HO_5
           (try simp only [hl5_4])
           (try simp only [hl5_4] at BK149)
           cases gk with
           | zero => exact absurd HA.out (by simp [tourref5_Costs.l3])
           | succ k4 =>
            have H := HA.out
            clear HA
            simp only [tourref5_Costs.l3] at H
            have HC25 := Aside0.mk H
            clear H
            go_upto_region 15 with (fail)
            go_cut [48] (fun v48 wc => ∃ (kq : Nat) (x48_24 : Bool), v48 = .bool x48_24 ∧ Aside0 (tourref5_Costs.j4 kq x5_4 x8_4 x36_3 x10_4 (x5_2.length : Int) x36_3 x48_24 a0_0 a0_1 l0_2 = some r) ∧ Aside0 (kq ≤ k4) ∧ Aside0 (Kd.R (Kd.int .i64) 3 wc w.heap.size (fun _ => True) (.slice Ao23 x5_4.length co23) x5_4) ∧ Aside0 (wc.heap[gb149]? = some (.cells #[.int .i64 a0_0, .int .i64 a0_1, (.slice A0_2 l0_2.length c0_2)] 25 (0, 0))) ∧ Aside0 (Below w.heap.size w wc))
            case first =>
             have H := HC25.out
             clear HC25
             by_cases c26 : x10_4 ≤ 4
             ·rw [if_pos c26] at H
              have c26b0 : decide (x10_4 ≤ 4) = true := decide_eq_true c26
              clear c26
              (first | rw [c26b0] | (simp only [i64_w, i32_w]; rw [c26b0]) | skip)
              by_cases c27 : 0 ≤ x36_3
              ·rw [if_pos c27] at H
               have c27b0 : decide (0 ≤ x36_3) = true := decide_eq_true c27
               clear c27
               by_cases c28 : x36_3 < (l0_2.length : Int)
               ·rw [if_pos c28] at H
                have c28b0 : decide (x36_3 < (l0_2.length : Int)) = true := decide_eq_true c28
                clear c28
                (try rw [hl5_3] at c28b0)
                (try rw [hl5_4] at c28b0)
                have H' := Aside0.mk H
                clear H
                have hcz29_0 : wr.cell? ⟨gb149, 0, none⟩ = some (.int .i64 a0_0) := (blk_cell BK149.out 0).trans rfl
                have hcz29_1 : wr.cell? ⟨gb149, 1, none⟩ = some (.int .i64 a0_1) := (blk_cell BK149.out 1).trans rfl
                have hcz29_2 : wr.cell? ⟨gb149, 2, none⟩ = some (.slice A0_2 l0_2.length c0_2) := (blk_cell BK149.out 2).trans rfl
                have hfz29_0 := blk_frozen BK149.out 0
                have hfz29_1 := blk_frozen BK149.out 1
                have hfz29_2 := blk_frozen BK149.out 2
                have p159 : 0 ≤ (x36_3 : Int) := of_decide_eq_true (by first | (with_reducible assumption) | assumption)
                have q159 : x36_3 < (l0_2.length : Int) := of_decide_eq_true (by first | (with_reducible assumption) | assumption)
                obtain ⟨ad159, e159, hx159_0⟩ := Kd.at_int HR0_2.out x36_3 p159 q159
                cases e159
                replace hx159_0 := (HB.out.cell (World.block_lt_of_cell? w _ hx159_0)).trans hx159_0
                replace p159 := eq_true p159
                replace q159 := eq_true q159
                go_wp2
                go_meet
                case rel => exact ⟨_, (decide ((rd l0_2 x36_3) > 0)), (by first | rfl | (simp; done) | (simp [*]; done)), H', ⟨by have := HK1.out; have := HK2.out; have := HK3.out; have := HK4.out; first | omega | exact Nat.le_refl _⟩, ⟨by (try simp only [hl5_3]); (try simp only [hl5_4]); (with_reducible repeat (first | apply Kd.R_alloc | apply Kd.R_drewN | apply Kd.R_drew)); exact HO_5.out⟩, ⟨by (try simp only [hl5_3]); (try simp only [hl5_4]); (with_reducible repeat (first | refine blk_drewN ?_ _ | refine blk_drew ?_ | refine blk_alloc ?_ _)); exact BK149.out⟩, ⟨by repeat (first | (with_reducible first | exact HB.out | apply below_alloc | apply pw_below_drewN | apply below_drew1 | refine below_set ?_ GE149.out) | exact HB.out)⟩⟩
               ·rw [if_neg c28] at H
                exact absurd H (by simp)
              ·rw [if_neg c27] at H
               exact absurd H (by simp)
             ·rw [if_neg c26] at H
              have c26b0 : decide (x10_4 ≤ 4) = false := decide_eq_false c26
              clear c26
              (first | rw [c26b0] | (simp only [i64_w, i32_w]; rw [c26b0]) | skip)
              have H' := Aside0.mk H
              clear H
              go_wp2
              go_meet
              case rel => exact ⟨_, (false), (by first | rfl | (simp; done) | (simp [*]; done)), H', ⟨by have := HK1.out; have := HK2.out; have := HK3.out; have := HK4.out; first | omega | exact Nat.le_refl _⟩, ⟨by (try simp only [hl5_3]); (try simp only [hl5_4]); (with_reducible repeat (first | apply Kd.R_alloc | apply Kd.R_drewN | apply Kd.R_drew)); exact HO_5.out⟩, ⟨by (try simp only [hl5_3]); (try simp only [hl5_4]); (with_reducible repeat (first | refine blk_drewN ?_ _ | refine blk_drew ?_ | refine blk_alloc ?_ _)); exact BK149.out⟩, ⟨by repeat (first | (with_reducible first | exact HB.out | apply below_alloc | apply pw_below_drewN | apply below_drew1 | refine below_set ?_ GE149.out) | exact HB.out)⟩⟩
            case rest =>
             clear HC25
             try clear c1; try clear p1; try clear q1; try clear hx1; try clear c2; try clear p2; try clear c3; try clear p6
             try clear c10; try clear c10b0; try clear c11; try clear c11b0; try clear c12; try clear c12b0; try clear c13; try clear c13b0
             try clear c14; try clear c14b0; try clear c15; try clear c15b0; try clear p15; try clear q15; try clear hx15; try clear c16
             try clear c16b0; try clear p17; try clear q17; try clear hx17; try clear hf17; try clear c22; try clear c23; try clear c24
             try clear c24b0; try clear c26; try clear c26b0; try clear c27; try clear c27b0; try clear c28; try clear c28b0; try clear hcz18_0
             try clear hcz18_1; try clear hcz18_2; try clear hcz21_0; try clear hcz21_1; try clear hcz21_2; try clear hcz29_0; try clear hcz29_1; try clear hcz29_2
             try clear hcz7_0; try clear hcz7_1; try clear hcz7_2; try clear hfz18_0; try clear hfz18_1; try clear hfz18_2; try clear hfz21_0; try clear hfz21_1
             try clear hfz21_2; try clear hfz29_0; try clear hfz29_1; try clear hfz29_2; try clear hfz7_0; try clear hfz7_1; try clear hfz7_2; try clear hx156_0
             try clear hx157_0; try clear hx159_0; try clear hx17_0; try clear p1; try clear p15; try clear p156; try clear p157; try clear p159
             try clear p17; try clear p2; try clear p6; try clear q1; try clear q15; try clear q156; try clear q157; try clear q159
             try clear q17
             obtain ⟨kq, x48_24, rfl, HA, HJ24, HO_5, BK149, HB⟩ := hcut
             cases kq with
             | zero => exact absurd HA.out (by simp [tourref5_Costs.j4])
             | succ kj24 =>
              have H := HA.out
              clear HA
              simp only [tourref5_Costs.j4] at H
              by_cases c30 : x48_24 = true
              ·subst c30
               have H1 : ((tourref5_Beyond.f kj24 a0_0 a0_1 l0_2 x36_3 x10_4).bind fun t160 => (if t160 ≥ 0 then (if 0 ≤ t160 then (if t160 < (x5_4.length : Int) then (if (rd x5_4 t160) ≥ 0 then (if 0 ≤ x36_3 then (if x36_3 < (x5_4.length : Int) then (if (rd x5_4 x36_3) < 0 then (if t160 < (l0_2.length : Int) then (tourref5_Costs.l3 kj24 (x5_4.set (x36_3 : Int).toNat (wrap64 ((rd x5_4 t160) + (rd l0_2 t160)))) true x36_3 (wrap64 (x10_4 + 1)) (x5_2.length : Int) x36_3 a0_0 a0_1 l0_2) else (none)) else (if t160 < (l0_2.length : Int) then (if (wrap64 ((rd x5_4 t160) + (rd l0_2 t160))) < (rd x5_4 x36_3) then (tourref5_Costs.l3 kj24 (x5_4.set (x36_3 : Int).toNat (wrap64 ((rd x5_4 t160) + (rd l0_2 t160)))) true x36_3 (wrap64 (x10_4 + 1)) (x5_2.length : Int) x36_3 a0_0 a0_1 l0_2) else (tourref5_Costs.l3 kj24 x5_4 x8_4 x36_3 (wrap64 (x10_4 + 1)) (x5_2.length : Int) x36_3 a0_0 a0_1 l0_2)) else (none))) else (none)) else (none)) else (tourref5_Costs.l3 kj24 x5_4 x8_4 x36_3 (wrap64 (x10_4 + 1)) (x5_2.length : Int) x36_3 a0_0 a0_1 l0_2)) else (none)) else (none)) else (tourref5_Costs.l3 kj24 x5_4 x8_4 x36_3 (wrap64 (x10_4 + 1)) (x5_2.length : Int) x36_3 a0_0 a0_1 l0_2))) = some r := by rw [if_pos rfl] at H; exact H
               clear H
               have H := H1
               clear H1
               replace H := Option.bind_eq_some_iff.mp H
               obtain ⟨t160, A310, H⟩ := H
               replace H : (if t160 ≥ 0 then (if 0 ≤ t160 then (if t160 < (x5_4.length : Int) then (if (rd x5_4 t160) ≥ 0 then (if 0 ≤ x36_3 then (if x36_3 < (x5_4.length : Int) then (if (rd x5_4 x36_3) < 0 then (if t160 < (l0_2.length : Int) then (tourref5_Costs.l3 kj24 (x5_4.set (x36_3 : Int).toNat (wrap64 ((rd x5_4 t160) + (rd l0_2 t160)))) true x36_3 (wrap64 (x10_4 + 1)) (x5_2.length : Int) x36_3 a0_0 a0_1 l0_2) else (none)) else (if t160 < (l0_2.length : Int) then (if (wrap64 ((rd x5_4 t160) + (rd l0_2 t160))) < (rd x5_4 x36_3) then (tourref5_Costs.l3 kj24 (x5_4.set (x36_3 : Int).toNat (wrap64 ((rd x5_4 t160) + (rd l0_2 t160)))) true x36_3 (wrap64 (x10_4 + 1)) (x5_2.length : Int) x36_3 a0_0 a0_1 l0_2) else (tourref5_Costs.l3 kj24 x5_4 x8_4 x36_3 (wrap64 (x10_4 + 1)) (x5_2.length : Int) x36_3 a0_0 a0_1 l0_2)) else (none))) else (none)) else (none)) else (tourref5_Costs.l3 kj24 x5_4 x8_4 x36_3 (wrap64 (x10_4 + 1)) (x5_2.length : Int) x36_3 a0_0 a0_1 l0_2)) else (none)) else (none)) else (tourref5_Costs.l3 kj24 x5_4 x8_4 x36_3 (wrap64 (x10_4 + 1)) (x5_2.length : Int) x36_3 a0_0 a0_1 l0_2)) = some r := H
               have A31 := Aside0.mk A310
               clear A310
               by_cases c32 : t160 ≥ 0
               ·rw [if_pos c32] at H
                have c32b0 : decide (0 ≤ t160) = true := decide_eq_true c32
                clear c32
                by_cases c33 : 0 ≤ t160
                ·rw [if_pos c33] at H
                 have c33b0 : decide (0 ≤ t160) = true := decide_eq_true c33
                 clear c33
                 by_cases c34 : t160 < (x5_4.length : Int)
                 ·rw [if_pos c34] at H
                  have c34b0 : decide (t160 < (x5_4.length : Int)) = true := decide_eq_true c34
                  clear c34
                  (try rw [hl5_3] at c34b0)
                  (try rw [hl5_4] at c34b0)
                  by_cases c35 : (rd x5_4 t160) ≥ 0
                  ·rw [if_pos c35] at H
                   have c35b0 : decide (0 ≤ (rd x5_4 t160)) = true := decide_eq_true c35
                   clear c35
                   by_cases c36 : 0 ≤ x36_3
                   ·rw [if_pos c36] at H
                    have c36b0 : decide (0 ≤ x36_3) = true := decide_eq_true c36
                    clear c36
                    by_cases c37 : x36_3 < (x5_4.length : Int)
                    ·rw [if_pos c37] at H
                     have c37b0 : decide (x36_3 < (x5_4.length : Int)) = true := decide_eq_true c37
                     clear c37
                     (try rw [hl5_3] at c37b0)
                     (try rw [hl5_4] at c37b0)
                     by_cases c38 : (rd x5_4 x36_3) < 0
                     ·rw [if_pos c38] at H
                      have c38b0 : decide ((rd x5_4 x36_3) < 0) = true := decide_eq_true c38
                      clear c38
                      by_cases c39 : t160 < (l0_2.length : Int)
                      ·rw [if_pos c39] at H
                       have c39b0 : decide (t160 < (l0_2.length : Int)) = true := decide_eq_true c39
                       clear c39
                       (try rw [hl5_3] at c39b0)
                       (try rw [hl5_4] at c39b0)
                       obtain ⟨y165, hy165⟩ : ∃ y_ : List Int, y_ = (x5_4.set (x36_3 : Int).toNat (wrap64 ((rd x5_4 t160) + (rd l0_2 t160)))) := ⟨_, rfl⟩
                       replace H : (tourref5_Costs.l3 kj24 y165 true x36_3 (wrap64 (x10_4 + 1)) (x5_2.length : Int) x36_3 a0_0 a0_1 l0_2) = some r := by first | (rw [hy165]; with_reducible exact H) | (have H2_ := (Option.bind_some _ _).symm.trans H; rw [hy165]; with_reducible exact H2_) | (have H2_ := (Option.bind_some _ _).symm.trans H; with_reducible exact H2_) | with_reducible exact H | (rw [hy165]; exact H) | exact H
                       have Ny165 := Aside0.mk hy165
                       clear hy165
                       have H' := Aside0.mk H
                       clear H
                       have hcz41_0 : wc.cell? ⟨gb149, 0, none⟩ = some (.int .i64 a0_0) := (blk_cell BK149.out 0).trans rfl
                       have hcz41_1 : wc.cell? ⟨gb149, 1, none⟩ = some (.int .i64 a0_1) := (blk_cell BK149.out 1).trans rfl
                       have hcz41_2 : wc.cell? ⟨gb149, 2, none⟩ = some (.slice A0_2 l0_2.length c0_2) := (blk_cell BK149.out 2).trans rfl
                       have hfz41_0 := blk_frozen BK149.out 0
                       have hfz41_1 := blk_frozen BK149.out 1
                       have hfz41_2 := blk_frozen BK149.out 2
                       try go_wp2_with (first | ((with_reducible refine gate_callee (f := 19) rfl ?_); refine goesL_ (some 54) rfl rfl Try.func19 (by kernel_rfl) rfl #[.agg #[.int .i64 a0_0, .int .i64 a0_1, .slice A0_2 l0_2.length c0_2], .int .i64 x36_3, .int .i64 x10_4] rfl (by (try simp only [zm1, zm2, zm3]); first | done | rfl) ?_; (with_reducible refine (tourref5_Beyond.calls kj24 a0_0 a0_1 _ _ l0_2 x36_3 x10_4 t160 _ ?side1 ?side2 A31.out).mono ?_); (case side1 => repeat (first | exact (Kd.C_below HR0_2.out HB.out) | (with_reducible refine Kd.C_alloc ?_ _) | (with_reducible refine Kd.C_drewN ?_ _) | (with_reducible refine Kd.C_drew ?_))); (case side2 => exact HC0_2.out); rintro e w42 ⟨rfl, hb⟩; refine ⟨_, rfl, ?_⟩; have n0_ := Aside0.mk (Kd.R_below (by (with_reducible repeat (first | apply Kd.R_alloc | apply Kd.R_drewN | apply Kd.R_drew)); exact HO_5.out) hb); have n1_ := Aside0.mk (bb hb BK149.out); have n2_ := Aside0.mk (below_step (by repeat (first | (with_reducible first | exact HB.out | apply below_alloc | apply pw_below_drewN | apply below_drew1 | refine below_set ?_ GE149.out) | exact HB.out)) hb); clear HO_5; clear BK149; clear HB; have HO_5 := n0_; have BK149 := n1_; have HB := n2_; clear n0_ n1_ n2_; (try clear hb); (try clear hb2); (try clear hk); (try clear hi)))
                       have n0_ := Aside0.mk (Kd.R_drew HO_5.out)
                       have n1_ := Aside0.mk (blk_drew BK149.out)
                       have n2_ := Aside0.mk (below_drew1 HB.out)
                       clear HO_5
                       clear BK149
                       clear HB
                       have HO_5 := n0_
                       have BK149 := n1_
                       have HB := n2_
                       clear n0_ n1_ n2_
                       have p161 : 0 ≤ (t160 : Int) := of_decide_eq_true (by first | (with_reducible assumption) | assumption)
                       have q161 : t160 < (x5_4.length : Int) := of_decide_eq_true (by first | (with_reducible assumption) | assumption)
                       obtain ⟨ad161, e161, hx161_0⟩ := Kd.at_int (Kd.R_reads' HO_5.out).2.2 t160 p161 q161
                       cases e161
                       replace p161 := eq_true p161
                       replace q161 := eq_true q161
                       have p162 : 0 ≤ (x36_3 : Int) := of_decide_eq_true (by first | (with_reducible assumption) | assumption)
                       have q162 : x36_3 < (x5_4.length : Int) := of_decide_eq_true (by first | (with_reducible assumption) | assumption)
                       obtain ⟨ad162, e162, hx162_0⟩ := Kd.at_int (Kd.R_reads' HO_5.out).2.2 x36_3 p162 q162
                       obtain rfl : ad161 = ad162 := (by injection e162)
                       replace p162 := eq_true p162
                       replace q162 := eq_true q162
                       refine start_ (n := 33) (S := fun w' => w'.cell? (ad161.add (t160).toNat) = some (.int .i64 (rd x5_4 t160)) ∧ w'.cell? (ad161.add (x36_3).toNat) = some (.int .i64 (rd x5_4 x36_3))) (ds := []) (ab 33 0) (by kernel_rfl) rfl rfl ⟨hx161_0, hx162_0⟩ (fun hHeld => ?_); refine with_tabW tourref5_Costs.tab18 tourref5_Costs.bits18 (fun HT_ HW_ => ?_)
                       generalize w42.drew = w43 at HO_5 BK149 HB hx161_0 hx162_0 hHeld ⊢
                       refine pure_ (i := 0) (N := some 55) (v := ?_) (a' := ?_) (ab 33 1) rfl rfl (any_of HT_.out (by kernel_rfl)) (fun _ _ _ h => h) (Or.inl ⟨by rfl, ?_⟩) ?_ ?_
                       rotate_left
                       ·intro w'
                        go_simp
                        with_reducible rfl
                       rotate_left
                       ·simp only [Act.put, zq1, zq2, zq3, i64_w, i32_w]
                        rfl
                       refine pure_ (i := 1) (N := some 56) (v := ?_) (a' := ?_) (ab 33 3) rfl rfl (any_of HT_.out (by kernel_rfl)) (fun _ _ _ h => h) (Or.inl ⟨by rfl, ?_⟩) ?_ ?_
                       rotate_left
                       ·intro w'
                        go_simp
                        with_reducible rfl
                       rotate_left
                       ·simp only [Act.put, zq1, zq2, zq3, i64_w, i32_w]
                        rfl
                       refine pure_ (i := 2) (N := some 57) (v := ?_) (a' := ?_) (ab 33 7) rfl rfl (any_of HT_.out (by kernel_rfl)) (fun _ _ _ h => h) (Or.inl ⟨by rfl, ?_⟩) ?_ ?_
                       rotate_left
                       ·intro w'
                        go_simp
                        with_reducible rfl
                       rotate_left
                       ·simp only [Act.put, zq1, zq2, zq3, i64_w, i32_w]
                        rfl
                       refine pure_ (i := 3) (N := some 58) (v := ?_) (a' := ?_) (ab 33 15) rfl rfl (any_of HT_.out (by kernel_rfl)) (fun _ _ _ h => h) (Or.inl ⟨by rfl, ?_⟩) ?_ ?_
                       rotate_left
                       ·intro w'
                        go_simp
                        with_reducible rfl
                       rotate_left
                       ·simp only [Act.put, zq1, zq2, zq3, i64_w, i32_w]
                        rfl
                       refine pure_ (i := 4) (N := some 59) (v := ?_) (a' := ?_) (ab 33 31) rfl rfl (any_of HT_.out (by kernel_rfl)) (fun _ _ _ h => h) (Or.inl ⟨by rfl, ?_⟩) ?_ ?_
                       rotate_left
                       ·intro w'
                        go_simp
                        with_reducible rfl
                       rotate_left
                       ·simp only [Act.put, zq1, zq2, zq3, i64_w, i32_w]
                        rfl
                       refine pure_ (i := 5) (N := some 60) (v := ?_) (a' := ?_) (ab 33 63) rfl rfl (any_of HT_.out (by kernel_rfl)) (fun _ _ _ h => h) (Or.inl ⟨by rfl, ?_⟩) ?_ ?_
                       rotate_left
                       ·intro w'
                        go_simp
                        with_reducible rfl
                       rotate_left
                       ·simp only [Act.put, zq1, zq2, zq3, i64_w, i32_w]
                        rfl
                       refine take_ (i := 6) (N := some 61) (v := ?_) (a' := ?_) (ab 33 127) rfl rfl (take_ofW HT_.out HW_.out (by kernel_rfl)) (fun _ _ _ h => h) (Or.inl ⟨by rfl, ?_⟩) hHeld ?_ ?_
                       rotate_left
                       ·rintro w' ⟨s0, s1⟩
                        go_simp
                        with_reducible rfl
                       rotate_left
                       ·simp only [Act.put, zq1, zq2, zq3, i64_w, i32_w]
                        rfl
                       refine pure_ (i := 7) (N := some 62) (v := ?_) (a' := ?_) (ab 33 255) rfl rfl (any_of HT_.out (by kernel_rfl)) (fun _ _ _ h => h) (Or.inl ⟨by rfl, ?_⟩) ?_ ?_
                       rotate_left
                       ·intro w'
                        go_simp
                        with_reducible rfl
                       rotate_left
                       ·simp only [Act.put, zq1, zq2, zq3, i64_w, i32_w]
                        rfl
                       refine pure_ (i := 8) (N := some 63) (v := ?_) (a' := ?_) (ab 33 511) rfl rfl (any_of HT_.out (by kernel_rfl)) (fun _ _ _ h => h) (Or.inl ⟨by rfl, ?_⟩) ?_ ?_
                       rotate_left
                       ·intro w'
                        go_simp
                        with_reducible rfl
                       rotate_left
                       ·simp only [Act.put, zq1, zq2, zq3, i64_w, i32_w]
                        rfl
                       refine pure_ (i := 9) (N := some 64) (v := ?_) (a' := ?_) (ab 33 1023) rfl rfl (any_of HT_.out (by kernel_rfl)) (fun _ _ _ h => h) (Or.inl ⟨by rfl, ?_⟩) ?_ ?_
                       rotate_left
                       ·intro w'
                        go_simp
                        with_reducible rfl
                       rotate_left
                       ·simp only [Act.put, zq1, zq2, zq3, i64_w, i32_w]
                        rfl
                       refine pure_ (i := 10) (N := some 65) (v := ?_) (a' := ?_) (ab 33 2047) rfl rfl (any_of HT_.out (by kernel_rfl)) (fun _ _ _ h => h) (Or.inl ⟨by rfl, ?_⟩) ?_ ?_
                       rotate_left
                       ·intro w'
                        go_simp
                        with_reducible rfl
                       rotate_left
                       ·simp only [Act.put, zq1, zq2, zq3, i64_w, i32_w]
                        rfl
                       refine pure_ (i := 11) (N := some 66) (v := ?_) (a' := ?_) (ab 33 4095) rfl rfl (any_of HT_.out (by kernel_rfl)) (fun _ _ _ h => h) (Or.inl ⟨by rfl, ?_⟩) ?_ ?_
                       rotate_left
                       ·intro w'
                        go_simp
                        with_reducible rfl
                       rotate_left
                       ·simp only [Act.put, zq1, zq2, zq3, i64_w, i32_w]
                        rfl
                       refine pure_ (i := 12) (N := some 67) (v := ?_) (a' := ?_) (ab 33 8191) rfl rfl (any_of HT_.out (by kernel_rfl)) (fun _ _ _ h => h) (Or.inl ⟨by rfl, ?_⟩) ?_ ?_
                       rotate_left
                       ·intro w'
                        go_simp
                        with_reducible rfl
                       rotate_left
                       ·simp only [Act.put, zq1, zq2, zq3, i64_w, i32_w]
                        rfl
                       refine take_ (i := 13) (N := some 68) (v := ?_) (a' := ?_) (ab 33 16383) rfl rfl (take_ofW HT_.out HW_.out (by kernel_rfl)) (fun _ _ _ h => h) (Or.inl ⟨by rfl, ?_⟩) hHeld ?_ ?_
                       rotate_left
                       ·rintro w' ⟨s0, s1⟩
                        go_simp
                        with_reducible rfl
                       rotate_left
                       ·simp only [Act.put, zq1, zq2, zq3, i64_w, i32_w]
                        rfl
                       refine pure_ (i := 14) (N := some 69) (v := ?_) (a' := ?_) (ab 33 32767) rfl rfl (any_of HT_.out (by kernel_rfl)) (fun _ _ _ h => h) (Or.inl ⟨by rfl, ?_⟩) ?_ ?_
                       rotate_left
                       ·intro w'
                        go_simp
                        with_reducible rfl
                       rotate_left
                       ·simp only [Act.put, zq1, zq2, zq3, i64_w, i32_w]
                        rfl
                       refine pure_ (i := 15) (N := some 70) (v := ?_) (a' := ?_) (ab 33 65535) rfl rfl (any_of HT_.out (by kernel_rfl)) (fun _ _ _ h => h) (Or.inl ⟨by rfl, ?_⟩) ?_ ?_
                       rotate_left
                       ·intro w'
                        go_simp
                        with_reducible rfl
                       rotate_left
                       ·simp only [Act.put, zq1, zq2, zq3, i64_w, i32_w]
                        rfl
                       refine pure_ (i := 16) (N := some 71) (v := undef) (a' := ?_) (ab 33 131071) rfl rfl (any_of HT_.out (by kernel_rfl)) (fun _ _ _ h => h) (Or.inr ⟨by rfl, rfl⟩) ?_ ?_
                       rotate_left
                       ·simp only [Act.put, zq1, zq2, zq3, i64_w, i32_w]
                        rfl
                       refine pure_ (i := 17) (N := some 72) (v := undef) (a' := ?_) (ab 33 262143) rfl rfl (any_of HT_.out (by kernel_rfl)) (fun _ _ _ h => h) (Or.inr ⟨by rfl, rfl⟩) ?_ ?_
                       rotate_left
                       ·simp only [Act.put, zq1, zq2, zq3, i64_w, i32_w]
                        rfl
                       refine pure_ (i := 18) (N := some 73) (v := undef) (a' := ?_) (ab 33 524287) rfl rfl (any_of HT_.out (by kernel_rfl)) (fun _ _ _ h => h) (Or.inr ⟨by rfl, rfl⟩) ?_ ?_
                       rotate_left
                       ·simp only [Act.put, zq1, zq2, zq3, i64_w, i32_w]
                        rfl
                       refine pure_ (i := 19) (N := some 74) (v := undef) (a' := ?_) (ab 33 1048575) rfl rfl (any_of HT_.out (by kernel_rfl)) (fun _ _ _ h => h) (Or.inr ⟨by rfl, rfl⟩) ?_ ?_
                       rotate_left
                       ·simp only [Act.put, zq1, zq2, zq3, i64_w, i32_w]
                        rfl
                       refine pure_ (i := 20) (N := some 75) (v := undef) (a' := ?_) (ab 33 2097151) rfl rfl (any_of HT_.out (by kernel_rfl)) (fun _ _ _ h => h) (Or.inr ⟨by rfl, rfl⟩) ?_ ?_
                       rotate_left
                       ·simp only [Act.put, zq1, zq2, zq3, i64_w, i32_w]
                        rfl
                       refine pure_ (i := 21) (N := some 76) (v := undef) (a' := ?_) (ab 33 4194303) rfl rfl (any_of HT_.out (by kernel_rfl)) (fun _ _ _ h => h) (Or.inr ⟨by rfl, rfl⟩) ?_ ?_
                       rotate_left
                       ·simp only [Act.put, zq1, zq2, zq3, i64_w, i32_w]
                        rfl
                       refine pure_ (i := 22) (N := some 77) (v := undef) (a' := ?_) (ab 33 8388607) rfl rfl (any_of HT_.out (by kernel_rfl)) (fun _ _ _ h => h) (Or.inr ⟨by rfl, rfl⟩) ?_ ?_
                       rotate_left
                       ·simp only [Act.put, zq1, zq2, zq3, i64_w, i32_w]
                        rfl
                       refine pure_ (i := 23) (N := some 78) (v := undef) (a' := ?_) (ab 33 16777215) rfl rfl (any_of HT_.out (by kernel_rfl)) (fun _ _ _ h => h) (Or.inr ⟨by rfl, rfl⟩) ?_ ?_
                       rotate_left
                       ·simp only [Act.put, zq1, zq2, zq3, i64_w, i32_w]
                        rfl
                       refine pure_ (i := 24) (N := some 79) (v := undef) (a' := ?_) (ab 33 33554431) rfl rfl (any_of HT_.out (by kernel_rfl)) (fun _ _ _ h => h) (Or.inr ⟨by rfl, rfl⟩) ?_ ?_
                       rotate_left
                       ·simp only [Act.put, zq1, zq2, zq3, i64_w, i32_w]
                        rfl
                       refine pure_ (i := 25) (N := some 80) (v := undef) (a' := ?_) (ab 33 67108863) rfl rfl (any_of HT_.out (by kernel_rfl)) (fun _ _ _ h => h) (Or.inr ⟨by rfl, rfl⟩) ?_ ?_
                       rotate_left
                       ·simp only [Act.put, zq1, zq2, zq3, i64_w, i32_w]
                        rfl
                       refine pure_ (i := 26) (N := some 81) (v := undef) (a' := ?_) (ab 33 134217727) rfl rfl (any_of HT_.out (by kernel_rfl)) (fun _ _ _ h => h) (Or.inr ⟨by rfl, rfl⟩) ?_ ?_
                       rotate_left
                       ·simp only [Act.put, zq1, zq2, zq3, i64_w, i32_w]
                        rfl
                       refine pure_ (i := 27) (N := some 82) (v := undef) (a' := ?_) (ab 33 268435455) rfl rfl (any_of HT_.out (by kernel_rfl)) (fun _ _ _ h => h) (Or.inr ⟨by rfl, rfl⟩) ?_ ?_
                       rotate_left
                       ·simp only [Act.put, zq1, zq2, zq3, i64_w, i32_w]
                        rfl
                       refine pure_ (i := 28) (N := some 83) (v := undef) (a' := ?_) (ab 33 536870911) rfl rfl (any_of HT_.out (by kernel_rfl)) (fun _ _ _ h => h) (Or.inr ⟨by rfl, rfl⟩) ?_ ?_
                       rotate_left
                       ·simp only [Act.put, zq1, zq2, zq3, i64_w, i32_w]
                        rfl
                       refine pure_ (i := 29) (N := some 84) (v := undef) (a' := ?_) (ab 33 1073741823) rfl rfl (any_of HT_.out (by kernel_rfl)) (fun _ _ _ h => h) (Or.inr ⟨by rfl, rfl⟩) ?_ ?_
                       rotate_left
                       ·simp only [Act.put, zq1, zq2, zq3, i64_w, i32_w]
                        rfl
                       refine pure_ (i := 30) (N := some 85) (v := undef) (a' := ?_) (ab 33 2147483647) rfl rfl (any_of HT_.out (by kernel_rfl)) (fun _ _ _ h => h) (Or.inr ⟨by rfl, rfl⟩) ?_ ?_
                       rotate_left
                       ·simp only [Act.put, zq1, zq2, zq3, i64_w, i32_w]
                        rfl
                       refine pure_ (i := 31) (N := some 86) (v := ?_) (a' := ?_) (ab 33 4294967295) rfl rfl (any_of HT_.out (by kernel_rfl)) (fun _ _ _ h => h) (Or.inl ⟨by rfl, ?_⟩) ?_ ?_
                       rotate_left
                       ·intro w'
                        go_simp
                        with_reducible rfl
                       rotate_left
                       ·simp only [Act.put, zq1, zq2, zq3, i64_w, i32_w]
                        rfl
                       refine pure_ (i := 32) (N := some 87) (v := ?_) (a' := ?_) (ab 33 8589934591) rfl rfl (any_of HT_.out (by kernel_rfl)) (fun _ _ _ h => h) (Or.inl ⟨by rfl, ?_⟩) ?_ ?_
                       rotate_left
                       ·intro w'
                        go_simp
                        with_reducible rfl
                       rotate_left
                       ·simp only [Act.put, zq1, zq2, zq3, i64_w, i32_w]
                        rfl
                       refine done_ (done_of HT_.out (by kernel_rfl)) ?_
                       try go_wp2
                       have n0_ := Aside0.mk (Kd.R_drew HO_5.out)
                       have n1_ := Aside0.mk (blk_drew BK149.out)
                       have n2_ := Aside0.mk (below_drew1 HB.out)
                       clear HO_5
                       clear BK149
                       clear HB
                       have HO_5 := n0_
                       have BK149 := n1_
                       have HB := n2_
                       clear n0_ n1_ n2_
                       have p163 : 0 ≤ (t160 : Int) := of_decide_eq_true (by first | (with_reducible assumption) | assumption)
                       have q163 : t160 < (x5_4.length : Int) := of_decide_eq_true (by first | (with_reducible assumption) | assumption)
                       obtain ⟨ad163, e163, hx163_0⟩ := Kd.at_int (Kd.R_reads' HO_5.out).2.2 t160 p163 q163
                       obtain rfl : ad161 = ad163 := (by injection e163)
                       replace p163 := eq_true p163
                       replace q163 := eq_true q163
                       have p164 : 0 ≤ (t160 : Int) := of_decide_eq_true (by first | (with_reducible assumption) | assumption)
                       have q164 : t160 < (l0_2.length : Int) := of_decide_eq_true (by first | (with_reducible assumption) | assumption)
                       obtain ⟨ad164, e164, hx164_0⟩ := Kd.at_int HR0_2.out t160 p164 q164
                       have hw164_0 := hx164_0
                       cases e164
                       replace hx164_0 := (HB.out.cell (World.block_lt_of_cell? w _ hx164_0)).trans hx164_0
                       replace p164 := eq_true p164
                       replace q164 := eq_true q164
                       have p40 : 0 ≤ (x36_3 : Int) := of_decide_eq_true (by first | (with_reducible assumption) | assumption)
                       have q40 : (x36_3 : Int) < ((x5_4.length : Int) : Int) := of_decide_eq_true (by first | (with_reducible assumption) | assumption)
                       obtain ⟨go40, co40, eo40, gb40, gl40, cl40, HG40⟩ := Kd.R_form HO_5.out (by omega)
                       (first | cases eo40 | (injection eo40 with ea_ en_ ec_; (first | subst ea_ | (injection ea_ with ea_; subst ea_)); subst ec_; clear en_))
                       have GB40 := Aside0.mk gb40
                       have GG40 := Aside0.mk HG40
                       clear gb40 gl40 HG40
                       (first | simp only [add_plain] at hx161_0 | skip)
                       (first | simp only [add_plain] at hx162_0 | skip)
                       (first | simp only [add_plain] at hx163_0 | skip)
                       obtain ⟨hx40_0, hf40_0⟩ := Kd.R_celln 0 HO_5.out (x36_3 : Int) p40 q40
                       replace p40 := eq_true p40
                       replace q40 := eq_true q40
                       have HP45 := Kd.R_putn HO_5.out (x36_3 : Int) (wrap64 ((rd x5_4 t160) + (rd l0_2 t160)))
                       rw [← Ny165.out] at HP45
                       have HQ45 := Aside0.mk HP45
                       clear HP45
                       refine start_ (n := 15) (S := fun w' => w'.cell? ⟨gb149, 0, none⟩ = some (.int .i64 a0_0) ∧ w'.cell? ⟨gb149, 1, none⟩ = some (.int .i64 a0_1) ∧ w'.cell? ⟨gb149, 2, none⟩ = some (.slice (some ad164) l0_2.length c0_2) ∧ w'.cell? ⟨go40, (t160).toNat, none⟩ = some (.int .i64 (rd x5_4 t160)) ∧ w'.cell? (ad164.add (t160).toNat) = some (.int .i64 (rd l0_2 t160))) (ds := [13]) (ab 15 0) (by kernel_rfl) rfl rfl ⟨(blk_cell BK149.out 0).trans rfl, (blk_cell BK149.out 1).trans rfl, (blk_cell BK149.out 2).trans rfl, hx163_0, ((HB.out.cell (World.block_lt_of_cell? w _ hw164_0)).trans hw164_0)⟩ (fun hHeld => ?_); refine with_tabW tourref5_Costs.tab19 tourref5_Costs.bits19 (fun HT_ HW_ => ?_)
                       generalize w43.drew = w44 at HO_5 BK149 HB GG40 HQ45 hf40_0 hx161_0 hx162_0 hx163_0 hx164_0 hx40_0 hHeld ⊢
                       refine pure_ (i := 0) (N := some 88) (v := ?_) (a' := ?_) (ab 15 1) rfl rfl (any_of HT_.out (by kernel_rfl)) (fun _ _ _ h => h) (Or.inl ⟨by rfl, ?_⟩) ?_ ?_
                       rotate_left
                       ·intro w'
                        go_simp
                        with_reducible rfl
                       rotate_left
                       ·simp only [Act.put, zq1, zq2, zq3, i64_w, i32_w]
                        rfl
                       refine pure_ (i := 1) (N := some 89) (v := ?_) (a' := ?_) (ab 15 3) rfl rfl (any_of HT_.out (by kernel_rfl)) (fun _ _ _ h => h) (Or.inl ⟨by rfl, ?_⟩) ?_ ?_
                       rotate_left
                       ·intro w'
                        go_simp
                        with_reducible rfl
                       rotate_left
                       ·simp only [Act.put, zq1, zq2, zq3, i64_w, i32_w]
                        rfl
                       refine pure_ (i := 2) (N := some 90) (v := ?_) (a' := ?_) (ab 15 7) rfl rfl (any_of HT_.out (by kernel_rfl)) (fun _ _ _ h => h) (Or.inl ⟨by rfl, ?_⟩) ?_ ?_
                       rotate_left
                       ·intro w'
                        go_simp
                        with_reducible rfl
                       rotate_left
                       ·simp only [Act.put, zq1, zq2, zq3, i64_w, i32_w]
                        rfl
                       refine pure_ (i := 3) (N := some 91) (v := ?_) (a' := ?_) (ab 15 15) rfl rfl (any_of HT_.out (by kernel_rfl)) (fun _ _ _ h => h) (Or.inl ⟨by rfl, ?_⟩) ?_ ?_
                       rotate_left
                       ·intro w'
                        go_simp
                        with_reducible rfl
                       rotate_left
                       ·simp only [Act.put, zq1, zq2, zq3, i64_w, i32_w]
                        rfl
                       refine pure_ (i := 4) (N := some 92) (v := ?_) (a' := ?_) (ab 15 31) rfl rfl (any_of HT_.out (by kernel_rfl)) (fun _ _ _ h => h) (Or.inl ⟨by rfl, ?_⟩) ?_ ?_
                       rotate_left
                       ·intro w'
                        go_simp
                        with_reducible rfl
                       rotate_left
                       ·simp only [Act.put, zq1, zq2, zq3, i64_w, i32_w]
                        rfl
                       refine pure_ (i := 6) (N := some 94) (v := ?_) (a' := ?_) (ab 15 95) rfl rfl (any_of HT_.out (by kernel_rfl)) (fun _ _ _ h => h) (Or.inl ⟨by rfl, ?_⟩) ?_ ?_
                       rotate_left
                       ·intro w'
                        go_simp
                        with_reducible rfl
                       rotate_left
                       ·simp only [Act.put, zq1, zq2, zq3, i64_w, i32_w]
                        rfl
                       refine pure_ (i := 8) (N := some 96) (v := ?_) (a' := ?_) (ab 15 351) rfl rfl (any_of HT_.out (by kernel_rfl)) (fun _ _ _ h => h) (Or.inl ⟨by rfl, ?_⟩) ?_ ?_
                       rotate_left
                       ·intro w'
                        go_simp
                        with_reducible rfl
                       rotate_left
                       ·simp only [Act.put, zq1, zq2, zq3, i64_w, i32_w]
                        rfl
                       refine take_ (i := 5) (N := some 93) (v := ?_) (a' := ?_) (ab 15 383) rfl rfl (take_ofW HT_.out HW_.out (by kernel_rfl)) (fun _ _ _ h => h) (Or.inl ⟨by rfl, ?_⟩) hHeld ?_ ?_
                       rotate_left
                       ·rintro w' ⟨s0, s1, s2, s3, s4⟩
                        go_simp
                        with_reducible rfl
                       rotate_left
                       ·simp only [Act.put, zq1, zq2, zq3, i64_w, i32_w]
                        rfl
                       refine take_ (i := 7) (N := some 95) (v := ?_) (a' := ?_) (ab 15 511) rfl rfl (take_ofW HT_.out HW_.out (by kernel_rfl)) (fun _ _ _ h => h) (Or.inl ⟨by rfl, ?_⟩) hHeld ?_ ?_
                       rotate_left
                       ·rintro w' ⟨s0, s1, s2, s3, s4⟩
                        go_simp
                        with_reducible rfl
                       rotate_left
                       ·simp only [Act.put, zq1, zq2, zq3, i64_w, i32_w]
                        rfl
                       refine pure_ (i := 9) (N := some 97) (v := ?_) (a' := ?_) (ab 15 1023) rfl rfl (any_of HT_.out (by kernel_rfl)) (fun _ _ _ h => h) (Or.inl ⟨by rfl, ?_⟩) ?_ ?_
                       rotate_left
                       ·intro w'
                        go_simp
                        with_reducible rfl
                       rotate_left
                       ·simp only [Act.put, zq1, zq2, zq3, i64_w, i32_w]
                        rfl
                       refine take_ (i := 10) (N := some 98) (v := ?_) (a' := ?_) (ab 15 2047) rfl rfl (take_ofW HT_.out HW_.out (by kernel_rfl)) (fun _ _ _ h => h) (Or.inl ⟨by rfl, ?_⟩) hHeld ?_ ?_
                       rotate_left
                       ·rintro w' ⟨s0, s1, s2, s3, s4⟩
                        go_simp
                        with_reducible rfl
                       rotate_left
                       ·simp only [Act.put, zq1, zq2, zq3, i64_w, i32_w]
                        rfl
                       refine pure_ (i := 11) (N := some 99) (v := ?_) (a' := ?_) (ab 15 4095) rfl rfl (any_of HT_.out (by kernel_rfl)) (fun _ _ _ h => h) (Or.inl ⟨by rfl, ?_⟩) ?_ ?_
                       rotate_left
                       ·intro w'
                        go_simp
                        with_reducible rfl
                       rotate_left
                       ·simp only [Act.put, zq1, zq2, zq3, i64_w, i32_w]
                        rfl
                       refine pure_ (i := 12) (N := some 100) (v := ?_) (a' := ?_) (ab 15 8191) rfl rfl (any_of HT_.out (by kernel_rfl)) (fun _ _ _ h => h) (Or.inl ⟨by rfl, ?_⟩) ?_ ?_
                       rotate_left
                       ·intro w'
                        go_simp
                        with_reducible rfl
                       rotate_left
                       ·simp only [Act.put, zq1, zq2, zq3, i64_w, i32_w]
                        rfl
                       refine last_ (i := 13) (N := none) (ab 15 16383) rfl rfl (one_of HT_.out (by kernel_rfl)) (by decide) (fun K hK => ?_)
                       refine skip_ (w1 := ?_) (by rfl) rfl ?_ ?_
                       rotate_left
                       ·go_simp
                        rfl
                       refine hK.out _ _ ?_
                       clear hK K
                       refine pure_ (i := 14) (N := some 8) (v := ?_) (a' := ?_) (ab 15 32767) rfl rfl (any_of HT_.out (by kernel_rfl)) (fun _ _ _ h => h) (Or.inl ⟨by rfl, ?_⟩) ?_ ?_
                       rotate_left
                       ·intro w'
                        go_simp
                        with_reducible rfl
                       rotate_left
                       ·simp only [Act.put, zq1, zq2, zq3, i64_w, i32_w]
                        rfl
                       refine done_ (done_of HT_.out (by kernel_rfl)) ?_
                       try go_wp2
                       (try simp only [← hl5_4])
                       go_roundg kj24
                       case measure => have := HK1.out; have := HK2.out; have := HK3.out; have := HK4.out; have := HJ24.out; omega
                       case rel => exact ⟨(y165), (true), (wrap64 (x10_4 + 1)), (by first | rfl | (simp; done) | (simp [*]; done)), (by first | rfl | (simp; done) | (simp [*]; done)), H', ⟨by have := HK1.out; have := HK2.out; have := HK3.out; have := HK4.out; have := HJ24.out; omega⟩, ⟨by (try simp only [hl5_3]); (try simp only [hl5_4]); (with_reducible repeat (first | apply Kd.R_alloc | apply Kd.R_drewN | apply Kd.R_drew)); exact HQ45.out⟩, ⟨by (try simp only [hl5_3]); (try simp only [hl5_4]); (with_reducible repeat (first | refine blk_drewN ?_ _ | refine blk_drew ?_ | refine blk_alloc ?_ _)); refine blk_far ?_ (by have h_ := Kd.R_ne HO_5.out BK149.out (by decide); intro e_; exact h_ (by rw [e_]; rfl)) _; (with_reducible repeat (first | refine blk_drewN ?_ _ | refine blk_drew ?_ | refine blk_alloc ?_ _)); exact BK149.out⟩, ⟨by repeat (first | (with_reducible first | exact HB.out | apply below_alloc | apply pw_below_drewN | apply below_drew1 | refine below_set ?_ GB40.out | refine below_set ?_ GE149.out) | exact HB.out)⟩⟩
                      ·rw [if_neg c39] at H
                       exact absurd H (by simp)
                     ·rw [if_neg c38] at H
                      have c38b0 : decide ((rd x5_4 x36_3) < 0) = false := decide_eq_false c38
                      clear c38
                      by_cases c46 : t160 < (l0_2.length : Int)
                      ·rw [if_pos c46] at H
                       have c46b0 : decide (t160 < (l0_2.length : Int)) = true := decide_eq_true c46
                       clear c46
                       (try rw [hl5_3] at c46b0)
                       (try rw [hl5_4] at c46b0)
                       by_cases c47 : (wrap64 ((rd x5_4 t160) + (rd l0_2 t160))) < (rd x5_4 x36_3)
                       ·rw [if_pos c47] at H
                        have c47b0 : decide ((wrap64 ((rd x5_4 t160) + (rd l0_2 t160))) < (rd x5_4 x36_3)) = true := decide_eq_true c47
                        clear c47
                        obtain ⟨y171, hy171⟩ : ∃ y_ : List Int, y_ = (x5_4.set (x36_3 : Int).toNat (wrap64 ((rd x5_4 t160) + (rd l0_2 t160)))) := ⟨_, rfl⟩
                        replace H : (tourref5_Costs.l3 kj24 y171 true x36_3 (wrap64 (x10_4 + 1)) (x5_2.length : Int) x36_3 a0_0 a0_1 l0_2) = some r := by first | (rw [hy171]; with_reducible exact H) | (have H2_ := (Option.bind_some _ _).symm.trans H; rw [hy171]; with_reducible exact H2_) | (have H2_ := (Option.bind_some _ _).symm.trans H; with_reducible exact H2_) | with_reducible exact H | (rw [hy171]; exact H) | exact H
                        have Ny171 := Aside0.mk hy171
                        clear hy171
                        have H' := Aside0.mk H
                        clear H
                        have hcz49_0 : wc.cell? ⟨gb149, 0, none⟩ = some (.int .i64 a0_0) := (blk_cell BK149.out 0).trans rfl
                        have hcz49_1 : wc.cell? ⟨gb149, 1, none⟩ = some (.int .i64 a0_1) := (blk_cell BK149.out 1).trans rfl
                        have hcz49_2 : wc.cell? ⟨gb149, 2, none⟩ = some (.slice A0_2 l0_2.length c0_2) := (blk_cell BK149.out 2).trans rfl
                        have hfz49_0 := blk_frozen BK149.out 0
                        have hfz49_1 := blk_frozen BK149.out 1
                        have hfz49_2 := blk_frozen BK149.out 2
                        try go_wp2_with (first | ((with_reducible refine gate_callee (f := 19) rfl ?_); refine goesL_ (some 54) rfl rfl Try.func19 (by kernel_rfl) rfl #[.agg #[.int .i64 a0_0, .int .i64 a0_1, .slice A0_2 l0_2.length c0_2], .int .i64 x36_3, .int .i64 x10_4] rfl (by (try simp only [zm1, zm2, zm3]); first | done | rfl) ?_; (with_reducible refine (tourref5_Beyond.calls kj24 a0_0 a0_1 _ _ l0_2 x36_3 x10_4 t160 _ ?side1 ?side2 A31.out).mono ?_); (case side1 => repeat (first | exact (Kd.C_below HR0_2.out HB.out) | (with_reducible refine Kd.C_alloc ?_ _) | (with_reducible refine Kd.C_drewN ?_ _) | (with_reducible refine Kd.C_drew ?_))); (case side2 => exact HC0_2.out); rintro e w50 ⟨rfl, hb⟩; refine ⟨_, rfl, ?_⟩; have n0_ := Aside0.mk (Kd.R_below (by (with_reducible repeat (first | apply Kd.R_alloc | apply Kd.R_drewN | apply Kd.R_drew)); exact HO_5.out) hb); have n1_ := Aside0.mk (bb hb BK149.out); have n2_ := Aside0.mk (below_step (by repeat (first | (with_reducible first | exact HB.out | apply below_alloc | apply pw_below_drewN | apply below_drew1 | refine below_set ?_ GE149.out) | exact HB.out)) hb); clear HO_5; clear BK149; clear HB; have HO_5 := n0_; have BK149 := n1_; have HB := n2_; clear n0_ n1_ n2_; (try clear hb); (try clear hb2); (try clear hk); (try clear hi)))
                        have n0_ := Aside0.mk (Kd.R_drew HO_5.out)
                        have n1_ := Aside0.mk (blk_drew BK149.out)
                        have n2_ := Aside0.mk (below_drew1 HB.out)
                        clear HO_5
                        clear BK149
                        clear HB
                        have HO_5 := n0_
                        have BK149 := n1_
                        have HB := n2_
                        clear n0_ n1_ n2_
                        have p161 : 0 ≤ (t160 : Int) := of_decide_eq_true (by first | (with_reducible assumption) | assumption)
                        have q161 : t160 < (x5_4.length : Int) := of_decide_eq_true (by first | (with_reducible assumption) | assumption)
                        obtain ⟨ad161, e161, hx161_0⟩ := Kd.at_int (Kd.R_reads' HO_5.out).2.2 t160 p161 q161
                        cases e161
                        replace p161 := eq_true p161
                        replace q161 := eq_true q161
                        have p162 : 0 ≤ (x36_3 : Int) := of_decide_eq_true (by first | (with_reducible assumption) | assumption)
                        have q162 : x36_3 < (x5_4.length : Int) := of_decide_eq_true (by first | (with_reducible assumption) | assumption)
                        obtain ⟨ad162, e162, hx162_0⟩ := Kd.at_int (Kd.R_reads' HO_5.out).2.2 x36_3 p162 q162
                        obtain rfl : ad161 = ad162 := (by injection e162)
                        replace p162 := eq_true p162
                        replace q162 := eq_true q162
                        have p166 : 0 ≤ (t160 : Int) := of_decide_eq_true (by first | (with_reducible assumption) | assumption)
                        have q166 : t160 < (x5_4.length : Int) := of_decide_eq_true (by first | (with_reducible assumption) | assumption)
                        obtain ⟨ad166, e166, hx166_0⟩ := Kd.at_int (Kd.R_reads' HO_5.out).2.2 t160 p166 q166
                        obtain rfl : ad161 = ad166 := (by injection e166)
                        replace p166 := eq_true p166
                        replace q166 := eq_true q166
                        have p167 : 0 ≤ (t160 : Int) := of_decide_eq_true (by first | (with_reducible assumption) | assumption)
                        have q167 : t160 < (l0_2.length : Int) := of_decide_eq_true (by first | (with_reducible assumption) | assumption)
                        obtain ⟨ad167, e167, hx167_0⟩ := Kd.at_int HR0_2.out t160 p167 q167
                        have hw167_0 := hx167_0
                        cases e167
                        replace hx167_0 := (HB.out.cell (World.block_lt_of_cell? w _ hx167_0)).trans hx167_0
                        replace p167 := eq_true p167
                        replace q167 := eq_true q167
                        have p168 : 0 ≤ (x36_3 : Int) := of_decide_eq_true (by first | (with_reducible assumption) | assumption)
                        have q168 : x36_3 < (x5_4.length : Int) := of_decide_eq_true (by first | (with_reducible assumption) | assumption)
                        obtain ⟨ad168, e168, hx168_0⟩ := Kd.at_int (Kd.R_reads' HO_5.out).2.2 x36_3 p168 q168
                        obtain rfl : ad161 = ad168 := (by injection e168)
                        replace p168 := eq_true p168
                        replace q168 := eq_true q168
                        refine start_ (n := 33) (S := fun w' => w'.cell? ⟨gb149, 0, none⟩ = some (.int .i64 a0_0) ∧ w'.cell? ⟨gb149, 1, none⟩ = some (.int .i64 a0_1) ∧ w'.cell? ⟨gb149, 2, none⟩ = some (.slice (some ad167) l0_2.length c0_2) ∧ w'.cell? (ad161.add (t160).toNat) = some (.int .i64 (rd x5_4 t160)) ∧ w'.cell? (ad161.add (x36_3).toNat) = some (.int .i64 (rd x5_4 x36_3)) ∧ w'.cell? (ad161.add (t160).toNat) = some (.int .i64 (rd x5_4 t160)) ∧ w'.cell? (ad167.add (t160).toNat) = some (.int .i64 (rd l0_2 t160)) ∧ w'.cell? (ad161.add (x36_3).toNat) = some (.int .i64 (rd x5_4 x36_3))) (ds := []) (ab 33 0) (by kernel_rfl) rfl rfl ⟨(blk_cell BK149.out 0).trans rfl, (blk_cell BK149.out 1).trans rfl, (blk_cell BK149.out 2).trans rfl, hx161_0, hx162_0, hx166_0, ((HB.out.cell (World.block_lt_of_cell? w _ hw167_0)).trans hw167_0), hx168_0⟩ (fun hHeld => ?_); refine with_tabW tourref5_Costs.tab18 tourref5_Costs.bits18 (fun HT_ HW_ => ?_)
                        generalize w50.drew = w51 at HO_5 BK149 HB hx161_0 hx162_0 hx166_0 hx167_0 hx168_0 hHeld ⊢
                        refine pure_ (i := 0) (N := some 55) (v := ?_) (a' := ?_) (ab 33 1) rfl rfl (any_of HT_.out (by kernel_rfl)) (fun _ _ _ h => h) (Or.inl ⟨by rfl, ?_⟩) ?_ ?_
                        rotate_left
                        ·intro w'
                         go_simp
                         with_reducible rfl
                        rotate_left
                        ·simp only [Act.put, zq1, zq2, zq3, i64_w, i32_w]
                         rfl
                        refine pure_ (i := 1) (N := some 56) (v := ?_) (a' := ?_) (ab 33 3) rfl rfl (any_of HT_.out (by kernel_rfl)) (fun _ _ _ h => h) (Or.inl ⟨by rfl, ?_⟩) ?_ ?_
                        rotate_left
                        ·intro w'
                         go_simp
                         with_reducible rfl
                        rotate_left
                        ·simp only [Act.put, zq1, zq2, zq3, i64_w, i32_w]
                         rfl
                        refine pure_ (i := 2) (N := some 57) (v := ?_) (a' := ?_) (ab 33 7) rfl rfl (any_of HT_.out (by kernel_rfl)) (fun _ _ _ h => h) (Or.inl ⟨by rfl, ?_⟩) ?_ ?_
                        rotate_left
                        ·intro w'
                         go_simp
                         with_reducible rfl
                        rotate_left
                        ·simp only [Act.put, zq1, zq2, zq3, i64_w, i32_w]
                         rfl
                        refine pure_ (i := 3) (N := some 58) (v := ?_) (a' := ?_) (ab 33 15) rfl rfl (any_of HT_.out (by kernel_rfl)) (fun _ _ _ h => h) (Or.inl ⟨by rfl, ?_⟩) ?_ ?_
                        rotate_left
                        ·intro w'
                         go_simp
                         with_reducible rfl
                        rotate_left
                        ·simp only [Act.put, zq1, zq2, zq3, i64_w, i32_w]
                         rfl
                        refine pure_ (i := 4) (N := some 59) (v := ?_) (a' := ?_) (ab 33 31) rfl rfl (any_of HT_.out (by kernel_rfl)) (fun _ _ _ h => h) (Or.inl ⟨by rfl, ?_⟩) ?_ ?_
                        rotate_left
                        ·intro w'
                         go_simp
                         with_reducible rfl
                        rotate_left
                        ·simp only [Act.put, zq1, zq2, zq3, i64_w, i32_w]
                         rfl
                        refine pure_ (i := 5) (N := some 60) (v := ?_) (a' := ?_) (ab 33 63) rfl rfl (any_of HT_.out (by kernel_rfl)) (fun _ _ _ h => h) (Or.inl ⟨by rfl, ?_⟩) ?_ ?_
                        rotate_left
                        ·intro w'
                         go_simp
                         with_reducible rfl
                        rotate_left
                        ·simp only [Act.put, zq1, zq2, zq3, i64_w, i32_w]
                         rfl
                        refine take_ (i := 6) (N := some 61) (v := ?_) (a' := ?_) (ab 33 127) rfl rfl (take_ofW HT_.out HW_.out (by kernel_rfl)) (fun _ _ _ h => h) (Or.inl ⟨by rfl, ?_⟩) hHeld ?_ ?_
                        rotate_left
                        ·rintro w' ⟨s0, s1, s2, s3, s4, s5, s6, s7⟩
                         go_simp
                         with_reducible rfl
                        rotate_left
                        ·simp only [Act.put, zq1, zq2, zq3, i64_w, i32_w]
                         rfl
                        refine pure_ (i := 7) (N := some 62) (v := ?_) (a' := ?_) (ab 33 255) rfl rfl (any_of HT_.out (by kernel_rfl)) (fun _ _ _ h => h) (Or.inl ⟨by rfl, ?_⟩) ?_ ?_
                        rotate_left
                        ·intro w'
                         go_simp
                         with_reducible rfl
                        rotate_left
                        ·simp only [Act.put, zq1, zq2, zq3, i64_w, i32_w]
                         rfl
                        refine pure_ (i := 8) (N := some 63) (v := ?_) (a' := ?_) (ab 33 511) rfl rfl (any_of HT_.out (by kernel_rfl)) (fun _ _ _ h => h) (Or.inl ⟨by rfl, ?_⟩) ?_ ?_
                        rotate_left
                        ·intro w'
                         go_simp
                         with_reducible rfl
                        rotate_left
                        ·simp only [Act.put, zq1, zq2, zq3, i64_w, i32_w]
                         rfl
                        refine pure_ (i := 9) (N := some 64) (v := ?_) (a' := ?_) (ab 33 1023) rfl rfl (any_of HT_.out (by kernel_rfl)) (fun _ _ _ h => h) (Or.inl ⟨by rfl, ?_⟩) ?_ ?_
                        rotate_left
                        ·intro w'
                         go_simp
                         with_reducible rfl
                        rotate_left
                        ·simp only [Act.put, zq1, zq2, zq3, i64_w, i32_w]
                         rfl
                        refine pure_ (i := 10) (N := some 65) (v := ?_) (a' := ?_) (ab 33 2047) rfl rfl (any_of HT_.out (by kernel_rfl)) (fun _ _ _ h => h) (Or.inl ⟨by rfl, ?_⟩) ?_ ?_
                        rotate_left
                        ·intro w'
                         go_simp
                         with_reducible rfl
                        rotate_left
                        ·simp only [Act.put, zq1, zq2, zq3, i64_w, i32_w]
                         rfl
                        refine pure_ (i := 11) (N := some 66) (v := ?_) (a' := ?_) (ab 33 4095) rfl rfl (any_of HT_.out (by kernel_rfl)) (fun _ _ _ h => h) (Or.inl ⟨by rfl, ?_⟩) ?_ ?_
                        rotate_left
                        ·intro w'
                         go_simp
                         with_reducible rfl
                        rotate_left
                        ·simp only [Act.put, zq1, zq2, zq3, i64_w, i32_w]
                         rfl
                        refine pure_ (i := 12) (N := some 67) (v := ?_) (a' := ?_) (ab 33 8191) rfl rfl (any_of HT_.out (by kernel_rfl)) (fun _ _ _ h => h) (Or.inl ⟨by rfl, ?_⟩) ?_ ?_
                        rotate_left
                        ·intro w'
                         go_simp
                         with_reducible rfl
                        rotate_left
                        ·simp only [Act.put, zq1, zq2, zq3, i64_w, i32_w]
                         rfl
                        refine take_ (i := 13) (N := some 68) (v := ?_) (a' := ?_) (ab 33 16383) rfl rfl (take_ofW HT_.out HW_.out (by kernel_rfl)) (fun _ _ _ h => h) (Or.inl ⟨by rfl, ?_⟩) hHeld ?_ ?_
                        rotate_left
                        ·rintro w' ⟨s0, s1, s2, s3, s4, s5, s6, s7⟩
                         go_simp
                         with_reducible rfl
                        rotate_left
                        ·simp only [Act.put, zq1, zq2, zq3, i64_w, i32_w]
                         rfl
                        refine pure_ (i := 14) (N := some 69) (v := ?_) (a' := ?_) (ab 33 32767) rfl rfl (any_of HT_.out (by kernel_rfl)) (fun _ _ _ h => h) (Or.inl ⟨by rfl, ?_⟩) ?_ ?_
                        rotate_left
                        ·intro w'
                         go_simp
                         with_reducible rfl
                        rotate_left
                        ·simp only [Act.put, zq1, zq2, zq3, i64_w, i32_w]
                         rfl
                        refine pure_ (i := 15) (N := some 70) (v := ?_) (a' := ?_) (ab 33 65535) rfl rfl (any_of HT_.out (by kernel_rfl)) (fun _ _ _ h => h) (Or.inl ⟨by rfl, ?_⟩) ?_ ?_
                        rotate_left
                        ·intro w'
                         go_simp
                         with_reducible rfl
                        rotate_left
                        ·simp only [Act.put, zq1, zq2, zq3, i64_w, i32_w]
                         rfl
                        refine pure_ (i := 16) (N := some 71) (v := ?_) (a' := ?_) (ab 33 131071) rfl rfl (any_of HT_.out (by kernel_rfl)) (fun _ _ _ h => h) (Or.inl ⟨by rfl, ?_⟩) ?_ ?_
                        rotate_left
                        ·intro w'
                         go_simp
                         with_reducible rfl
                        rotate_left
                        ·simp only [Act.put, zq1, zq2, zq3, i64_w, i32_w]
                         rfl
                        refine pure_ (i := 17) (N := some 72) (v := ?_) (a' := ?_) (ab 33 262143) rfl rfl (any_of HT_.out (by kernel_rfl)) (fun _ _ _ h => h) (Or.inl ⟨by rfl, ?_⟩) ?_ ?_
                        rotate_left
                        ·intro w'
                         go_simp
                         with_reducible rfl
                        rotate_left
                        ·simp only [Act.put, zq1, zq2, zq3, i64_w, i32_w]
                         rfl
                        refine pure_ (i := 18) (N := some 73) (v := ?_) (a' := ?_) (ab 33 524287) rfl rfl (any_of HT_.out (by kernel_rfl)) (fun _ _ _ h => h) (Or.inl ⟨by rfl, ?_⟩) ?_ ?_
                        rotate_left
                        ·intro w'
                         go_simp
                         with_reducible rfl
                        rotate_left
                        ·simp only [Act.put, zq1, zq2, zq3, i64_w, i32_w]
                         rfl
                        refine pure_ (i := 20) (N := some 75) (v := ?_) (a' := ?_) (ab 33 1572863) rfl rfl (any_of HT_.out (by kernel_rfl)) (fun _ _ _ h => h) (Or.inl ⟨by rfl, ?_⟩) ?_ ?_
                        rotate_left
                        ·intro w'
                         go_simp
                         with_reducible rfl
                        rotate_left
                        ·simp only [Act.put, zq1, zq2, zq3, i64_w, i32_w]
                         rfl
                        refine pure_ (i := 22) (N := some 77) (v := ?_) (a' := ?_) (ab 33 5767167) rfl rfl (any_of HT_.out (by kernel_rfl)) (fun _ _ _ h => h) (Or.inl ⟨by rfl, ?_⟩) ?_ ?_
                        rotate_left
                        ·intro w'
                         go_simp
                         with_reducible rfl
                        rotate_left
                        ·simp only [Act.put, zq1, zq2, zq3, i64_w, i32_w]
                         rfl
                        refine pure_ (i := 26) (N := some 81) (v := ?_) (a' := ?_) (ab 33 72876031) rfl rfl (any_of HT_.out (by kernel_rfl)) (fun _ _ _ h => h) (Or.inl ⟨by rfl, ?_⟩) ?_ ?_
                        rotate_left
                        ·intro w'
                         go_simp
                         with_reducible rfl
                        rotate_left
                        ·simp only [Act.put, zq1, zq2, zq3, i64_w, i32_w]
                         rfl
                        refine pure_ (i := 27) (N := some 82) (v := ?_) (a' := ?_) (ab 33 207093759) rfl rfl (any_of HT_.out (by kernel_rfl)) (fun _ _ _ h => h) (Or.inl ⟨by rfl, ?_⟩) ?_ ?_
                        rotate_left
                        ·intro w'
                         go_simp
                         with_reducible rfl
                        rotate_left
                        ·simp only [Act.put, zq1, zq2, zq3, i64_w, i32_w]
                         rfl
                        refine pure_ (i := 28) (N := some 83) (v := ?_) (a' := ?_) (ab 33 475529215) rfl rfl (any_of HT_.out (by kernel_rfl)) (fun _ _ _ h => h) (Or.inl ⟨by rfl, ?_⟩) ?_ ?_
                        rotate_left
                        ·intro w'
                         go_simp
                         with_reducible rfl
                        rotate_left
                        ·simp only [Act.put, zq1, zq2, zq3, i64_w, i32_w]
                         rfl
                        refine take_ (i := 19) (N := some 74) (v := ?_) (a' := ?_) (ab 33 476053503) rfl rfl (take_ofW HT_.out HW_.out (by kernel_rfl)) (fun _ _ _ h => h) (Or.inl ⟨by rfl, ?_⟩) hHeld ?_ ?_
                        rotate_left
                        ·rintro w' ⟨s0, s1, s2, s3, s4, s5, s6, s7⟩
                         go_simp
                         with_reducible rfl
                        rotate_left
                        ·simp only [Act.put, zq1, zq2, zq3, i64_w, i32_w]
                         rfl
                        refine take_ (i := 21) (N := some 76) (v := ?_) (a' := ?_) (ab 33 478150655) rfl rfl (take_ofW HT_.out HW_.out (by kernel_rfl)) (fun _ _ _ h => h) (Or.inl ⟨by rfl, ?_⟩) hHeld ?_ ?_
                        rotate_left
                        ·rintro w' ⟨s0, s1, s2, s3, s4, s5, s6, s7⟩
                         go_simp
                         with_reducible rfl
                        rotate_left
                        ·simp only [Act.put, zq1, zq2, zq3, i64_w, i32_w]
                         rfl
                        refine pure_ (i := 23) (N := some 78) (v := ?_) (a' := ?_) (ab 33 486539263) rfl rfl (any_of HT_.out (by kernel_rfl)) (fun _ _ _ h => h) (Or.inl ⟨by rfl, ?_⟩) ?_ ?_
                        rotate_left
                        ·intro w'
                         go_simp
                         with_reducible rfl
                        rotate_left
                        ·simp only [Act.put, zq1, zq2, zq3, i64_w, i32_w]
                         rfl
                        refine take_ (i := 24) (N := some 79) (v := ?_) (a' := ?_) (ab 33 503316479) rfl rfl (take_ofW HT_.out HW_.out (by kernel_rfl)) (fun _ _ _ h => h) (Or.inl ⟨by rfl, ?_⟩) hHeld ?_ ?_
                        rotate_left
                        ·rintro w' ⟨s0, s1, s2, s3, s4, s5, s6, s7⟩
                         go_simp
                         with_reducible rfl
                        rotate_left
                        ·simp only [Act.put, zq1, zq2, zq3, i64_w, i32_w]
                         rfl
                        refine pure_ (i := 25) (N := some 80) (v := ?_) (a' := ?_) (ab 33 536870911) rfl rfl (any_of HT_.out (by kernel_rfl)) (fun _ _ _ h => h) (Or.inl ⟨by rfl, ?_⟩) ?_ ?_
                        rotate_left
                        ·intro w'
                         go_simp
                         with_reducible rfl
                        rotate_left
                        ·simp only [Act.put, zq1, zq2, zq3, i64_w, i32_w]
                         rfl
                        refine take_ (i := 29) (N := some 84) (v := ?_) (a' := ?_) (ab 33 1073741823) rfl rfl (take_ofW HT_.out HW_.out (by kernel_rfl)) (fun _ _ _ h => h) (Or.inl ⟨by rfl, ?_⟩) hHeld ?_ ?_
                        rotate_left
                        ·rintro w' ⟨s0, s1, s2, s3, s4, s5, s6, s7⟩
                         go_simp
                         with_reducible rfl
                        rotate_left
                        ·simp only [Act.put, zq1, zq2, zq3, i64_w, i32_w]
                         rfl
                        refine pure_ (i := 30) (N := some 85) (v := ?_) (a' := ?_) (ab 33 2147483647) rfl rfl (any_of HT_.out (by kernel_rfl)) (fun _ _ _ h => h) (Or.inl ⟨by rfl, ?_⟩) ?_ ?_
                        rotate_left
                        ·intro w'
                         go_simp
                         with_reducible rfl
                        rotate_left
                        ·simp only [Act.put, zq1, zq2, zq3, i64_w, i32_w]
                         rfl
                        refine pure_ (i := 31) (N := some 86) (v := ?_) (a' := ?_) (ab 33 4294967295) rfl rfl (any_of HT_.out (by kernel_rfl)) (fun _ _ _ h => h) (Or.inl ⟨by rfl, ?_⟩) ?_ ?_
                        rotate_left
                        ·intro w'
                         go_simp
                         with_reducible rfl
                        rotate_left
                        ·simp only [Act.put, zq1, zq2, zq3, i64_w, i32_w]
                         rfl
                        refine pure_ (i := 32) (N := some 87) (v := ?_) (a' := ?_) (ab 33 8589934591) rfl rfl (any_of HT_.out (by kernel_rfl)) (fun _ _ _ h => h) (Or.inl ⟨by rfl, ?_⟩) ?_ ?_
                        rotate_left
                        ·intro w'
                         go_simp
                         with_reducible rfl
                        rotate_left
                        ·simp only [Act.put, zq1, zq2, zq3, i64_w, i32_w]
                         rfl
                        refine done_ (done_of HT_.out (by kernel_rfl)) ?_
                        try go_wp2
                        have n0_ := Aside0.mk (Kd.R_drew HO_5.out)
                        have n1_ := Aside0.mk (blk_drew BK149.out)
                        have n2_ := Aside0.mk (below_drew1 HB.out)
                        clear HO_5
                        clear BK149
                        clear HB
                        have HO_5 := n0_
                        have BK149 := n1_
                        have HB := n2_
                        clear n0_ n1_ n2_
                        have p169 : 0 ≤ (t160 : Int) := of_decide_eq_true (by first | (with_reducible assumption) | assumption)
                        have q169 : t160 < (x5_4.length : Int) := of_decide_eq_true (by first | (with_reducible assumption) | assumption)
                        obtain ⟨ad169, e169, hx169_0⟩ := Kd.at_int (Kd.R_reads' HO_5.out).2.2 t160 p169 q169
                        obtain rfl : ad161 = ad169 := (by injection e169)
                        replace p169 := eq_true p169
                        replace q169 := eq_true q169
                        have p170 : 0 ≤ (t160 : Int) := of_decide_eq_true (by first | (with_reducible assumption) | assumption)
                        have q170 : t160 < (l0_2.length : Int) := of_decide_eq_true (by first | (with_reducible assumption) | assumption)
                        obtain ⟨ad170, e170, hx170_0⟩ := Kd.at_int HR0_2.out t160 p170 q170
                        have hw170_0 := hx170_0
                        obtain rfl : ad167 = ad170 := (by injection e170)
                        replace hx170_0 := (HB.out.cell (World.block_lt_of_cell? w _ hx170_0)).trans hx170_0
                        replace p170 := eq_true p170
                        replace q170 := eq_true q170
                        have p48 : 0 ≤ (x36_3 : Int) := of_decide_eq_true (by first | (with_reducible assumption) | assumption)
                        have q48 : (x36_3 : Int) < ((x5_4.length : Int) : Int) := of_decide_eq_true (by first | (with_reducible assumption) | assumption)
                        obtain ⟨go48, co48, eo48, gb48, gl48, cl48, HG48⟩ := Kd.R_form HO_5.out (by omega)
                        (first | cases eo48 | (injection eo48 with ea_ en_ ec_; (first | subst ea_ | (injection ea_ with ea_; subst ea_)); subst ec_; clear en_))
                        have GB48 := Aside0.mk gb48
                        have GG48 := Aside0.mk HG48
                        clear gb48 gl48 HG48
                        (first | simp only [add_plain] at hx161_0 | skip)
                        (first | simp only [add_plain] at hx162_0 | skip)
                        (first | simp only [add_plain] at hx166_0 | skip)
                        (first | simp only [add_plain] at hx168_0 | skip)
                        (first | simp only [add_plain] at hx169_0 | skip)
                        obtain ⟨hx48_0, hf48_0⟩ := Kd.R_celln 0 HO_5.out (x36_3 : Int) p48 q48
                        replace p48 := eq_true p48
                        replace q48 := eq_true q48
                        have HP53 := Kd.R_putn HO_5.out (x36_3 : Int) (wrap64 ((rd x5_4 t160) + (rd l0_2 t160)))
                        rw [← Ny171.out] at HP53
                        have HQ53 := Aside0.mk HP53
                        clear HP53
                        refine start_ (n := 15) (S := fun w' => w'.cell? ⟨gb149, 0, none⟩ = some (.int .i64 a0_0) ∧ w'.cell? ⟨gb149, 1, none⟩ = some (.int .i64 a0_1) ∧ w'.cell? ⟨gb149, 2, none⟩ = some (.slice (some ad167) l0_2.length c0_2) ∧ w'.cell? ⟨go48, (t160).toNat, none⟩ = some (.int .i64 (rd x5_4 t160)) ∧ w'.cell? (ad167.add (t160).toNat) = some (.int .i64 (rd l0_2 t160))) (ds := [13]) (ab 15 0) (by kernel_rfl) rfl rfl ⟨(blk_cell BK149.out 0).trans rfl, (blk_cell BK149.out 1).trans rfl, (blk_cell BK149.out 2).trans rfl, hx169_0, ((HB.out.cell (World.block_lt_of_cell? w _ hw170_0)).trans hw170_0)⟩ (fun hHeld => ?_); refine with_tabW tourref5_Costs.tab19 tourref5_Costs.bits19 (fun HT_ HW_ => ?_)
                        generalize w51.drew = w52 at HO_5 BK149 HB GG48 HQ53 hf48_0 hx161_0 hx162_0 hx166_0 hx168_0 hx169_0 hx170_0 hx48_0 hHeld ⊢
                        refine pure_ (i := 0) (N := some 88) (v := ?_) (a' := ?_) (ab 15 1) rfl rfl (any_of HT_.out (by kernel_rfl)) (fun _ _ _ h => h) (Or.inl ⟨by rfl, ?_⟩) ?_ ?_
                        rotate_left
                        ·intro w'
                         go_simp
                         with_reducible rfl
                        rotate_left
                        ·simp only [Act.put, zq1, zq2, zq3, i64_w, i32_w]
                         rfl
                        refine pure_ (i := 1) (N := some 89) (v := ?_) (a' := ?_) (ab 15 3) rfl rfl (any_of HT_.out (by kernel_rfl)) (fun _ _ _ h => h) (Or.inl ⟨by rfl, ?_⟩) ?_ ?_
                        rotate_left
                        ·intro w'
                         go_simp
                         with_reducible rfl
                        rotate_left
                        ·simp only [Act.put, zq1, zq2, zq3, i64_w, i32_w]
                         rfl
                        refine pure_ (i := 2) (N := some 90) (v := ?_) (a' := ?_) (ab 15 7) rfl rfl (any_of HT_.out (by kernel_rfl)) (fun _ _ _ h => h) (Or.inl ⟨by rfl, ?_⟩) ?_ ?_
                        rotate_left
                        ·intro w'
                         go_simp
                         with_reducible rfl
                        rotate_left
                        ·simp only [Act.put, zq1, zq2, zq3, i64_w, i32_w]
                         rfl
                        refine pure_ (i := 3) (N := some 91) (v := ?_) (a' := ?_) (ab 15 15) rfl rfl (any_of HT_.out (by kernel_rfl)) (fun _ _ _ h => h) (Or.inl ⟨by rfl, ?_⟩) ?_ ?_
                        rotate_left
                        ·intro w'
                         go_simp
                         with_reducible rfl
                        rotate_left
                        ·simp only [Act.put, zq1, zq2, zq3, i64_w, i32_w]
                         rfl
                        refine pure_ (i := 4) (N := some 92) (v := ?_) (a' := ?_) (ab 15 31) rfl rfl (any_of HT_.out (by kernel_rfl)) (fun _ _ _ h => h) (Or.inl ⟨by rfl, ?_⟩) ?_ ?_
                        rotate_left
                        ·intro w'
                         go_simp
                         with_reducible rfl
                        rotate_left
                        ·simp only [Act.put, zq1, zq2, zq3, i64_w, i32_w]
                         rfl
                        refine pure_ (i := 6) (N := some 94) (v := ?_) (a' := ?_) (ab 15 95) rfl rfl (any_of HT_.out (by kernel_rfl)) (fun _ _ _ h => h) (Or.inl ⟨by rfl, ?_⟩) ?_ ?_
                        rotate_left
                        ·intro w'
                         go_simp
                         with_reducible rfl
                        rotate_left
                        ·simp only [Act.put, zq1, zq2, zq3, i64_w, i32_w]
                         rfl
                        refine pure_ (i := 8) (N := some 96) (v := ?_) (a' := ?_) (ab 15 351) rfl rfl (any_of HT_.out (by kernel_rfl)) (fun _ _ _ h => h) (Or.inl ⟨by rfl, ?_⟩) ?_ ?_
                        rotate_left
                        ·intro w'
                         go_simp
                         with_reducible rfl
                        rotate_left
                        ·simp only [Act.put, zq1, zq2, zq3, i64_w, i32_w]
                         rfl
                        refine take_ (i := 5) (N := some 93) (v := ?_) (a' := ?_) (ab 15 383) rfl rfl (take_ofW HT_.out HW_.out (by kernel_rfl)) (fun _ _ _ h => h) (Or.inl ⟨by rfl, ?_⟩) hHeld ?_ ?_
                        rotate_left
                        ·rintro w' ⟨s0, s1, s2, s3, s4⟩
                         go_simp
                         with_reducible rfl
                        rotate_left
                        ·simp only [Act.put, zq1, zq2, zq3, i64_w, i32_w]
                         rfl
                        refine take_ (i := 7) (N := some 95) (v := ?_) (a' := ?_) (ab 15 511) rfl rfl (take_ofW HT_.out HW_.out (by kernel_rfl)) (fun _ _ _ h => h) (Or.inl ⟨by rfl, ?_⟩) hHeld ?_ ?_
                        rotate_left
                        ·rintro w' ⟨s0, s1, s2, s3, s4⟩
                         go_simp
                         with_reducible rfl
                        rotate_left
                        ·simp only [Act.put, zq1, zq2, zq3, i64_w, i32_w]
                         rfl
                        refine pure_ (i := 9) (N := some 97) (v := ?_) (a' := ?_) (ab 15 1023) rfl rfl (any_of HT_.out (by kernel_rfl)) (fun _ _ _ h => h) (Or.inl ⟨by rfl, ?_⟩) ?_ ?_
                        rotate_left
                        ·intro w'
                         go_simp
                         with_reducible rfl
                        rotate_left
                        ·simp only [Act.put, zq1, zq2, zq3, i64_w, i32_w]
                         rfl
                        refine take_ (i := 10) (N := some 98) (v := ?_) (a' := ?_) (ab 15 2047) rfl rfl (take_ofW HT_.out HW_.out (by kernel_rfl)) (fun _ _ _ h => h) (Or.inl ⟨by rfl, ?_⟩) hHeld ?_ ?_
                        rotate_left
                        ·rintro w' ⟨s0, s1, s2, s3, s4⟩
                         go_simp
                         with_reducible rfl
                        rotate_left
                        ·simp only [Act.put, zq1, zq2, zq3, i64_w, i32_w]
                         rfl
                        refine pure_ (i := 11) (N := some 99) (v := ?_) (a' := ?_) (ab 15 4095) rfl rfl (any_of HT_.out (by kernel_rfl)) (fun _ _ _ h => h) (Or.inl ⟨by rfl, ?_⟩) ?_ ?_
                        rotate_left
                        ·intro w'
                         go_simp
                         with_reducible rfl
                        rotate_left
                        ·simp only [Act.put, zq1, zq2, zq3, i64_w, i32_w]
                         rfl
                        refine pure_ (i := 12) (N := some 100) (v := ?_) (a' := ?_) (ab 15 8191) rfl rfl (any_of HT_.out (by kernel_rfl)) (fun _ _ _ h => h) (Or.inl ⟨by rfl, ?_⟩) ?_ ?_
                        rotate_left
                        ·intro w'
                         go_simp
                         with_reducible rfl
                        rotate_left
                        ·simp only [Act.put, zq1, zq2, zq3, i64_w, i32_w]
                         rfl
                        refine last_ (i := 13) (N := none) (ab 15 16383) rfl rfl (one_of HT_.out (by kernel_rfl)) (by decide) (fun K hK => ?_)
                        refine skip_ (w1 := ?_) (by rfl) rfl ?_ ?_
                        rotate_left
                        ·go_simp
                         rfl
                        refine hK.out _ _ ?_
                        clear hK K
                        refine pure_ (i := 14) (N := some 8) (v := ?_) (a' := ?_) (ab 15 32767) rfl rfl (any_of HT_.out (by kernel_rfl)) (fun _ _ _ h => h) (Or.inl ⟨by rfl, ?_⟩) ?_ ?_
                        rotate_left
                        ·intro w'
                         go_simp
                         with_reducible rfl
                        rotate_left
                        ·simp only [Act.put, zq1, zq2, zq3, i64_w, i32_w]
                         rfl
                        refine done_ (done_of HT_.out (by kernel_rfl)) ?_
                        try go_wp2
                        (try simp only [← hl5_4])
                        go_roundg kj24
                        case measure => have := HK1.out; have := HK2.out; have := HK3.out; have := HK4.out; have := HJ24.out; omega
                        case rel => exact ⟨(y171), (true), (wrap64 (x10_4 + 1)), (by first | rfl | (simp; done) | (simp [*]; done)), (by first | rfl | (simp; done) | (simp [*]; done)), H', ⟨by have := HK1.out; have := HK2.out; have := HK3.out; have := HK4.out; have := HJ24.out; omega⟩, ⟨by (try simp only [hl5_3]); (try simp only [hl5_4]); (with_reducible repeat (first | apply Kd.R_alloc | apply Kd.R_drewN | apply Kd.R_drew)); exact HQ53.out⟩, ⟨by (try simp only [hl5_3]); (try simp only [hl5_4]); (with_reducible repeat (first | refine blk_drewN ?_ _ | refine blk_drew ?_ | refine blk_alloc ?_ _)); refine blk_far ?_ (by have h_ := Kd.R_ne HO_5.out BK149.out (by decide); intro e_; exact h_ (by rw [e_]; rfl)) _; (with_reducible repeat (first | refine blk_drewN ?_ _ | refine blk_drew ?_ | refine blk_alloc ?_ _)); exact BK149.out⟩, ⟨by repeat (first | (with_reducible first | exact HB.out | apply below_alloc | apply pw_below_drewN | apply below_drew1 | refine below_set ?_ GB48.out | refine below_set ?_ GE149.out) | exact HB.out)⟩⟩
                       ·rw [if_neg c47] at H
                        have c47b0 : decide ((wrap64 ((rd x5_4 t160) + (rd l0_2 t160))) < (rd x5_4 x36_3)) = false := decide_eq_false c47
                        clear c47
                        have H' := Aside0.mk H
                        clear H
                        have hcz54_0 : wc.cell? ⟨gb149, 0, none⟩ = some (.int .i64 a0_0) := (blk_cell BK149.out 0).trans rfl
                        have hcz54_1 : wc.cell? ⟨gb149, 1, none⟩ = some (.int .i64 a0_1) := (blk_cell BK149.out 1).trans rfl
                        have hcz54_2 : wc.cell? ⟨gb149, 2, none⟩ = some (.slice A0_2 l0_2.length c0_2) := (blk_cell BK149.out 2).trans rfl
                        have hfz54_0 := blk_frozen BK149.out 0
                        have hfz54_1 := blk_frozen BK149.out 1
                        have hfz54_2 := blk_frozen BK149.out 2
                        try go_wp2_with (first | ((with_reducible refine gate_callee (f := 19) rfl ?_); refine goesL_ (some 54) rfl rfl Try.func19 (by kernel_rfl) rfl #[.agg #[.int .i64 a0_0, .int .i64 a0_1, .slice A0_2 l0_2.length c0_2], .int .i64 x36_3, .int .i64 x10_4] rfl (by (try simp only [zm1, zm2, zm3]); first | done | rfl) ?_; (with_reducible refine (tourref5_Beyond.calls kj24 a0_0 a0_1 _ _ l0_2 x36_3 x10_4 t160 _ ?side1 ?side2 A31.out).mono ?_); (case side1 => repeat (first | exact (Kd.C_below HR0_2.out HB.out) | (with_reducible refine Kd.C_alloc ?_ _) | (with_reducible refine Kd.C_drewN ?_ _) | (with_reducible refine Kd.C_drew ?_))); (case side2 => exact HC0_2.out); rintro e w55 ⟨rfl, hb⟩; refine ⟨_, rfl, ?_⟩; have n0_ := Aside0.mk (Kd.R_below (by (with_reducible repeat (first | apply Kd.R_alloc | apply Kd.R_drewN | apply Kd.R_drew)); exact HO_5.out) hb); have n1_ := Aside0.mk (bb hb BK149.out); have n2_ := Aside0.mk (below_step (by repeat (first | (with_reducible first | exact HB.out | apply below_alloc | apply pw_below_drewN | apply below_drew1 | refine below_set ?_ GE149.out) | exact HB.out)) hb); clear HO_5; clear BK149; clear HB; have HO_5 := n0_; have BK149 := n1_; have HB := n2_; clear n0_ n1_ n2_; (try clear hb); (try clear hb2); (try clear hk); (try clear hi)))
                        have n0_ := Aside0.mk (Kd.R_drew HO_5.out)
                        have n1_ := Aside0.mk (blk_drew BK149.out)
                        have n2_ := Aside0.mk (below_drew1 HB.out)
                        clear HO_5
                        clear BK149
                        clear HB
                        have HO_5 := n0_
                        have BK149 := n1_
                        have HB := n2_
                        clear n0_ n1_ n2_
                        have p161 : 0 ≤ (t160 : Int) := of_decide_eq_true (by first | (with_reducible assumption) | assumption)
                        have q161 : t160 < (x5_4.length : Int) := of_decide_eq_true (by first | (with_reducible assumption) | assumption)
                        obtain ⟨ad161, e161, hx161_0⟩ := Kd.at_int (Kd.R_reads' HO_5.out).2.2 t160 p161 q161
                        cases e161
                        replace p161 := eq_true p161
                        replace q161 := eq_true q161
                        have p162 : 0 ≤ (x36_3 : Int) := of_decide_eq_true (by first | (with_reducible assumption) | assumption)
                        have q162 : x36_3 < (x5_4.length : Int) := of_decide_eq_true (by first | (with_reducible assumption) | assumption)
                        obtain ⟨ad162, e162, hx162_0⟩ := Kd.at_int (Kd.R_reads' HO_5.out).2.2 x36_3 p162 q162
                        obtain rfl : ad161 = ad162 := (by injection e162)
                        replace p162 := eq_true p162
                        replace q162 := eq_true q162
                        have p166 : 0 ≤ (t160 : Int) := of_decide_eq_true (by first | (with_reducible assumption) | assumption)
                        have q166 : t160 < (x5_4.length : Int) := of_decide_eq_true (by first | (with_reducible assumption) | assumption)
                        obtain ⟨ad166, e166, hx166_0⟩ := Kd.at_int (Kd.R_reads' HO_5.out).2.2 t160 p166 q166
                        obtain rfl : ad161 = ad166 := (by injection e166)
                        replace p166 := eq_true p166
                        replace q166 := eq_true q166
                        have p167 : 0 ≤ (t160 : Int) := of_decide_eq_true (by first | (with_reducible assumption) | assumption)
                        have q167 : t160 < (l0_2.length : Int) := of_decide_eq_true (by first | (with_reducible assumption) | assumption)
                        obtain ⟨ad167, e167, hx167_0⟩ := Kd.at_int HR0_2.out t160 p167 q167
                        have hw167_0 := hx167_0
                        cases e167
                        replace hx167_0 := (HB.out.cell (World.block_lt_of_cell? w _ hx167_0)).trans hx167_0
                        replace p167 := eq_true p167
                        replace q167 := eq_true q167
                        have p168 : 0 ≤ (x36_3 : Int) := of_decide_eq_true (by first | (with_reducible assumption) | assumption)
                        have q168 : x36_3 < (x5_4.length : Int) := of_decide_eq_true (by first | (with_reducible assumption) | assumption)
                        obtain ⟨ad168, e168, hx168_0⟩ := Kd.at_int (Kd.R_reads' HO_5.out).2.2 x36_3 p168 q168
                        obtain rfl : ad161 = ad168 := (by injection e168)
                        replace p168 := eq_true p168
                        replace q168 := eq_true q168
                        refine start_ (n := 33) (S := fun w' => w'.cell? ⟨gb149, 0, none⟩ = some (.int .i64 a0_0) ∧ w'.cell? ⟨gb149, 1, none⟩ = some (.int .i64 a0_1) ∧ w'.cell? ⟨gb149, 2, none⟩ = some (.slice (some ad167) l0_2.length c0_2) ∧ w'.cell? (ad161.add (t160).toNat) = some (.int .i64 (rd x5_4 t160)) ∧ w'.cell? (ad161.add (x36_3).toNat) = some (.int .i64 (rd x5_4 x36_3)) ∧ w'.cell? (ad161.add (t160).toNat) = some (.int .i64 (rd x5_4 t160)) ∧ w'.cell? (ad167.add (t160).toNat) = some (.int .i64 (rd l0_2 t160)) ∧ w'.cell? (ad161.add (x36_3).toNat) = some (.int .i64 (rd x5_4 x36_3))) (ds := []) (ab 33 0) (by kernel_rfl) rfl rfl ⟨(blk_cell BK149.out 0).trans rfl, (blk_cell BK149.out 1).trans rfl, (blk_cell BK149.out 2).trans rfl, hx161_0, hx162_0, hx166_0, ((HB.out.cell (World.block_lt_of_cell? w _ hw167_0)).trans hw167_0), hx168_0⟩ (fun hHeld => ?_); refine with_tabW tourref5_Costs.tab18 tourref5_Costs.bits18 (fun HT_ HW_ => ?_)
                        generalize w55.drew = w56 at HO_5 BK149 HB hx161_0 hx162_0 hx166_0 hx167_0 hx168_0 hHeld ⊢
                        refine pure_ (i := 0) (N := some 55) (v := ?_) (a' := ?_) (ab 33 1) rfl rfl (any_of HT_.out (by kernel_rfl)) (fun _ _ _ h => h) (Or.inl ⟨by rfl, ?_⟩) ?_ ?_
                        rotate_left
                        ·intro w'
                         go_simp
                         with_reducible rfl
                        rotate_left
                        ·simp only [Act.put, zq1, zq2, zq3, i64_w, i32_w]
                         rfl
                        refine pure_ (i := 1) (N := some 56) (v := ?_) (a' := ?_) (ab 33 3) rfl rfl (any_of HT_.out (by kernel_rfl)) (fun _ _ _ h => h) (Or.inl ⟨by rfl, ?_⟩) ?_ ?_
                        rotate_left
                        ·intro w'
                         go_simp
                         with_reducible rfl
                        rotate_left
                        ·simp only [Act.put, zq1, zq2, zq3, i64_w, i32_w]
                         rfl
                        refine pure_ (i := 2) (N := some 57) (v := ?_) (a' := ?_) (ab 33 7) rfl rfl (any_of HT_.out (by kernel_rfl)) (fun _ _ _ h => h) (Or.inl ⟨by rfl, ?_⟩) ?_ ?_
                        rotate_left
                        ·intro w'
                         go_simp
                         with_reducible rfl
                        rotate_left
                        ·simp only [Act.put, zq1, zq2, zq3, i64_w, i32_w]
                         rfl
                        refine pure_ (i := 3) (N := some 58) (v := ?_) (a' := ?_) (ab 33 15) rfl rfl (any_of HT_.out (by kernel_rfl)) (fun _ _ _ h => h) (Or.inl ⟨by rfl, ?_⟩) ?_ ?_
                        rotate_left
                        ·intro w'
                         go_simp
                         with_reducible rfl
                        rotate_left
                        ·simp only [Act.put, zq1, zq2, zq3, i64_w, i32_w]
                         rfl
                        refine pure_ (i := 4) (N := some 59) (v := ?_) (a' := ?_) (ab 33 31) rfl rfl (any_of HT_.out (by kernel_rfl)) (fun _ _ _ h => h) (Or.inl ⟨by rfl, ?_⟩) ?_ ?_
                        rotate_left
                        ·intro w'
                         go_simp
                         with_reducible rfl
                        rotate_left
                        ·simp only [Act.put, zq1, zq2, zq3, i64_w, i32_w]
                         rfl
                        refine pure_ (i := 5) (N := some 60) (v := ?_) (a' := ?_) (ab 33 63) rfl rfl (any_of HT_.out (by kernel_rfl)) (fun _ _ _ h => h) (Or.inl ⟨by rfl, ?_⟩) ?_ ?_
                        rotate_left
                        ·intro w'
                         go_simp
                         with_reducible rfl
                        rotate_left
                        ·simp only [Act.put, zq1, zq2, zq3, i64_w, i32_w]
                         rfl
                        refine take_ (i := 6) (N := some 61) (v := ?_) (a' := ?_) (ab 33 127) rfl rfl (take_ofW HT_.out HW_.out (by kernel_rfl)) (fun _ _ _ h => h) (Or.inl ⟨by rfl, ?_⟩) hHeld ?_ ?_
                        rotate_left
                        ·rintro w' ⟨s0, s1, s2, s3, s4, s5, s6, s7⟩
                         go_simp
                         with_reducible rfl
                        rotate_left
                        ·simp only [Act.put, zq1, zq2, zq3, i64_w, i32_w]
                         rfl
                        refine pure_ (i := 7) (N := some 62) (v := ?_) (a' := ?_) (ab 33 255) rfl rfl (any_of HT_.out (by kernel_rfl)) (fun _ _ _ h => h) (Or.inl ⟨by rfl, ?_⟩) ?_ ?_
                        rotate_left
                        ·intro w'
                         go_simp
                         with_reducible rfl
                        rotate_left
                        ·simp only [Act.put, zq1, zq2, zq3, i64_w, i32_w]
                         rfl
                        refine pure_ (i := 8) (N := some 63) (v := ?_) (a' := ?_) (ab 33 511) rfl rfl (any_of HT_.out (by kernel_rfl)) (fun _ _ _ h => h) (Or.inl ⟨by rfl, ?_⟩) ?_ ?_
                        rotate_left
                        ·intro w'
                         go_simp
                         with_reducible rfl
                        rotate_left
                        ·simp only [Act.put, zq1, zq2, zq3, i64_w, i32_w]
                         rfl
                        refine pure_ (i := 9) (N := some 64) (v := ?_) (a' := ?_) (ab 33 1023) rfl rfl (any_of HT_.out (by kernel_rfl)) (fun _ _ _ h => h) (Or.inl ⟨by rfl, ?_⟩) ?_ ?_
                        rotate_left
                        ·intro w'
                         go_simp
                         with_reducible rfl
                        rotate_left
                        ·simp only [Act.put, zq1, zq2, zq3, i64_w, i32_w]
                         rfl
                        refine pure_ (i := 10) (N := some 65) (v := ?_) (a' := ?_) (ab 33 2047) rfl rfl (any_of HT_.out (by kernel_rfl)) (fun _ _ _ h => h) (Or.inl ⟨by rfl, ?_⟩) ?_ ?_
                        rotate_left
                        ·intro w'
                         go_simp
                         with_reducible rfl
                        rotate_left
                        ·simp only [Act.put, zq1, zq2, zq3, i64_w, i32_w]
                         rfl
                        refine pure_ (i := 11) (N := some 66) (v := ?_) (a' := ?_) (ab 33 4095) rfl rfl (any_of HT_.out (by kernel_rfl)) (fun _ _ _ h => h) (Or.inl ⟨by rfl, ?_⟩) ?_ ?_
                        rotate_left
                        ·intro w'
                         go_simp
                         with_reducible rfl
                        rotate_left
                        ·simp only [Act.put, zq1, zq2, zq3, i64_w, i32_w]
                         rfl
                        refine pure_ (i := 12) (N := some 67) (v := ?_) (a' := ?_) (ab 33 8191) rfl rfl (any_of HT_.out (by kernel_rfl)) (fun _ _ _ h => h) (Or.inl ⟨by rfl, ?_⟩) ?_ ?_
                        rotate_left
                        ·intro w'
                         go_simp
                         with_reducible rfl
                        rotate_left
                        ·simp only [Act.put, zq1, zq2, zq3, i64_w, i32_w]
                         rfl
                        refine take_ (i := 13) (N := some 68) (v := ?_) (a' := ?_) (ab 33 16383) rfl rfl (take_ofW HT_.out HW_.out (by kernel_rfl)) (fun _ _ _ h => h) (Or.inl ⟨by rfl, ?_⟩) hHeld ?_ ?_
                        rotate_left
                        ·rintro w' ⟨s0, s1, s2, s3, s4, s5, s6, s7⟩
                         go_simp
                         with_reducible rfl
                        rotate_left
                        ·simp only [Act.put, zq1, zq2, zq3, i64_w, i32_w]
                         rfl
                        refine pure_ (i := 14) (N := some 69) (v := ?_) (a' := ?_) (ab 33 32767) rfl rfl (any_of HT_.out (by kernel_rfl)) (fun _ _ _ h => h) (Or.inl ⟨by rfl, ?_⟩) ?_ ?_
                        rotate_left
                        ·intro w'
                         go_simp
                         with_reducible rfl
                        rotate_left
                        ·simp only [Act.put, zq1, zq2, zq3, i64_w, i32_w]
                         rfl
                        refine pure_ (i := 15) (N := some 70) (v := ?_) (a' := ?_) (ab 33 65535) rfl rfl (any_of HT_.out (by kernel_rfl)) (fun _ _ _ h => h) (Or.inl ⟨by rfl, ?_⟩) ?_ ?_
                        rotate_left
                        ·intro w'
                         go_simp
                         with_reducible rfl
                        rotate_left
                        ·simp only [Act.put, zq1, zq2, zq3, i64_w, i32_w]
                         rfl
                        refine pure_ (i := 16) (N := some 71) (v := ?_) (a' := ?_) (ab 33 131071) rfl rfl (any_of HT_.out (by kernel_rfl)) (fun _ _ _ h => h) (Or.inl ⟨by rfl, ?_⟩) ?_ ?_
                        rotate_left
                        ·intro w'
                         go_simp
                         with_reducible rfl
                        rotate_left
                        ·simp only [Act.put, zq1, zq2, zq3, i64_w, i32_w]
                         rfl
                        refine pure_ (i := 17) (N := some 72) (v := ?_) (a' := ?_) (ab 33 262143) rfl rfl (any_of HT_.out (by kernel_rfl)) (fun _ _ _ h => h) (Or.inl ⟨by rfl, ?_⟩) ?_ ?_
                        rotate_left
                        ·intro w'
                         go_simp
                         with_reducible rfl
                        rotate_left
                        ·simp only [Act.put, zq1, zq2, zq3, i64_w, i32_w]
                         rfl
                        refine pure_ (i := 18) (N := some 73) (v := ?_) (a' := ?_) (ab 33 524287) rfl rfl (any_of HT_.out (by kernel_rfl)) (fun _ _ _ h => h) (Or.inl ⟨by rfl, ?_⟩) ?_ ?_
                        rotate_left
                        ·intro w'
                         go_simp
                         with_reducible rfl
                        rotate_left
                        ·simp only [Act.put, zq1, zq2, zq3, i64_w, i32_w]
                         rfl
                        refine pure_ (i := 20) (N := some 75) (v := ?_) (a' := ?_) (ab 33 1572863) rfl rfl (any_of HT_.out (by kernel_rfl)) (fun _ _ _ h => h) (Or.inl ⟨by rfl, ?_⟩) ?_ ?_
                        rotate_left
                        ·intro w'
                         go_simp
                         with_reducible rfl
                        rotate_left
                        ·simp only [Act.put, zq1, zq2, zq3, i64_w, i32_w]
                         rfl
                        refine pure_ (i := 22) (N := some 77) (v := ?_) (a' := ?_) (ab 33 5767167) rfl rfl (any_of HT_.out (by kernel_rfl)) (fun _ _ _ h => h) (Or.inl ⟨by rfl, ?_⟩) ?_ ?_
                        rotate_left
                        ·intro w'
                         go_simp
                         with_reducible rfl
                        rotate_left
                        ·simp only [Act.put, zq1, zq2, zq3, i64_w, i32_w]
                         rfl
                        refine pure_ (i := 26) (N := some 81) (v := ?_) (a' := ?_) (ab 33 72876031) rfl rfl (any_of HT_.out (by kernel_rfl)) (fun _ _ _ h => h) (Or.inl ⟨by rfl, ?_⟩) ?_ ?_
                        rotate_left
                        ·intro w'
                         go_simp
                         with_reducible rfl
                        rotate_left
                        ·simp only [Act.put, zq1, zq2, zq3, i64_w, i32_w]
                         rfl
                        refine pure_ (i := 27) (N := some 82) (v := ?_) (a' := ?_) (ab 33 207093759) rfl rfl (any_of HT_.out (by kernel_rfl)) (fun _ _ _ h => h) (Or.inl ⟨by rfl, ?_⟩) ?_ ?_
                        rotate_left
                        ·intro w'
                         go_simp
                         with_reducible rfl
                        rotate_left
                        ·simp only [Act.put, zq1, zq2, zq3, i64_w, i32_w]
                         rfl
                        refine pure_ (i := 28) (N := some 83) (v := ?_) (a' := ?_) (ab 33 475529215) rfl rfl (any_of HT_.out (by kernel_rfl)) (fun _ _ _ h => h) (Or.inl ⟨by rfl, ?_⟩) ?_ ?_
                        rotate_left
                        ·intro w'
                         go_simp
                         with_reducible rfl
                        rotate_left
                        ·simp only [Act.put, zq1, zq2, zq3, i64_w, i32_w]
                         rfl
                        refine take_ (i := 19) (N := some 74) (v := ?_) (a' := ?_) (ab 33 476053503) rfl rfl (take_ofW HT_.out HW_.out (by kernel_rfl)) (fun _ _ _ h => h) (Or.inl ⟨by rfl, ?_⟩) hHeld ?_ ?_
                        rotate_left
                        ·rintro w' ⟨s0, s1, s2, s3, s4, s5, s6, s7⟩
                         go_simp
                         with_reducible rfl
                        rotate_left
                        ·simp only [Act.put, zq1, zq2, zq3, i64_w, i32_w]
                         rfl
                        refine take_ (i := 21) (N := some 76) (v := ?_) (a' := ?_) (ab 33 478150655) rfl rfl (take_ofW HT_.out HW_.out (by kernel_rfl)) (fun _ _ _ h => h) (Or.inl ⟨by rfl, ?_⟩) hHeld ?_ ?_
                        rotate_left
                        ·rintro w' ⟨s0, s1, s2, s3, s4, s5, s6, s7⟩
                         go_simp
                         with_reducible rfl
                        rotate_left
                        ·simp only [Act.put, zq1, zq2, zq3, i64_w, i32_w]
                         rfl
                        refine pure_ (i := 23) (N := some 78) (v := ?_) (a' := ?_) (ab 33 486539263) rfl rfl (any_of HT_.out (by kernel_rfl)) (fun _ _ _ h => h) (Or.inl ⟨by rfl, ?_⟩) ?_ ?_
                        rotate_left
                        ·intro w'
                         go_simp
                         with_reducible rfl
                        rotate_left
                        ·simp only [Act.put, zq1, zq2, zq3, i64_w, i32_w]
                         rfl
                        refine take_ (i := 24) (N := some 79) (v := ?_) (a' := ?_) (ab 33 503316479) rfl rfl (take_ofW HT_.out HW_.out (by kernel_rfl)) (fun _ _ _ h => h) (Or.inl ⟨by rfl, ?_⟩) hHeld ?_ ?_
                        rotate_left
                        ·rintro w' ⟨s0, s1, s2, s3, s4, s5, s6, s7⟩
                         go_simp
                         with_reducible rfl
                        rotate_left
                        ·simp only [Act.put, zq1, zq2, zq3, i64_w, i32_w]
                         rfl
                        refine pure_ (i := 25) (N := some 80) (v := ?_) (a' := ?_) (ab 33 536870911) rfl rfl (any_of HT_.out (by kernel_rfl)) (fun _ _ _ h => h) (Or.inl ⟨by rfl, ?_⟩) ?_ ?_
                        rotate_left
                        ·intro w'
                         go_simp
                         with_reducible rfl
                        rotate_left
                        ·simp only [Act.put, zq1, zq2, zq3, i64_w, i32_w]
                         rfl
                        refine take_ (i := 29) (N := some 84) (v := ?_) (a' := ?_) (ab 33 1073741823) rfl rfl (take_ofW HT_.out HW_.out (by kernel_rfl)) (fun _ _ _ h => h) (Or.inl ⟨by rfl, ?_⟩) hHeld ?_ ?_
                        rotate_left
                        ·rintro w' ⟨s0, s1, s2, s3, s4, s5, s6, s7⟩
                         go_simp
                         with_reducible rfl
                        rotate_left
                        ·simp only [Act.put, zq1, zq2, zq3, i64_w, i32_w]
                         rfl
                        refine pure_ (i := 30) (N := some 85) (v := ?_) (a' := ?_) (ab 33 2147483647) rfl rfl (any_of HT_.out (by kernel_rfl)) (fun _ _ _ h => h) (Or.inl ⟨by rfl, ?_⟩) ?_ ?_
                        rotate_left
                        ·intro w'
                         go_simp
                         with_reducible rfl
                        rotate_left
                        ·simp only [Act.put, zq1, zq2, zq3, i64_w, i32_w]
                         rfl
                        refine pure_ (i := 31) (N := some 86) (v := ?_) (a' := ?_) (ab 33 4294967295) rfl rfl (any_of HT_.out (by kernel_rfl)) (fun _ _ _ h => h) (Or.inl ⟨by rfl, ?_⟩) ?_ ?_
                        rotate_left
                        ·intro w'
                         go_simp
                         with_reducible rfl
                        rotate_left
                        ·simp only [Act.put, zq1, zq2, zq3, i64_w, i32_w]
                         rfl
                        refine pure_ (i := 32) (N := some 87) (v := ?_) (a' := ?_) (ab 33 8589934591) rfl rfl (any_of HT_.out (by kernel_rfl)) (fun _ _ _ h => h) (Or.inl ⟨by rfl, ?_⟩) ?_ ?_
                        rotate_left
                        ·intro w'
                         go_simp
                         with_reducible rfl
                        rotate_left
                        ·simp only [Act.put, zq1, zq2, zq3, i64_w, i32_w]
                         rfl
                        refine done_ (done_of HT_.out (by kernel_rfl)) ?_
                        try go_wp2
                        (try simp only [← hl5_4])
                        go_roundg kj24
                        case measure => have := HK1.out; have := HK2.out; have := HK3.out; have := HK4.out; have := HJ24.out; omega
                        case rel => exact ⟨(x5_4), (x8_4), (wrap64 (x10_4 + 1)), (by first | rfl | (simp; done) | (simp [*]; done)), (by first | rfl | (simp; done) | (simp [*]; done)), H', ⟨by have := HK1.out; have := HK2.out; have := HK3.out; have := HK4.out; have := HJ24.out; omega⟩, ⟨by (try simp only [hl5_3]); (try simp only [hl5_4]); (with_reducible repeat (first | apply Kd.R_alloc | apply Kd.R_drewN | apply Kd.R_drew)); exact HO_5.out⟩, ⟨by (try simp only [hl5_3]); (try simp only [hl5_4]); (with_reducible repeat (first | refine blk_drewN ?_ _ | refine blk_drew ?_ | refine blk_alloc ?_ _)); exact BK149.out⟩, ⟨by repeat (first | (with_reducible first | exact HB.out | apply below_alloc | apply pw_below_drewN | apply below_drew1 | refine below_set ?_ GE149.out) | exact HB.out)⟩⟩
                      ·rw [if_neg c46] at H
                       exact absurd H (by simp)
                    ·rw [if_neg c37] at H
                     exact absurd H (by simp)
                   ·rw [if_neg c36] at H
                    exact absurd H (by simp)
                  ·rw [if_neg c35] at H
                   have c35b0 : decide (0 ≤ (rd x5_4 t160)) = false := decide_eq_false c35
                   clear c35
                   have H' := Aside0.mk H
                   clear H
                   have hcz57_0 : wc.cell? ⟨gb149, 0, none⟩ = some (.int .i64 a0_0) := (blk_cell BK149.out 0).trans rfl
                   have hcz57_1 : wc.cell? ⟨gb149, 1, none⟩ = some (.int .i64 a0_1) := (blk_cell BK149.out 1).trans rfl
                   have hcz57_2 : wc.cell? ⟨gb149, 2, none⟩ = some (.slice A0_2 l0_2.length c0_2) := (blk_cell BK149.out 2).trans rfl
                   have hfz57_0 := blk_frozen BK149.out 0
                   have hfz57_1 := blk_frozen BK149.out 1
                   have hfz57_2 := blk_frozen BK149.out 2
                   try go_wp2_with (first | ((with_reducible refine gate_callee (f := 19) rfl ?_); refine goesL_ (some 54) rfl rfl Try.func19 (by kernel_rfl) rfl #[.agg #[.int .i64 a0_0, .int .i64 a0_1, .slice A0_2 l0_2.length c0_2], .int .i64 x36_3, .int .i64 x10_4] rfl (by (try simp only [zm1, zm2, zm3]); first | done | rfl) ?_; (with_reducible refine (tourref5_Beyond.calls kj24 a0_0 a0_1 _ _ l0_2 x36_3 x10_4 t160 _ ?side1 ?side2 A31.out).mono ?_); (case side1 => repeat (first | exact (Kd.C_below HR0_2.out HB.out) | (with_reducible refine Kd.C_alloc ?_ _) | (with_reducible refine Kd.C_drewN ?_ _) | (with_reducible refine Kd.C_drew ?_))); (case side2 => exact HC0_2.out); rintro e w58 ⟨rfl, hb⟩; refine ⟨_, rfl, ?_⟩; have n0_ := Aside0.mk (Kd.R_below (by (with_reducible repeat (first | apply Kd.R_alloc | apply Kd.R_drewN | apply Kd.R_drew)); exact HO_5.out) hb); have n1_ := Aside0.mk (bb hb BK149.out); have n2_ := Aside0.mk (below_step (by repeat (first | (with_reducible first | exact HB.out | apply below_alloc | apply pw_below_drewN | apply below_drew1 | refine below_set ?_ GE149.out) | exact HB.out)) hb); clear HO_5; clear BK149; clear HB; have HO_5 := n0_; have BK149 := n1_; have HB := n2_; clear n0_ n1_ n2_; (try clear hb); (try clear hb2); (try clear hk); (try clear hi)))
                   have n0_ := Aside0.mk (Kd.R_drew HO_5.out)
                   have n1_ := Aside0.mk (blk_drew BK149.out)
                   have n2_ := Aside0.mk (below_drew1 HB.out)
                   clear HO_5
                   clear BK149
                   clear HB
                   have HO_5 := n0_
                   have BK149 := n1_
                   have HB := n2_
                   clear n0_ n1_ n2_
                   have p161 : 0 ≤ (t160 : Int) := of_decide_eq_true (by first | (with_reducible assumption) | assumption)
                   have q161 : t160 < (x5_4.length : Int) := of_decide_eq_true (by first | (with_reducible assumption) | assumption)
                   obtain ⟨ad161, e161, hx161_0⟩ := Kd.at_int (Kd.R_reads' HO_5.out).2.2 t160 p161 q161
                   cases e161
                   replace p161 := eq_true p161
                   replace q161 := eq_true q161
                   refine start_ (n := 33) (S := fun w' => w'.cell? (ad161.add (t160).toNat) = some (.int .i64 (rd x5_4 t160))) (ds := []) (ab 33 0) (by kernel_rfl) rfl rfl (hx161_0) (fun hHeld => ?_); refine with_tabW tourref5_Costs.tab18 tourref5_Costs.bits18 (fun HT_ HW_ => ?_)
                   generalize w58.drew = w59 at HO_5 BK149 HB hx161_0 hHeld ⊢
                   refine pure_ (i := 0) (N := some 55) (v := ?_) (a' := ?_) (ab 33 1) rfl rfl (any_of HT_.out (by kernel_rfl)) (fun _ _ _ h => h) (Or.inl ⟨by rfl, ?_⟩) ?_ ?_
                   rotate_left
                   ·intro w'
                    go_simp
                    with_reducible rfl
                   rotate_left
                   ·simp only [Act.put, zq1, zq2, zq3, i64_w, i32_w]
                    rfl
                   refine pure_ (i := 1) (N := some 56) (v := ?_) (a' := ?_) (ab 33 3) rfl rfl (any_of HT_.out (by kernel_rfl)) (fun _ _ _ h => h) (Or.inl ⟨by rfl, ?_⟩) ?_ ?_
                   rotate_left
                   ·intro w'
                    go_simp
                    with_reducible rfl
                   rotate_left
                   ·simp only [Act.put, zq1, zq2, zq3, i64_w, i32_w]
                    rfl
                   refine pure_ (i := 2) (N := some 57) (v := ?_) (a' := ?_) (ab 33 7) rfl rfl (any_of HT_.out (by kernel_rfl)) (fun _ _ _ h => h) (Or.inl ⟨by rfl, ?_⟩) ?_ ?_
                   rotate_left
                   ·intro w'
                    go_simp
                    with_reducible rfl
                   rotate_left
                   ·simp only [Act.put, zq1, zq2, zq3, i64_w, i32_w]
                    rfl
                   refine pure_ (i := 3) (N := some 58) (v := ?_) (a' := ?_) (ab 33 15) rfl rfl (any_of HT_.out (by kernel_rfl)) (fun _ _ _ h => h) (Or.inl ⟨by rfl, ?_⟩) ?_ ?_
                   rotate_left
                   ·intro w'
                    go_simp
                    with_reducible rfl
                   rotate_left
                   ·simp only [Act.put, zq1, zq2, zq3, i64_w, i32_w]
                    rfl
                   refine pure_ (i := 4) (N := some 59) (v := ?_) (a' := ?_) (ab 33 31) rfl rfl (any_of HT_.out (by kernel_rfl)) (fun _ _ _ h => h) (Or.inl ⟨by rfl, ?_⟩) ?_ ?_
                   rotate_left
                   ·intro w'
                    go_simp
                    with_reducible rfl
                   rotate_left
                   ·simp only [Act.put, zq1, zq2, zq3, i64_w, i32_w]
                    rfl
                   refine pure_ (i := 5) (N := some 60) (v := ?_) (a' := ?_) (ab 33 63) rfl rfl (any_of HT_.out (by kernel_rfl)) (fun _ _ _ h => h) (Or.inl ⟨by rfl, ?_⟩) ?_ ?_
                   rotate_left
                   ·intro w'
                    go_simp
                    with_reducible rfl
                   rotate_left
                   ·simp only [Act.put, zq1, zq2, zq3, i64_w, i32_w]
                    rfl
                   refine take_ (i := 6) (N := some 61) (v := ?_) (a' := ?_) (ab 33 127) rfl rfl (take_ofW HT_.out HW_.out (by kernel_rfl)) (fun _ _ _ h => h) (Or.inl ⟨by rfl, ?_⟩) hHeld ?_ ?_
                   rotate_left
                   ·intro w' s0
                    go_simp
                    with_reducible rfl
                   rotate_left
                   ·simp only [Act.put, zq1, zq2, zq3, i64_w, i32_w]
                    rfl
                   refine pure_ (i := 7) (N := some 62) (v := ?_) (a' := ?_) (ab 33 255) rfl rfl (any_of HT_.out (by kernel_rfl)) (fun _ _ _ h => h) (Or.inl ⟨by rfl, ?_⟩) ?_ ?_
                   rotate_left
                   ·intro w'
                    go_simp
                    with_reducible rfl
                   rotate_left
                   ·simp only [Act.put, zq1, zq2, zq3, i64_w, i32_w]
                    rfl
                   refine pure_ (i := 8) (N := some 63) (v := ?_) (a' := ?_) (ab 33 511) rfl rfl (any_of HT_.out (by kernel_rfl)) (fun _ _ _ h => h) (Or.inl ⟨by rfl, ?_⟩) ?_ ?_
                   rotate_left
                   ·intro w'
                    go_simp
                    with_reducible rfl
                   rotate_left
                   ·simp only [Act.put, zq1, zq2, zq3, i64_w, i32_w]
                    rfl
                   refine pure_ (i := 9) (N := some 64) (v := ?_) (a' := ?_) (ab 33 1023) rfl rfl (any_of HT_.out (by kernel_rfl)) (fun _ _ _ h => h) (Or.inl ⟨by rfl, ?_⟩) ?_ ?_
                   rotate_left
                   ·intro w'
                    go_simp
                    with_reducible rfl
                   rotate_left
                   ·simp only [Act.put, zq1, zq2, zq3, i64_w, i32_w]
                    rfl
                   refine pure_ (i := 10) (N := some 65) (v := undef) (a' := ?_) (ab 33 2047) rfl rfl (any_of HT_.out (by kernel_rfl)) (fun _ _ _ h => h) (Or.inr ⟨by rfl, rfl⟩) ?_ ?_
                   rotate_left
                   ·simp only [Act.put, zq1, zq2, zq3, i64_w, i32_w]
                    rfl
                   refine pure_ (i := 11) (N := some 66) (v := undef) (a' := ?_) (ab 33 4095) rfl rfl (any_of HT_.out (by kernel_rfl)) (fun _ _ _ h => h) (Or.inr ⟨by rfl, rfl⟩) ?_ ?_
                   rotate_left
                   ·simp only [Act.put, zq1, zq2, zq3, i64_w, i32_w]
                    rfl
                   refine pure_ (i := 12) (N := some 67) (v := undef) (a' := ?_) (ab 33 8191) rfl rfl (any_of HT_.out (by kernel_rfl)) (fun _ _ _ h => h) (Or.inr ⟨by rfl, rfl⟩) ?_ ?_
                   rotate_left
                   ·simp only [Act.put, zq1, zq2, zq3, i64_w, i32_w]
                    rfl
                   refine pure_ (i := 13) (N := some 68) (v := undef) (a' := ?_) (ab 33 16383) rfl rfl (any_of HT_.out (by kernel_rfl)) (fun _ _ _ h => h) (Or.inr ⟨by rfl, rfl⟩) ?_ ?_
                   rotate_left
                   ·simp only [Act.put, zq1, zq2, zq3, i64_w, i32_w]
                    rfl
                   refine pure_ (i := 14) (N := some 69) (v := undef) (a' := ?_) (ab 33 32767) rfl rfl (any_of HT_.out (by kernel_rfl)) (fun _ _ _ h => h) (Or.inr ⟨by rfl, rfl⟩) ?_ ?_
                   rotate_left
                   ·simp only [Act.put, zq1, zq2, zq3, i64_w, i32_w]
                    rfl
                   refine pure_ (i := 15) (N := some 70) (v := undef) (a' := ?_) (ab 33 65535) rfl rfl (any_of HT_.out (by kernel_rfl)) (fun _ _ _ h => h) (Or.inr ⟨by rfl, rfl⟩) ?_ ?_
                   rotate_left
                   ·simp only [Act.put, zq1, zq2, zq3, i64_w, i32_w]
                    rfl
                   refine pure_ (i := 16) (N := some 71) (v := undef) (a' := ?_) (ab 33 131071) rfl rfl (any_of HT_.out (by kernel_rfl)) (fun _ _ _ h => h) (Or.inr ⟨by rfl, rfl⟩) ?_ ?_
                   rotate_left
                   ·simp only [Act.put, zq1, zq2, zq3, i64_w, i32_w]
                    rfl
                   refine pure_ (i := 17) (N := some 72) (v := undef) (a' := ?_) (ab 33 262143) rfl rfl (any_of HT_.out (by kernel_rfl)) (fun _ _ _ h => h) (Or.inr ⟨by rfl, rfl⟩) ?_ ?_
                   rotate_left
                   ·simp only [Act.put, zq1, zq2, zq3, i64_w, i32_w]
                    rfl
                   refine pure_ (i := 18) (N := some 73) (v := undef) (a' := ?_) (ab 33 524287) rfl rfl (any_of HT_.out (by kernel_rfl)) (fun _ _ _ h => h) (Or.inr ⟨by rfl, rfl⟩) ?_ ?_
                   rotate_left
                   ·simp only [Act.put, zq1, zq2, zq3, i64_w, i32_w]
                    rfl
                   refine pure_ (i := 19) (N := some 74) (v := undef) (a' := ?_) (ab 33 1048575) rfl rfl (any_of HT_.out (by kernel_rfl)) (fun _ _ _ h => h) (Or.inr ⟨by rfl, rfl⟩) ?_ ?_
                   rotate_left
                   ·simp only [Act.put, zq1, zq2, zq3, i64_w, i32_w]
                    rfl
                   refine pure_ (i := 20) (N := some 75) (v := undef) (a' := ?_) (ab 33 2097151) rfl rfl (any_of HT_.out (by kernel_rfl)) (fun _ _ _ h => h) (Or.inr ⟨by rfl, rfl⟩) ?_ ?_
                   rotate_left
                   ·simp only [Act.put, zq1, zq2, zq3, i64_w, i32_w]
                    rfl
                   refine pure_ (i := 21) (N := some 76) (v := undef) (a' := ?_) (ab 33 4194303) rfl rfl (any_of HT_.out (by kernel_rfl)) (fun _ _ _ h => h) (Or.inr ⟨by rfl, rfl⟩) ?_ ?_
                   rotate_left
                   ·simp only [Act.put, zq1, zq2, zq3, i64_w, i32_w]
                    rfl
                   refine pure_ (i := 22) (N := some 77) (v := undef) (a' := ?_) (ab 33 8388607) rfl rfl (any_of HT_.out (by kernel_rfl)) (fun _ _ _ h => h) (Or.inr ⟨by rfl, rfl⟩) ?_ ?_
                   rotate_left
                   ·simp only [Act.put, zq1, zq2, zq3, i64_w, i32_w]
                    rfl
                   refine pure_ (i := 23) (N := some 78) (v := undef) (a' := ?_) (ab 33 16777215) rfl rfl (any_of HT_.out (by kernel_rfl)) (fun _ _ _ h => h) (Or.inr ⟨by rfl, rfl⟩) ?_ ?_
                   rotate_left
                   ·simp only [Act.put, zq1, zq2, zq3, i64_w, i32_w]
                    rfl
                   refine pure_ (i := 24) (N := some 79) (v := undef) (a' := ?_) (ab 33 33554431) rfl rfl (any_of HT_.out (by kernel_rfl)) (fun _ _ _ h => h) (Or.inr ⟨by rfl, rfl⟩) ?_ ?_
                   rotate_left
                   ·simp only [Act.put, zq1, zq2, zq3, i64_w, i32_w]
                    rfl
                   refine pure_ (i := 25) (N := some 80) (v := undef) (a' := ?_) (ab 33 67108863) rfl rfl (any_of HT_.out (by kernel_rfl)) (fun _ _ _ h => h) (Or.inr ⟨by rfl, rfl⟩) ?_ ?_
                   rotate_left
                   ·simp only [Act.put, zq1, zq2, zq3, i64_w, i32_w]
                    rfl
                   refine pure_ (i := 26) (N := some 81) (v := undef) (a' := ?_) (ab 33 134217727) rfl rfl (any_of HT_.out (by kernel_rfl)) (fun _ _ _ h => h) (Or.inr ⟨by rfl, rfl⟩) ?_ ?_
                   rotate_left
                   ·simp only [Act.put, zq1, zq2, zq3, i64_w, i32_w]
                    rfl
                   refine pure_ (i := 27) (N := some 82) (v := undef) (a' := ?_) (ab 33 268435455) rfl rfl (any_of HT_.out (by kernel_rfl)) (fun _ _ _ h => h) (Or.inr ⟨by rfl, rfl⟩) ?_ ?_
                   rotate_left
                   ·simp only [Act.put, zq1, zq2, zq3, i64_w, i32_w]
                    rfl
                   refine pure_ (i := 28) (N := some 83) (v := undef) (a' := ?_) (ab 33 536870911) rfl rfl (any_of HT_.out (by kernel_rfl)) (fun _ _ _ h => h) (Or.inr ⟨by rfl, rfl⟩) ?_ ?_
                   rotate_left
                   ·simp only [Act.put, zq1, zq2, zq3, i64_w, i32_w]
                    rfl
                   refine pure_ (i := 29) (N := some 84) (v := undef) (a' := ?_) (ab 33 1073741823) rfl rfl (any_of HT_.out (by kernel_rfl)) (fun _ _ _ h => h) (Or.inr ⟨by rfl, rfl⟩) ?_ ?_
                   rotate_left
                   ·simp only [Act.put, zq1, zq2, zq3, i64_w, i32_w]
                    rfl
                   refine pure_ (i := 30) (N := some 85) (v := undef) (a' := ?_) (ab 33 2147483647) rfl rfl (any_of HT_.out (by kernel_rfl)) (fun _ _ _ h => h) (Or.inr ⟨by rfl, rfl⟩) ?_ ?_
                   rotate_left
                   ·simp only [Act.put, zq1, zq2, zq3, i64_w, i32_w]
                    rfl
                   refine pure_ (i := 31) (N := some 86) (v := undef) (a' := ?_) (ab 33 4294967295) rfl rfl (any_of HT_.out (by kernel_rfl)) (fun _ _ _ h => h) (Or.inr ⟨by rfl, rfl⟩) ?_ ?_
                   rotate_left
                   ·simp only [Act.put, zq1, zq2, zq3, i64_w, i32_w]
                    rfl
                   refine pure_ (i := 32) (N := some 87) (v := ?_) (a' := ?_) (ab 33 8589934591) rfl rfl (any_of HT_.out (by kernel_rfl)) (fun _ _ _ h => h) (Or.inl ⟨by rfl, ?_⟩) ?_ ?_
                   rotate_left
                   ·intro w'
                    go_simp
                    with_reducible rfl
                   rotate_left
                   ·simp only [Act.put, zq1, zq2, zq3, i64_w, i32_w]
                    rfl
                   refine done_ (done_of HT_.out (by kernel_rfl)) ?_
                   try go_wp2
                   (try simp only [← hl5_4])
                   go_roundg kj24
                   case measure => have := HK1.out; have := HK2.out; have := HK3.out; have := HK4.out; have := HJ24.out; omega
                   case rel => exact ⟨(x5_4), (x8_4), (wrap64 (x10_4 + 1)), (by first | rfl | (simp; done) | (simp [*]; done)), (by first | rfl | (simp; done) | (simp [*]; done)), H', ⟨by have := HK1.out; have := HK2.out; have := HK3.out; have := HK4.out; have := HJ24.out; omega⟩, ⟨by (try simp only [hl5_3]); (try simp only [hl5_4]); (with_reducible repeat (first | apply Kd.R_alloc | apply Kd.R_drewN | apply Kd.R_drew)); exact HO_5.out⟩, ⟨by (try simp only [hl5_3]); (try simp only [hl5_4]); (with_reducible repeat (first | refine blk_drewN ?_ _ | refine blk_drew ?_ | refine blk_alloc ?_ _)); exact BK149.out⟩, ⟨by repeat (first | (with_reducible first | exact HB.out | apply below_alloc | apply pw_below_drewN | apply below_drew1 | refine below_set ?_ GE149.out) | exact HB.out)⟩⟩
                 ·rw [if_neg c34] at H
                  exact absurd H (by simp)
                ·rw [if_neg c33] at H
                 exact absurd H (by simp)
               ·rw [if_neg c32] at H
                have c32b0 : decide (0 ≤ t160) = false := decide_eq_false c32
                clear c32
                have H' := Aside0.mk H
                clear H
                have hcz60_0 : wc.cell? ⟨gb149, 0, none⟩ = some (.int .i64 a0_0) := (blk_cell BK149.out 0).trans rfl
                have hcz60_1 : wc.cell? ⟨gb149, 1, none⟩ = some (.int .i64 a0_1) := (blk_cell BK149.out 1).trans rfl
                have hcz60_2 : wc.cell? ⟨gb149, 2, none⟩ = some (.slice A0_2 l0_2.length c0_2) := (blk_cell BK149.out 2).trans rfl
                have hfz60_0 := blk_frozen BK149.out 0
                have hfz60_1 := blk_frozen BK149.out 1
                have hfz60_2 := blk_frozen BK149.out 2
                try go_wp2_with (first | ((with_reducible refine gate_callee (f := 19) rfl ?_); refine goesL_ (some 54) rfl rfl Try.func19 (by kernel_rfl) rfl #[.agg #[.int .i64 a0_0, .int .i64 a0_1, .slice A0_2 l0_2.length c0_2], .int .i64 x36_3, .int .i64 x10_4] rfl (by (try simp only [zm1, zm2, zm3]); first | done | rfl) ?_; (with_reducible refine (tourref5_Beyond.calls kj24 a0_0 a0_1 _ _ l0_2 x36_3 x10_4 t160 _ ?side1 ?side2 A31.out).mono ?_); (case side1 => repeat (first | exact (Kd.C_below HR0_2.out HB.out) | (with_reducible refine Kd.C_alloc ?_ _) | (with_reducible refine Kd.C_drewN ?_ _) | (with_reducible refine Kd.C_drew ?_))); (case side2 => exact HC0_2.out); rintro e w61 ⟨rfl, hb⟩; refine ⟨_, rfl, ?_⟩; have n0_ := Aside0.mk (Kd.R_below (by (with_reducible repeat (first | apply Kd.R_alloc | apply Kd.R_drewN | apply Kd.R_drew)); exact HO_5.out) hb); have n1_ := Aside0.mk (bb hb BK149.out); have n2_ := Aside0.mk (below_step (by repeat (first | (with_reducible first | exact HB.out | apply below_alloc | apply pw_below_drewN | apply below_drew1 | refine below_set ?_ GE149.out) | exact HB.out)) hb); clear HO_5; clear BK149; clear HB; have HO_5 := n0_; have BK149 := n1_; have HB := n2_; clear n0_ n1_ n2_; (try clear hb); (try clear hb2); (try clear hk); (try clear hi)))
                have n0_ := Aside0.mk (Kd.R_drew HO_5.out)
                have n1_ := Aside0.mk (blk_drew BK149.out)
                have n2_ := Aside0.mk (below_drew1 HB.out)
                clear HO_5
                clear BK149
                clear HB
                have HO_5 := n0_
                have BK149 := n1_
                have HB := n2_
                clear n0_ n1_ n2_
                refine start_ (n := 33) (S := fun w' => True) (ds := []) (ab 33 0) (by kernel_rfl) rfl rfl trivial (fun hHeld => ?_); refine with_tabW tourref5_Costs.tab18 tourref5_Costs.bits18 (fun HT_ HW_ => ?_)
                generalize w61.drew = w62 at HO_5 BK149 HB hHeld ⊢
                refine pure_ (i := 0) (N := some 55) (v := ?_) (a' := ?_) (ab 33 1) rfl rfl (any_of HT_.out (by kernel_rfl)) (fun _ _ _ h => h) (Or.inl ⟨by rfl, ?_⟩) ?_ ?_
                rotate_left
                ·intro w'
                 go_simp
                 with_reducible rfl
                rotate_left
                ·simp only [Act.put, zq1, zq2, zq3, i64_w, i32_w]
                 rfl
                refine pure_ (i := 1) (N := some 56) (v := ?_) (a' := ?_) (ab 33 3) rfl rfl (any_of HT_.out (by kernel_rfl)) (fun _ _ _ h => h) (Or.inl ⟨by rfl, ?_⟩) ?_ ?_
                rotate_left
                ·intro w'
                 go_simp
                 with_reducible rfl
                rotate_left
                ·simp only [Act.put, zq1, zq2, zq3, i64_w, i32_w]
                 rfl
                refine pure_ (i := 2) (N := some 57) (v := ?_) (a' := ?_) (ab 33 7) rfl rfl (any_of HT_.out (by kernel_rfl)) (fun _ _ _ h => h) (Or.inl ⟨by rfl, ?_⟩) ?_ ?_
                rotate_left
                ·intro w'
                 go_simp
                 with_reducible rfl
                rotate_left
                ·simp only [Act.put, zq1, zq2, zq3, i64_w, i32_w]
                 rfl
                refine pure_ (i := 3) (N := some 58) (v := undef) (a' := ?_) (ab 33 15) rfl rfl (any_of HT_.out (by kernel_rfl)) (fun _ _ _ h => h) (Or.inr ⟨by rfl, rfl⟩) ?_ ?_
                rotate_left
                ·simp only [Act.put, zq1, zq2, zq3, i64_w, i32_w]
                 rfl
                refine pure_ (i := 4) (N := some 59) (v := undef) (a' := ?_) (ab 33 31) rfl rfl (any_of HT_.out (by kernel_rfl)) (fun _ _ _ h => h) (Or.inr ⟨by rfl, rfl⟩) ?_ ?_
                rotate_left
                ·simp only [Act.put, zq1, zq2, zq3, i64_w, i32_w]
                 rfl
                refine pure_ (i := 5) (N := some 60) (v := undef) (a' := ?_) (ab 33 63) rfl rfl (any_of HT_.out (by kernel_rfl)) (fun _ _ _ h => h) (Or.inr ⟨by rfl, rfl⟩) ?_ ?_
                rotate_left
                ·simp only [Act.put, zq1, zq2, zq3, i64_w, i32_w]
                 rfl
                refine pure_ (i := 6) (N := some 61) (v := undef) (a' := ?_) (ab 33 127) rfl rfl (any_of HT_.out (by kernel_rfl)) (fun _ _ _ h => h) (Or.inr ⟨by rfl, rfl⟩) ?_ ?_
                rotate_left
                ·simp only [Act.put, zq1, zq2, zq3, i64_w, i32_w]
                 rfl
                refine pure_ (i := 7) (N := some 62) (v := undef) (a' := ?_) (ab 33 255) rfl rfl (any_of HT_.out (by kernel_rfl)) (fun _ _ _ h => h) (Or.inr ⟨by rfl, rfl⟩) ?_ ?_
                rotate_left
                ·simp only [Act.put, zq1, zq2, zq3, i64_w, i32_w]
                 rfl
                refine pure_ (i := 8) (N := some 63) (v := ?_) (a' := ?_) (ab 33 511) rfl rfl (any_of HT_.out (by kernel_rfl)) (fun _ _ _ h => h) (Or.inl ⟨by rfl, ?_⟩) ?_ ?_
                rotate_left
                ·intro w'
                 go_simp
                 with_reducible rfl
                rotate_left
                ·simp only [Act.put, zq1, zq2, zq3, i64_w, i32_w]
                 rfl
                refine pure_ (i := 9) (N := some 64) (v := ?_) (a' := ?_) (ab 33 1023) rfl rfl (any_of HT_.out (by kernel_rfl)) (fun _ _ _ h => h) (Or.inl ⟨by rfl, ?_⟩) ?_ ?_
                rotate_left
                ·intro w'
                 go_simp
                 with_reducible rfl
                rotate_left
                ·simp only [Act.put, zq1, zq2, zq3, i64_w, i32_w]
                 rfl
                refine pure_ (i := 10) (N := some 65) (v := undef) (a' := ?_) (ab 33 2047) rfl rfl (any_of HT_.out (by kernel_rfl)) (fun _ _ _ h => h) (Or.inr ⟨by rfl, rfl⟩) ?_ ?_
                rotate_left
                ·simp only [Act.put, zq1, zq2, zq3, i64_w, i32_w]
                 rfl
                refine pure_ (i := 11) (N := some 66) (v := undef) (a' := ?_) (ab 33 4095) rfl rfl (any_of HT_.out (by kernel_rfl)) (fun _ _ _ h => h) (Or.inr ⟨by rfl, rfl⟩) ?_ ?_
                rotate_left
                ·simp only [Act.put, zq1, zq2, zq3, i64_w, i32_w]
                 rfl
                refine pure_ (i := 12) (N := some 67) (v := undef) (a' := ?_) (ab 33 8191) rfl rfl (any_of HT_.out (by kernel_rfl)) (fun _ _ _ h => h) (Or.inr ⟨by rfl, rfl⟩) ?_ ?_
                rotate_left
                ·simp only [Act.put, zq1, zq2, zq3, i64_w, i32_w]
                 rfl
                refine pure_ (i := 13) (N := some 68) (v := undef) (a' := ?_) (ab 33 16383) rfl rfl (any_of HT_.out (by kernel_rfl)) (fun _ _ _ h => h) (Or.inr ⟨by rfl, rfl⟩) ?_ ?_
                rotate_left
                ·simp only [Act.put, zq1, zq2, zq3, i64_w, i32_w]
                 rfl
                refine pure_ (i := 14) (N := some 69) (v := undef) (a' := ?_) (ab 33 32767) rfl rfl (any_of HT_.out (by kernel_rfl)) (fun _ _ _ h => h) (Or.inr ⟨by rfl, rfl⟩) ?_ ?_
                rotate_left
                ·simp only [Act.put, zq1, zq2, zq3, i64_w, i32_w]
                 rfl
                refine pure_ (i := 15) (N := some 70) (v := undef) (a' := ?_) (ab 33 65535) rfl rfl (any_of HT_.out (by kernel_rfl)) (fun _ _ _ h => h) (Or.inr ⟨by rfl, rfl⟩) ?_ ?_
                rotate_left
                ·simp only [Act.put, zq1, zq2, zq3, i64_w, i32_w]
                 rfl
                refine pure_ (i := 16) (N := some 71) (v := undef) (a' := ?_) (ab 33 131071) rfl rfl (any_of HT_.out (by kernel_rfl)) (fun _ _ _ h => h) (Or.inr ⟨by rfl, rfl⟩) ?_ ?_
                rotate_left
                ·simp only [Act.put, zq1, zq2, zq3, i64_w, i32_w]
                 rfl
                refine pure_ (i := 17) (N := some 72) (v := undef) (a' := ?_) (ab 33 262143) rfl rfl (any_of HT_.out (by kernel_rfl)) (fun _ _ _ h => h) (Or.inr ⟨by rfl, rfl⟩) ?_ ?_
                rotate_left
                ·simp only [Act.put, zq1, zq2, zq3, i64_w, i32_w]
                 rfl
                refine pure_ (i := 18) (N := some 73) (v := undef) (a' := ?_) (ab 33 524287) rfl rfl (any_of HT_.out (by kernel_rfl)) (fun _ _ _ h => h) (Or.inr ⟨by rfl, rfl⟩) ?_ ?_
                rotate_left
                ·simp only [Act.put, zq1, zq2, zq3, i64_w, i32_w]
                 rfl
                refine pure_ (i := 19) (N := some 74) (v := undef) (a' := ?_) (ab 33 1048575) rfl rfl (any_of HT_.out (by kernel_rfl)) (fun _ _ _ h => h) (Or.inr ⟨by rfl, rfl⟩) ?_ ?_
                rotate_left
                ·simp only [Act.put, zq1, zq2, zq3, i64_w, i32_w]
                 rfl
                refine pure_ (i := 20) (N := some 75) (v := undef) (a' := ?_) (ab 33 2097151) rfl rfl (any_of HT_.out (by kernel_rfl)) (fun _ _ _ h => h) (Or.inr ⟨by rfl, rfl⟩) ?_ ?_
                rotate_left
                ·simp only [Act.put, zq1, zq2, zq3, i64_w, i32_w]
                 rfl
                refine pure_ (i := 21) (N := some 76) (v := undef) (a' := ?_) (ab 33 4194303) rfl rfl (any_of HT_.out (by kernel_rfl)) (fun _ _ _ h => h) (Or.inr ⟨by rfl, rfl⟩) ?_ ?_
                rotate_left
                ·simp only [Act.put, zq1, zq2, zq3, i64_w, i32_w]
                 rfl
                refine pure_ (i := 22) (N := some 77) (v := undef) (a' := ?_) (ab 33 8388607) rfl rfl (any_of HT_.out (by kernel_rfl)) (fun _ _ _ h => h) (Or.inr ⟨by rfl, rfl⟩) ?_ ?_
                rotate_left
                ·simp only [Act.put, zq1, zq2, zq3, i64_w, i32_w]
                 rfl
                refine pure_ (i := 23) (N := some 78) (v := undef) (a' := ?_) (ab 33 16777215) rfl rfl (any_of HT_.out (by kernel_rfl)) (fun _ _ _ h => h) (Or.inr ⟨by rfl, rfl⟩) ?_ ?_
                rotate_left
                ·simp only [Act.put, zq1, zq2, zq3, i64_w, i32_w]
                 rfl
                refine pure_ (i := 24) (N := some 79) (v := undef) (a' := ?_) (ab 33 33554431) rfl rfl (any_of HT_.out (by kernel_rfl)) (fun _ _ _ h => h) (Or.inr ⟨by rfl, rfl⟩) ?_ ?_
                rotate_left
                ·simp only [Act.put, zq1, zq2, zq3, i64_w, i32_w]
                 rfl
                refine pure_ (i := 25) (N := some 80) (v := undef) (a' := ?_) (ab 33 67108863) rfl rfl (any_of HT_.out (by kernel_rfl)) (fun _ _ _ h => h) (Or.inr ⟨by rfl, rfl⟩) ?_ ?_
                rotate_left
                ·simp only [Act.put, zq1, zq2, zq3, i64_w, i32_w]
                 rfl
                refine pure_ (i := 26) (N := some 81) (v := undef) (a' := ?_) (ab 33 134217727) rfl rfl (any_of HT_.out (by kernel_rfl)) (fun _ _ _ h => h) (Or.inr ⟨by rfl, rfl⟩) ?_ ?_
                rotate_left
                ·simp only [Act.put, zq1, zq2, zq3, i64_w, i32_w]
                 rfl
                refine pure_ (i := 27) (N := some 82) (v := undef) (a' := ?_) (ab 33 268435455) rfl rfl (any_of HT_.out (by kernel_rfl)) (fun _ _ _ h => h) (Or.inr ⟨by rfl, rfl⟩) ?_ ?_
                rotate_left
                ·simp only [Act.put, zq1, zq2, zq3, i64_w, i32_w]
                 rfl
                refine pure_ (i := 28) (N := some 83) (v := undef) (a' := ?_) (ab 33 536870911) rfl rfl (any_of HT_.out (by kernel_rfl)) (fun _ _ _ h => h) (Or.inr ⟨by rfl, rfl⟩) ?_ ?_
                rotate_left
                ·simp only [Act.put, zq1, zq2, zq3, i64_w, i32_w]
                 rfl
                refine pure_ (i := 29) (N := some 84) (v := undef) (a' := ?_) (ab 33 1073741823) rfl rfl (any_of HT_.out (by kernel_rfl)) (fun _ _ _ h => h) (Or.inr ⟨by rfl, rfl⟩) ?_ ?_
                rotate_left
                ·simp only [Act.put, zq1, zq2, zq3, i64_w, i32_w]
                 rfl
                refine pure_ (i := 30) (N := some 85) (v := undef) (a' := ?_) (ab 33 2147483647) rfl rfl (any_of HT_.out (by kernel_rfl)) (fun _ _ _ h => h) (Or.inr ⟨by rfl, rfl⟩) ?_ ?_
                rotate_left
                ·simp only [Act.put, zq1, zq2, zq3, i64_w, i32_w]
                 rfl
                refine pure_ (i := 31) (N := some 86) (v := undef) (a' := ?_) (ab 33 4294967295) rfl rfl (any_of HT_.out (by kernel_rfl)) (fun _ _ _ h => h) (Or.inr ⟨by rfl, rfl⟩) ?_ ?_
                rotate_left
                ·simp only [Act.put, zq1, zq2, zq3, i64_w, i32_w]
                 rfl
                refine pure_ (i := 32) (N := some 87) (v := ?_) (a' := ?_) (ab 33 8589934591) rfl rfl (any_of HT_.out (by kernel_rfl)) (fun _ _ _ h => h) (Or.inl ⟨by rfl, ?_⟩) ?_ ?_
                rotate_left
                ·intro w'
                 go_simp
                 with_reducible rfl
                rotate_left
                ·simp only [Act.put, zq1, zq2, zq3, i64_w, i32_w]
                 rfl
                refine done_ (done_of HT_.out (by kernel_rfl)) ?_
                try go_wp2
                (try simp only [← hl5_4])
                go_roundg kj24
                case measure => have := HK1.out; have := HK2.out; have := HK3.out; have := HK4.out; have := HJ24.out; omega
                case rel => exact ⟨(x5_4), (x8_4), (wrap64 (x10_4 + 1)), (by first | rfl | (simp; done) | (simp [*]; done)), (by first | rfl | (simp; done) | (simp [*]; done)), H', ⟨by have := HK1.out; have := HK2.out; have := HK3.out; have := HK4.out; have := HJ24.out; omega⟩, ⟨by (try simp only [hl5_3]); (try simp only [hl5_4]); (with_reducible repeat (first | apply Kd.R_alloc | apply Kd.R_drewN | apply Kd.R_drew)); exact HO_5.out⟩, ⟨by (try simp only [hl5_3]); (try simp only [hl5_4]); (with_reducible repeat (first | refine blk_drewN ?_ _ | refine blk_drew ?_ | refine blk_alloc ?_ _)); exact BK149.out⟩, ⟨by repeat (first | (with_reducible first | exact HB.out | apply below_alloc | apply pw_below_drewN | apply below_drew1 | refine below_set ?_ GE149.out) | exact HB.out)⟩⟩
              ·replace c30 := Bool.eq_false_iff.mpr c30
               subst c30
               have H1 : (tourref5_Costs.l2 kj24 x5_4 x8_4 (x5_2.length : Int) (wrap64 (x36_3 + 1)) a0_0 a0_1 l0_2) = some r := by rw [if_neg (show ¬ (false = true) by decide)] at H; exact H
               clear H
               have H := H1
               clear H1
               have H' := Aside0.mk H
               clear H
               go_wp2
               (try simp only [← hl5_3, ← hl5_4])
               go_roundg kj24
               case measure => have := HK1.out; have := HK2.out; have := HK3.out; have := HK4.out; have := HJ24.out; omega
               case rel => exact ⟨(x5_4), (x8_4), (wrap64 (x36_3 + 1)), (by first | rfl | (simp; done) | (simp [*]; done)), (by first | rfl | (simp; done) | (simp [*]; done)), H', ⟨by have := HK1.out; have := HK2.out; have := HK3.out; have := HK4.out; have := HJ24.out; omega⟩, ⟨by (try simp only [hl5_3]); (try simp only [hl5_4]); (with_reducible repeat (first | apply Kd.R_alloc | apply Kd.R_drewN | apply Kd.R_drew)); exact HO_5.out⟩, ⟨by (try simp only [hl5_3]); (try simp only [hl5_4]); (with_reducible repeat (first | refine blk_drewN ?_ _ | refine blk_drew ?_ | refine blk_alloc ?_ _)); exact BK149.out⟩, ⟨by repeat (first | (with_reducible first | exact HB.out | apply below_alloc | apply pw_below_drewN | apply below_drew1 | refine below_set ?_ GE149.out) | exact HB.out)⟩⟩
         ·rw [if_neg c24] at H
          have c24b0 : decide (x36_3 < (x5_2.length : Int)) = false := decide_eq_false c24
          clear c24
          (try rw [hl5_3] at c24b0)
          have H' := Aside0.mk H
          clear H
          go_wp2
          (try simp only [← hl5_3])
          go_roundg k3
          case measure => have := HK1.out; have := HK2.out; have := HK3.out; omega
          case rel => exact ⟨(x5_3), (x8_3), (by first | rfl | (simp; done) | (simp [*]; done)), H', ⟨by have := HK1.out; have := HK2.out; have := HK3.out; omega⟩, ⟨by (try simp only [hl5_3]); (with_reducible repeat (first | apply Kd.R_alloc | apply Kd.R_drewN | apply Kd.R_drew)); exact HO_5.out⟩, ⟨by (try simp only [hl5_3]); (with_reducible repeat (first | refine blk_drewN ?_ _ | refine blk_drew ?_ | refine blk_alloc ?_ _)); exact BK149.out⟩, ⟨by repeat (first | (with_reducible first | exact HB.out | apply below_alloc | apply pw_below_drewN | apply below_drew1 | refine below_set ?_ GE149.out) | exact HB.out)⟩⟩
      ·replace c22 := Bool.eq_false_iff.mpr c22
       subst c22
       have H1 : (some x5_2) = some r := by rw [if_neg (show ¬ (false = true) by decide)] at H; exact H
       clear H
       have H := H1
       clear H1
       obtain rfl := Option.some.inj H
       go_wp2
       go_ret
       exact ⟨_, by first | rfl | (simp [errW_none, errW_some] <;> rfl) | (simp [*, errW_none, errW_some] <;> rfl), by (with_reducible repeat (first | apply Kd.R_alloc | apply Kd.R_drewN | apply Kd.R_drew)); exact HO_5.out, by repeat (first | (with_reducible first | exact HB.out | apply below_alloc | apply pw_below_drewN | apply below_drew1 | refine below_set ?_ GE149.out) | exact HB.out)⟩

end Go.Proofs.Ytmpfboilodlfnaa.PFlowMade
