-- Printed by a program: the print with changes of this session (wip/printpatch.py).
import Derived.Test.YtfallkiaojefnaaPBonesBlendx0
import Derived.Test.YtfallkiaojefnaaPBonesBlendx3
import Derived.Test.YtfallkiaojefnaaPBonesBlendx5
import Derived.Test.YtfallkiaojefnaaPBonesBlendx8
namespace Go.Proofs.Ytfallkiaojefnaa.PBonesBlend
open Go.Proofs.Ytfallkiaojefnaa.Fnv Go.Proofs.Ytfallkiaojefnaa.Ary Go.Proofs.Ytfallkiaojefnaa.Ext
open Go.RowKit Go.Proofs.YtfallkiaojefnaaW.PrintWords Go.Proofs.YtfallkiaojefnaaW.PrintLast Go.Proofs.YtfallkiaojefnaaW.PrintMore
attribute [local go_sem] max2_int min2_int max_two min_two max_three min_three max_four min_four   -- for this text's walks alone
set_option linter.unusedVariables false
set_option linter.unusedSimpArgs false

/-! ### quat_Blend: function 15 -/
def quat_Blend.j0 : Nat → Int → Int → Int → Int → Int → Int → Int → Int → Int → Option (Int × Int × Int × Int)
 | 0, _, _, _, _, _, _, _, _, _ => none
 | k + 1, x2, x284000, x284001, x284002, x284003, x285000, x285001, x285002, x285003 => (fix_Mul.f k x284000 (wrap64 (65536 - x2))).bind fun t298 => ((fix_Mul.f k x285000 x2).bind fun t299 => ((fix_Add.f t298 t299).bind fun t300 => ((fix_Mul.f k x284001 (wrap64 (65536 - x2))).bind fun t301 => ((fix_Mul.f k x285001 x2).bind fun t302 => ((fix_Add.f t301 t302).bind fun t303 => ((fix_Mul.f k x284002 (wrap64 (65536 - x2))).bind fun t304 => ((fix_Mul.f k x285002 x2).bind fun t305 => ((fix_Add.f t304 t305).bind fun t306 => ((fix_Mul.f k x284003 (wrap64 (65536 - x2))).bind fun t307 => ((fix_Mul.f k x285003 x2).bind fun t308 => ((fix_Add.f t307 t308).bind fun t309 => ((quat_Unit.f k t300 t303 t306 t309).bind fun bt310 => (some (bt310.1, bt310.2.1, bt310.2.2.1, bt310.2.2.2))))))))))))))
def quat_Blend.f (k : Nat) (a0_0 : Int) (a0_1 : Int) (a0_2 : Int) (a0_3 : Int) (a1_0 : Int) (a1_1 : Int) (a1_2 : Int) (a1_3 : Int) (a2 : Int) : Option (Int × Int × Int × Int) := (fix_Mul.f k a0_0 a1_0).bind fun t286 => ((fix_Mul.f k a0_1 a1_1).bind fun t287 => ((fix_Mul.f k a0_2 a1_2).bind fun t288 => ((fix_Mul.f k a0_3 a1_3).bind fun t289 => ((quat_sum.f k (([t286, t287, t288, t289] : List Int))).bind fun t293 => (if t293 < 0 then ((fix_Clamp.f a1_0).bind fun t294 => ((fix_Clamp.f a1_1).bind fun t295 => ((fix_Clamp.f a1_2).bind fun t296 => ((fix_Clamp.f a1_3).bind fun t297 => (quat_Blend.j0 k (mn (mx a2 0) 65536) a0_0 a0_1 a0_2 a0_3 (wrap64 (-t294)) (wrap64 (-t295)) (wrap64 (-t296)) (wrap64 (-t297))))))) else (quat_Blend.j0 k (mn (mx a2 0) 65536) a0_0 a0_1 a0_2 a0_3 a1_0 a1_1 a1_2 a1_3))))))
theorem quat_Blend.mono_l : ∀ k, (∀ y0 y1 y2 y3 y4 y5 y6 y7 y8, LeO (quat_Blend.j0 k y0 y1 y2 y3 y4 y5 y6 y7 y8) (quat_Blend.j0 (k + 1) y0 y1 y2 y3 y4 y5 y6 y7 y8))
 | 0 => fun _ _ _ _ _ _ _ _ _ r h => by simp [quat_Blend.j0] at h
 | k + 1 => by
  have ih0 := quat_Blend.mono_l k
  ·intro y0 y1 y2 y3 y4 y5 y6 y7 y8
   unfold quat_Blend.j0
   repeat' first
   | (with_reducible exact ih0 _ _ _ _ _ _ _ _ _)
   | (with_reducible exact fix_Mul.mono _ _ _)
   | (with_reducible exact quat_Unit.mono _ _ _ _ _)
   | (with_reducible exact quat_sum.mono _ _)
   | (with_reducible exact LeO.refl _)
   | (with_reducible exact LeO.none _)
   | (with_reducible refine LeO.ite ?_ ?_)
   | (with_reducible refine LeO.bind ?_ (fun _ => ?_))
   | exact ih0 _ _ _ _ _ _ _ _ _
   | exact fix_Mul.mono _ _ _
   | exact quat_Unit.mono _ _ _ _ _
   | exact quat_sum.mono _ _
   | exact LeO.none _
   | refine LeO.ite ?_ ?_
   | refine LeO.bind ?_ (fun _ => ?_)
theorem quat_Blend.mono : ∀ a0 a1 a2 a3 a4 a5 a6 a7 a8 k, LeO (quat_Blend.f k a0 a1 a2 a3 a4 a5 a6 a7 a8) (quat_Blend.f (k + 1) a0 a1 a2 a3 a4 a5 a6 a7 a8) := by
 intro a0 a1 a2 a3 a4 a5 a6 a7 a8 k
 have ih0 := quat_Blend.mono_l k
 unfold quat_Blend.f
 repeat' first
   | (with_reducible exact ih0 _ _ _ _ _ _ _ _ _)
   | (with_reducible exact fix_Mul.mono _ _ _)
   | (with_reducible exact quat_Unit.mono _ _ _ _ _)
   | (with_reducible exact quat_sum.mono _ _)
   | (with_reducible exact LeO.refl _)
   | (with_reducible exact LeO.none _)
   | (with_reducible refine LeO.ite ?_ ?_)
   | (with_reducible refine LeO.bind ?_ (fun _ => ?_))
   | exact ih0 _ _ _ _ _ _ _ _ _
   | exact fix_Mul.mono _ _ _
   | exact quat_Unit.mono _ _ _ _ _
   | exact quat_sum.mono _ _
   | exact LeO.none _
   | refine LeO.ite ?_ ?_
   | refine LeO.bind ?_ (fun _ => ?_)
def quat_Blend.T3 : Bool × List (List Nat × List Nat) := (true, [([], []), ([], []), ([1], [1]), ([], []), ([3], [3]), ([0, 2, 4], [0, 2, 4]), ([], []), ([], []), ([7], [7]), ([], []), ([9], [9]), ([6, 8, 10, 5], [6, 8, 10]), ([], []), ([], []), ([13], [13]), ([], []), ([15], [15]), ([12, 14, 16, 11], [12, 14, 16]), ([], []), ([], []), ([19], [19]), ([], []), ([21], [21]), ([18, 20, 22, 17], [18, 20, 22]), ([5, 11, 17, 23], [5, 11, 17, 23]), ([24, 23], [24]), ([25], [25])])
def quat_Blend.B3 : List Nat := [0, 0, 2, 0, 8, 31, 0, 0, 128, 0, 512, 2047, 0, 0, 8192, 0, 32768, 131071, 0, 0, 524288, 0, 2097152, 8388607, 16777215, 33554431, 67108863]
theorem quat_Blend.tab3 : rtab .any (opsOf Try.f15 3) = quat_Blend.T3 := by kernel_rfl
theorem quat_Blend.bits3 : waitsOk quat_Blend.T3.2 quat_Blend.B3 = true := by kernel_rfl
def quat_Blend.T4 : Bool × List (List Nat × List Nat) := (true, [([], []), ([0], [0]), ([1], [1]), ([2], [2]), ([], []), ([4], [4]), ([5, 2], [5]), ([6], [6]), ([], []), ([8], [8]), ([9, 6], [9]), ([10], [10]), ([], []), ([12], [12]), ([13, 10], [13]), ([14], [14]), ([3, 7, 11, 15], [3, 7, 11, 15]), ([16, 14, 0, 1, 2, 3, 4, 5, 6, 7, 8, 9, 10, 11, 12, 13, 14, 15, 16], [16])])
def quat_Blend.B4 : List Nat := [0, 1, 3, 7, 0, 16, 55, 119, 0, 256, 887, 1911, 0, 4096, 14199, 30583, 65535, 131071]
theorem quat_Blend.tab4 : rtab .any (opsOf Try.f15 4) = quat_Blend.T4 := by kernel_rfl
theorem quat_Blend.bits4 : waitsOk quat_Blend.T4.2 quat_Blend.B4 = true := by kernel_rfl
def quat_Blend.T6 : Bool × List (List Nat × List Nat) := (true, [([], []), ([], []), ([1], [1]), ([], []), ([0, 2, 3], [0, 2, 3]), ([], []), ([], []), ([6], [6]), ([], []), ([5, 7, 8, 4], [5, 7, 8]), ([4, 9, 9], [4, 9]), ([], []), ([], []), ([12], [12]), ([], []), ([11, 13, 14, 10], [11, 13, 14]), ([], []), ([], []), ([17], [17]), ([], []), ([16, 18, 19, 15], [16, 18, 19]), ([15, 20, 20], [15, 20]), ([], []), ([], []), ([23], [23]), ([], []), ([22, 24, 25, 21], [22, 24, 25]), ([], []), ([], []), ([28], [28]), ([], []), ([27, 29, 30, 26], [27, 29, 30]), ([26, 31, 31], [26, 31]), ([], []), ([], []), ([34], [34]), ([], []), ([33, 35, 36, 32], [33, 35, 36]), ([], []), ([], []), ([39], [39]), ([], []), ([38, 40, 41, 37], [38, 40, 41]), ([37, 42, 42], [37, 42]), ([10, 21, 32, 43], [10, 21, 32, 43]), ([44, 43], [44]), ([45, 45, 0, 1, 2, 3, 4, 5, 6, 7, 8, 9, 10, 11, 12, 13, 14, 15, 16, 17, 18, 19, 20, 21, 22, 23, 24, 25, 26, 27, 28, 29, 30, 31, 32, 33, 34, 35, 36, 37, 38, 39, 40, 41, 42, 43, 44, 45], [45])])
def quat_Blend.B6 : List Nat := [0, 0, 2, 0, 15, 0, 0, 64, 0, 511, 1023, 0, 0, 4096, 0, 32767, 0, 0, 131072, 0, 1048575, 2097151, 0, 0, 8388608, 0, 67108863, 0, 0, 268435456, 0, 2147483647, 4294967295, 0, 0, 17179869184, 0, 137438953471, 0, 0, 549755813888, 0, 4398046511103, 8796093022207, 17592186044415, 35184372088831, 70368744177663]
theorem quat_Blend.tab6 : rtab .any (opsOf Try.f15 6) = quat_Blend.T6 := by kernel_rfl
theorem quat_Blend.bits6 : waitsOk quat_Blend.T6.2 quat_Blend.B6 = true := by kernel_rfl
set_option maxHeartbeats 8000000 in
set_option maxRecDepth 100000 in
theorem quat_Blend.calls (k : Nat) (a0_0 : Int) (a0_1 : Int) (a0_2 : Int) (a0_3 : Int) (a1_0 : Int) (a1_1 : Int) (a1_2 : Int) (a1_3 : Int) (a2 : Int) (r1 : Int) (r2 : Int) (r3 : Int) (r4 : Int) (w : World) (h : quat_Blend.f k a0_0 a0_1 a0_2 a0_3 a1_0 a1_1 a1_2 a1_3 a2 = some (r1, r2, r3, r4)) :
  Calls Try.prog 15 #[.agg #[.int .i64 a0_0, .int .i64 a0_1, .int .i64 a0_2, .int .i64 a0_3], .agg #[.int .i64 a1_0, .int .i64 a1_1, .int .i64 a1_2, .int .i64 a1_3], .int .i64 a2] w fun e w' => e = .returned (.agg #[.int .i64 r1, .int .i64 r2, .int .i64 r3, .int .i64 r4]) ∧ Below w.heap.size w w' := by
 have hu37 := Try.underlying37
 have HB := Aside0.mk (Below.refl w.heap.size w)
 have H : ((fix_Mul.f k a0_0 a1_0).bind fun t286 => ((fix_Mul.f k a0_1 a1_1).bind fun t287 => ((fix_Mul.f k a0_2 a1_2).bind fun t288 => ((fix_Mul.f k a0_3 a1_3).bind fun t289 => ((quat_sum.f k (([t286, t287, t288, t289] : List Int))).bind fun t293 => (if t293 < 0 then ((fix_Clamp.f a1_0).bind fun t294 => ((fix_Clamp.f a1_1).bind fun t295 => ((fix_Clamp.f a1_2).bind fun t296 => ((fix_Clamp.f a1_3).bind fun t297 => (quat_Blend.j0 k (mn (mx a2 0) 65536) a0_0 a0_1 a0_2 a0_3 (wrap64 (-t294)) (wrap64 (-t295)) (wrap64 (-t296)) (wrap64 (-t297))))))) else (quat_Blend.j0 k (mn (mx a2 0) 65536) a0_0 a0_1 a0_2 a0_3 a1_0 a1_1 a1_2 a1_3))))))) = some (r1, r2, r3, r4) := h
 clear h
 obtain ⟨ji4, hji4⟩ : ∃ j_ : Int, (mx a2 0) = j_ := ⟨_, rfl⟩
 replace H : ((fix_Mul.f k a0_0 a1_0).bind fun t286 => ((fix_Mul.f k a0_1 a1_1).bind fun t287 => ((fix_Mul.f k a0_2 a1_2).bind fun t288 => ((fix_Mul.f k a0_3 a1_3).bind fun t289 => ((quat_sum.f k (([t286, t287, t288, t289] : List Int))).bind fun t293 => (if t293 < 0 then ((fix_Clamp.f a1_0).bind fun t294 => ((fix_Clamp.f a1_1).bind fun t295 => ((fix_Clamp.f a1_2).bind fun t296 => ((fix_Clamp.f a1_3).bind fun t297 => (quat_Blend.j0 k (mn (ji4) 65536) a0_0 a0_1 a0_2 a0_3 (wrap64 (-t294)) (wrap64 (-t295)) (wrap64 (-t296)) (wrap64 (-t297))))))) else (quat_Blend.j0 k (mn (ji4) 65536) a0_0 a0_1 a0_2 a0_3 a1_0 a1_1 a1_2 a1_3))))))) = some (r1, r2, r3, r4) := by first | (rw [hji4] at H; exact H) | (simp only [hji4] at H ⊢; exact H)
 (try (have hji4l : 0 ≤ ji4 := by (rw [← hji4]; unfold mx; (repeat' split) <;> omega)))
 (try (have hji4m : 0 ≤ ji4 := by omega))
 have hji4_ : (if a2 < 0 then 0 else a2) = ji4 := hji4
 obtain ⟨ji5, hji5⟩ : ∃ j_ : Int, (mn (ji4) 65536) = j_ := ⟨_, rfl⟩
 replace H : ((fix_Mul.f k a0_0 a1_0).bind fun t286 => ((fix_Mul.f k a0_1 a1_1).bind fun t287 => ((fix_Mul.f k a0_2 a1_2).bind fun t288 => ((fix_Mul.f k a0_3 a1_3).bind fun t289 => ((quat_sum.f k (([t286, t287, t288, t289] : List Int))).bind fun t293 => (if t293 < 0 then ((fix_Clamp.f a1_0).bind fun t294 => ((fix_Clamp.f a1_1).bind fun t295 => ((fix_Clamp.f a1_2).bind fun t296 => ((fix_Clamp.f a1_3).bind fun t297 => (quat_Blend.j0 k ji5 a0_0 a0_1 a0_2 a0_3 (wrap64 (-t294)) (wrap64 (-t295)) (wrap64 (-t296)) (wrap64 (-t297))))))) else (quat_Blend.j0 k ji5 a0_0 a0_1 a0_2 a0_3 a1_0 a1_1 a1_2 a1_3))))))) = some (r1, r2, r3, r4) := by first | (rw [hji5] at H; exact H) | (simp only [hji5] at H ⊢; exact H)
 have hji5_ : (if 65536 < (ji4) then 65536 else (ji4)) = ji5 := hji5
 replace H := Option.bind_eq_some_iff.mp H
 obtain ⟨t286, A60, H⟩ := H
 replace H : ((fix_Mul.f k a0_1 a1_1).bind fun t287 => ((fix_Mul.f k a0_2 a1_2).bind fun t288 => ((fix_Mul.f k a0_3 a1_3).bind fun t289 => ((quat_sum.f k (([t286, t287, t288, t289] : List Int))).bind fun t293 => (if t293 < 0 then ((fix_Clamp.f a1_0).bind fun t294 => ((fix_Clamp.f a1_1).bind fun t295 => ((fix_Clamp.f a1_2).bind fun t296 => ((fix_Clamp.f a1_3).bind fun t297 => (quat_Blend.j0 k ji5 a0_0 a0_1 a0_2 a0_3 (wrap64 (-t294)) (wrap64 (-t295)) (wrap64 (-t296)) (wrap64 (-t297))))))) else (quat_Blend.j0 k ji5 a0_0 a0_1 a0_2 a0_3 a1_0 a1_1 a1_2 a1_3)))))) = some (r1, r2, r3, r4) := H
 have A6 := Aside0.mk A60
 clear A60
 replace H := Option.bind_eq_some_iff.mp H
 obtain ⟨t287, A70, H⟩ := H
 replace H : ((fix_Mul.f k a0_2 a1_2).bind fun t288 => ((fix_Mul.f k a0_3 a1_3).bind fun t289 => ((quat_sum.f k (([t286, t287, t288, t289] : List Int))).bind fun t293 => (if t293 < 0 then ((fix_Clamp.f a1_0).bind fun t294 => ((fix_Clamp.f a1_1).bind fun t295 => ((fix_Clamp.f a1_2).bind fun t296 => ((fix_Clamp.f a1_3).bind fun t297 => (quat_Blend.j0 k ji5 a0_0 a0_1 a0_2 a0_3 (wrap64 (-t294)) (wrap64 (-t295)) (wrap64 (-t296)) (wrap64 (-t297))))))) else (quat_Blend.j0 k ji5 a0_0 a0_1 a0_2 a0_3 a1_0 a1_1 a1_2 a1_3))))) = some (r1, r2, r3, r4) := H
 have A7 := Aside0.mk A70
 clear A70
 replace H := Option.bind_eq_some_iff.mp H
 obtain ⟨t288, A80, H⟩ := H
 replace H : ((fix_Mul.f k a0_3 a1_3).bind fun t289 => ((quat_sum.f k (([t286, t287, t288, t289] : List Int))).bind fun t293 => (if t293 < 0 then ((fix_Clamp.f a1_0).bind fun t294 => ((fix_Clamp.f a1_1).bind fun t295 => ((fix_Clamp.f a1_2).bind fun t296 => ((fix_Clamp.f a1_3).bind fun t297 => (quat_Blend.j0 k ji5 a0_0 a0_1 a0_2 a0_3 (wrap64 (-t294)) (wrap64 (-t295)) (wrap64 (-t296)) (wrap64 (-t297))))))) else (quat_Blend.j0 k ji5 a0_0 a0_1 a0_2 a0_3 a1_0 a1_1 a1_2 a1_3)))) = some (r1, r2, r3, r4) := H
 have A8 := Aside0.mk A80
 clear A80
 replace H := Option.bind_eq_some_iff.mp H
 obtain ⟨t289, A90, H⟩ := H
 replace H : ((quat_sum.f k (([t286, t287, t288, t289] : List Int))).bind fun t293 => (if t293 < 0 then ((fix_Clamp.f a1_0).bind fun t294 => ((fix_Clamp.f a1_1).bind fun t295 => ((fix_Clamp.f a1_2).bind fun t296 => ((fix_Clamp.f a1_3).bind fun t297 => (quat_Blend.j0 k ji5 a0_0 a0_1 a0_2 a0_3 (wrap64 (-t294)) (wrap64 (-t295)) (wrap64 (-t296)) (wrap64 (-t297))))))) else (quat_Blend.j0 k ji5 a0_0 a0_1 a0_2 a0_3 a1_0 a1_1 a1_2 a1_3))) = some (r1, r2, r3, r4) := H
 have A9 := Aside0.mk A90
 clear A90
 obtain ⟨y290, hy290⟩ : ∃ y_ : List Int, y_ = (([t286, t287, t288, t289] : List Int)) := ⟨_, rfl⟩
 replace H : ((quat_sum.f k y290).bind fun t293 => (if t293 < 0 then ((fix_Clamp.f a1_0).bind fun t294 => ((fix_Clamp.f a1_1).bind fun t295 => ((fix_Clamp.f a1_2).bind fun t296 => ((fix_Clamp.f a1_3).bind fun t297 => (quat_Blend.j0 k ji5 a0_0 a0_1 a0_2 a0_3 (wrap64 (-t294)) (wrap64 (-t295)) (wrap64 (-t296)) (wrap64 (-t297))))))) else (quat_Blend.j0 k ji5 a0_0 a0_1 a0_2 a0_3 a1_0 a1_1 a1_2 a1_3))) = some (r1, r2, r3, r4) := by first | (rw [hy290]; with_reducible exact H) | (have H2_ := (Option.bind_some _ _).symm.trans H; rw [hy290]; with_reducible exact H2_) | (have H2_ := (Option.bind_some _ _).symm.trans H; with_reducible exact H2_) | with_reducible exact H | (rw [hy290]; exact H) | exact H
 have Ny290 := Aside0.mk hy290
 clear hy290
 replace H := Option.bind_eq_some_iff.mp H
 obtain ⟨t293, A100, H⟩ := H
 replace H : (if t293 < 0 then ((fix_Clamp.f a1_0).bind fun t294 => ((fix_Clamp.f a1_1).bind fun t295 => ((fix_Clamp.f a1_2).bind fun t296 => ((fix_Clamp.f a1_3).bind fun t297 => (quat_Blend.j0 k ji5 a0_0 a0_1 a0_2 a0_3 (wrap64 (-t294)) (wrap64 (-t295)) (wrap64 (-t296)) (wrap64 (-t297))))))) else (quat_Blend.j0 k ji5 a0_0 a0_1 a0_2 a0_3 a1_0 a1_1 a1_2 a1_3)) = some (r1, r2, r3, r4) := H
 have A10 := Aside0.mk A100
 clear A100
 have HC11 := Aside0.mk H
 clear H
 go_enter Try.func15, Try.ntmps15
 try go_wp2_with (first | ((with_reducible refine gate_dst (N := 3) rfl ?_); refine box_event ?hg (N := 3) ?hd (cs := #[.int .i64 a0_0, .int .i64 a0_1, .int .i64 a0_2, .int .i64 a0_3]) (t := 37) ?hr ?_; (case hd => rfl); (case hg => rfl); (case hr => first | (go_simp; done) | (go_simp; rfl)); intro gb283 hg w12 hbox hb; have n0_ := Aside0.mk (below_step (by repeat (first | (with_reducible first | exact HB.out | apply below_alloc | apply pw_below_drewN | apply below_drew1) | exact HB.out)) hb); have n1_ := Aside0.mk (hbox); have n2_ := Aside0.mk ((by rw [hg]; exact (below_size (by repeat (first | (with_reducible first | exact HB.out | apply below_alloc | apply pw_below_drewN | apply below_drew1) | exact HB.out))) : w.heap.size ≤ gb283)); have n3_ := Aside0.mk ((by rw [hg]; exact (below_size (by repeat (first | (with_reducible first | exact HB.out | apply below_alloc | apply pw_below_drewN | apply below_drew1) | exact HB.out))) : w.heap.size ≤ gb283)); clear HB; have HB := n0_; have BK283 := n1_; have GW283 := n2_; have GE283 := n3_; clear n0_ n1_ n2_ n3_; clear hb hbox hg) | ((with_reducible refine gate_dst (N := 4) rfl ?_); refine box_event ?hg (N := 4) ?hd (cs := #[.int .i64 a1_0, .int .i64 a1_1, .int .i64 a1_2, .int .i64 a1_3]) (t := 37) ?hr ?_; (case hd => rfl); (case hg => rfl); (case hr => first | (go_simp; done) | (go_simp; rfl)); intro gb284 hg w13 hbox hb; have n0_ := Aside0.mk (bb hb BK283.out); have n1_ := Aside0.mk (below_step (by repeat (first | (with_reducible first | exact HB.out | apply below_alloc | apply pw_below_drewN | apply below_drew1 | refine below_set ?_ GE283.out) | exact HB.out)) hb); have n2_ := Aside0.mk (hbox); have n3_ := Aside0.mk ((by rw [hg]; exact (below_size (by repeat (first | (with_reducible first | exact HB.out | apply below_alloc | apply pw_below_drewN | apply below_drew1 | refine below_set ?_ GE283.out) | exact HB.out))) : w.heap.size ≤ gb284)); have n4_ := Aside0.mk ((by rw [hg]; exact (below_size (by repeat (first | (with_reducible first | exact HB.out | apply below_alloc | apply pw_below_drewN | apply below_drew1 | refine below_set ?_ GE283.out) | exact HB.out))) : w.heap.size ≤ gb284)); have n5_ := Aside0.mk (nl hg BK283.out); have n6_ := Aside0.mk (ng hg BK283.out); clear BK283; clear HB; have BK283 := n0_; have HB := n1_; have BK284 := n2_; have GW284 := n3_; have GE284 := n4_; have NB283_284 := n5_; have NB284_283 := n6_; clear n0_ n1_ n2_ n3_ n4_ n5_ n6_; clear hb hbox hg) | ((with_reducible refine gate_dst (N := 6) rfl ?_); refine box_event ?hg (N := 6) ?hd (cs := #[.int .i64 0, .int .i64 0, .int .i64 0, .int .i64 0]) (t := 37) ?hr ?_; (case hd => rfl); (case hg => rfl); (case hr => first | (go_simp; done) | (go_simp; rfl)); intro gb285 hg w14 hbox hb; have n0_ := Aside0.mk (bb hb BK283.out); have n1_ := Aside0.mk (bb hb BK284.out); have n2_ := Aside0.mk (below_step (by repeat (first | (with_reducible first | exact HB.out | apply below_alloc | apply pw_below_drewN | apply below_drew1 | refine below_set ?_ GE283.out | refine below_set ?_ GE284.out) | exact HB.out)) hb); have n3_ := Aside0.mk (hbox); have n4_ := Aside0.mk ((by rw [hg]; exact (below_size (by repeat (first | (with_reducible first | exact HB.out | apply below_alloc | apply pw_below_drewN | apply below_drew1 | refine below_set ?_ GE283.out | refine below_set ?_ GE284.out) | exact HB.out))) : w.heap.size ≤ gb285)); have n5_ := Aside0.mk ((by rw [hg]; exact (below_size (by repeat (first | (with_reducible first | exact HB.out | apply below_alloc | apply pw_below_drewN | apply below_drew1 | refine below_set ?_ GE283.out | refine below_set ?_ GE284.out) | exact HB.out))) : w.heap.size ≤ gb285)); have n6_ := Aside0.mk (nl hg BK283.out); have n7_ := Aside0.mk (ng hg BK283.out); have n8_ := Aside0.mk (nl hg BK284.out); have n9_ := Aside0.mk (ng hg BK284.out); clear BK283; clear BK284; clear HB; have BK283 := n0_; have BK284 := n1_; have HB := n2_; have BK285 := n3_; have GW285 := n4_; have GE285 := n5_; have NB283_285 := n6_; have NB285_283 := n7_; have NB284_285 := n8_; have NB285_284 := n9_; clear n0_ n1_ n2_ n3_ n4_ n5_ n6_ n7_ n8_ n9_; clear hb hbox hg))
 have n0_ := Aside0.mk (blk_drew BK283.out)
 have n1_ := Aside0.mk (blk_drew BK284.out)
 have n2_ := Aside0.mk (blk_drew BK285.out)
 have n3_ := Aside0.mk (below_drew1 HB.out)
 clear BK283
 clear BK284
 clear BK285
 clear HB
 have BK283 := n0_
 have BK284 := n1_
 have BK285 := n2_
 have HB := n3_
 clear n0_ n1_ n2_ n3_
 refine start_ (n := 27) (S := fun w' => w'.cell? ⟨gb283, 0, none⟩ = some (.int .i64 a0_0) ∧ w'.cell? ⟨gb283, 1, none⟩ = some (.int .i64 a0_1) ∧ w'.cell? ⟨gb283, 2, none⟩ = some (.int .i64 a0_2) ∧ w'.cell? ⟨gb283, 3, none⟩ = some (.int .i64 a0_3) ∧ w'.cell? ⟨gb284, 0, none⟩ = some (.int .i64 a1_0) ∧ w'.cell? ⟨gb284, 1, none⟩ = some (.int .i64 a1_1) ∧ w'.cell? ⟨gb284, 2, none⟩ = some (.int .i64 a1_2) ∧ w'.cell? ⟨gb284, 3, none⟩ = some (.int .i64 a1_3)) (ds := []) (ab 27 0) (by kernel_rfl) rfl rfl ⟨(blk_cell BK283.out 0).trans rfl, (blk_cell BK283.out 1).trans rfl, (blk_cell BK283.out 2).trans rfl, (blk_cell BK283.out 3).trans rfl, (blk_cell BK284.out 0).trans rfl, (blk_cell BK284.out 1).trans rfl, (blk_cell BK284.out 2).trans rfl, (blk_cell BK284.out 3).trans rfl⟩ (fun hHeld => ?_); refine with_tabW quat_Blend.tab3 quat_Blend.bits3 (fun HT_ HW_ => ?_)
 generalize w14.drew = w15 at BK283 BK284 BK285 HB hHeld ⊢
 refine pure_ (i := 0) (N := some 12) (v := ?_) (a' := ?_) (ab 27 1) rfl rfl (any_of HT_.out (by kernel_rfl)) (fun _ _ _ h => h) (Or.inl ⟨by rfl, ?_⟩) ?_ ?_
 rotate_left
 ·intro w'
  go_simp
  with_reducible rfl
 rotate_left
 ·simp only [Act.put, zq1, zq2, zq3, i64_w, i32_w]
  rfl
 refine pure_ (i := 1) (N := some 13) (v := ?_) (a' := ?_) (ab 27 3) rfl rfl (any_of HT_.out (by kernel_rfl)) (fun _ _ _ h => h) (Or.inl ⟨by rfl, ?_⟩) ?_ ?_
 rotate_left
 ·intro w'
  go_simp
  with_reducible rfl
 rotate_left
 ·simp only [Act.put, zq1, zq2, zq3, i64_w, i32_w]
  rfl
 refine pure_ (i := 3) (N := some 15) (v := ?_) (a' := ?_) (ab 27 11) rfl rfl (any_of HT_.out (by kernel_rfl)) (fun _ _ _ h => h) (Or.inl ⟨by rfl, ?_⟩) ?_ ?_
 rotate_left
 ·intro w'
  go_simp
  with_reducible rfl
 rotate_left
 ·simp only [Act.put, zq1, zq2, zq3, i64_w, i32_w]
  rfl
 refine pure_ (i := 6) (N := some 18) (v := ?_) (a' := ?_) (ab 27 75) rfl rfl (any_of HT_.out (by kernel_rfl)) (fun _ _ _ h => h) (Or.inl ⟨by rfl, ?_⟩) ?_ ?_
 rotate_left
 ·intro w'
  go_simp
  with_reducible rfl
 rotate_left
 ·simp only [Act.put, zq1, zq2, zq3, i64_w, i32_w]
  rfl
 refine pure_ (i := 7) (N := some 19) (v := ?_) (a' := ?_) (ab 27 203) rfl rfl (any_of HT_.out (by kernel_rfl)) (fun _ _ _ h => h) (Or.inl ⟨by rfl, ?_⟩) ?_ ?_
 rotate_left
 ·intro w'
  go_simp
  with_reducible rfl
 rotate_left
 ·simp only [Act.put, zq1, zq2, zq3, i64_w, i32_w]
  rfl
 refine pure_ (i := 9) (N := some 21) (v := ?_) (a' := ?_) (ab 27 715) rfl rfl (any_of HT_.out (by kernel_rfl)) (fun _ _ _ h => h) (Or.inl ⟨by rfl, ?_⟩) ?_ ?_
 rotate_left
 ·intro w'
  go_simp
  with_reducible rfl
 rotate_left
 ·simp only [Act.put, zq1, zq2, zq3, i64_w, i32_w]
  rfl
 refine pure_ (i := 12) (N := some 24) (v := ?_) (a' := ?_) (ab 27 4811) rfl rfl (any_of HT_.out (by kernel_rfl)) (fun _ _ _ h => h) (Or.inl ⟨by rfl, ?_⟩) ?_ ?_
 rotate_left
 ·intro w'
  go_simp
  with_reducible rfl
 rotate_left
 ·simp only [Act.put, zq1, zq2, zq3, i64_w, i32_w]
  rfl
 refine pure_ (i := 13) (N := some 25) (v := ?_) (a' := ?_) (ab 27 13003) rfl rfl (any_of HT_.out (by kernel_rfl)) (fun _ _ _ h => h) (Or.inl ⟨by rfl, ?_⟩) ?_ ?_
 rotate_left
 ·intro w'
  go_simp
  with_reducible rfl
 rotate_left
 ·simp only [Act.put, zq1, zq2, zq3, i64_w, i32_w]
  rfl
 refine pure_ (i := 15) (N := some 27) (v := ?_) (a' := ?_) (ab 27 45771) rfl rfl (any_of HT_.out (by kernel_rfl)) (fun _ _ _ h => h) (Or.inl ⟨by rfl, ?_⟩) ?_ ?_
 rotate_left
 ·intro w'
  go_simp
  with_reducible rfl
 rotate_left
 ·simp only [Act.put, zq1, zq2, zq3, i64_w, i32_w]
  rfl
 refine pure_ (i := 18) (N := some 30) (v := ?_) (a' := ?_) (ab 27 307915) rfl rfl (any_of HT_.out (by kernel_rfl)) (fun _ _ _ h => h) (Or.inl ⟨by rfl, ?_⟩) ?_ ?_
 rotate_left
 ·intro w'
  go_simp
  with_reducible rfl
 rotate_left
 ·simp only [Act.put, zq1, zq2, zq3, i64_w, i32_w]
  rfl
 refine pure_ (i := 19) (N := some 31) (v := ?_) (a' := ?_) (ab 27 832203) rfl rfl (any_of HT_.out (by kernel_rfl)) (fun _ _ _ h => h) (Or.inl ⟨by rfl, ?_⟩) ?_ ?_
 rotate_left
 ·intro w'
  go_simp
  with_reducible rfl
 rotate_left
 ·simp only [Act.put, zq1, zq2, zq3, i64_w, i32_w]
  rfl
 refine pure_ (i := 21) (N := some 33) (v := ?_) (a' := ?_) (ab 27 2929355) rfl rfl (any_of HT_.out (by kernel_rfl)) (fun _ _ _ h => h) (Or.inl ⟨by rfl, ?_⟩) ?_ ?_
 rotate_left
 ·intro w'
  go_simp
  with_reducible rfl
 rotate_left
 ·simp only [Act.put, zq1, zq2, zq3, i64_w, i32_w]
  rfl
 refine take_ (i := 2) (N := some 14) (v := ?_) (a' := ?_) (ab 27 2929359) rfl rfl (take_ofW HT_.out HW_.out (by kernel_rfl)) (fun _ _ _ h => h) (Or.inl ⟨by rfl, ?_⟩) hHeld ?_ ?_
 rotate_left
 ·rintro w' ⟨s0, s1, s2, s3, s4, s5, s6, s7⟩
  go_simp
  with_reducible rfl
 rotate_left
 ·simp only [Act.put, zq1, zq2, zq3, i64_w, i32_w]
  rfl
 refine take_ (i := 4) (N := some 16) (v := ?_) (a' := ?_) (ab 27 2929375) rfl rfl (take_ofW HT_.out HW_.out (by kernel_rfl)) (fun _ _ _ h => h) (Or.inl ⟨by rfl, ?_⟩) hHeld ?_ ?_
 rotate_left
 ·rintro w' ⟨s0, s1, s2, s3, s4, s5, s6, s7⟩
  go_simp
  with_reducible rfl
 rotate_left
 ·simp only [Act.put, zq1, zq2, zq3, i64_w, i32_w]
  rfl
 refine take_ (i := 8) (N := some 20) (v := ?_) (a' := ?_) (ab 27 2929631) rfl rfl (take_ofW HT_.out HW_.out (by kernel_rfl)) (fun _ _ _ h => h) (Or.inl ⟨by rfl, ?_⟩) hHeld ?_ ?_
 rotate_left
 ·rintro w' ⟨s0, s1, s2, s3, s4, s5, s6, s7⟩
  go_simp
  with_reducible rfl
 rotate_left
 ·simp only [Act.put, zq1, zq2, zq3, i64_w, i32_w]
  rfl
 refine take_ (i := 10) (N := some 22) (v := ?_) (a' := ?_) (ab 27 2930655) rfl rfl (take_ofW HT_.out HW_.out (by kernel_rfl)) (fun _ _ _ h => h) (Or.inl ⟨by rfl, ?_⟩) hHeld ?_ ?_
 rotate_left
 ·rintro w' ⟨s0, s1, s2, s3, s4, s5, s6, s7⟩
  go_simp
  with_reducible rfl
 rotate_left
 ·simp only [Act.put, zq1, zq2, zq3, i64_w, i32_w]
  rfl
 refine take_ (i := 14) (N := some 26) (v := ?_) (a' := ?_) (ab 27 2947039) rfl rfl (take_ofW HT_.out HW_.out (by kernel_rfl)) (fun _ _ _ h => h) (Or.inl ⟨by rfl, ?_⟩) hHeld ?_ ?_
 rotate_left
 ·rintro w' ⟨s0, s1, s2, s3, s4, s5, s6, s7⟩
  go_simp
  with_reducible rfl
 rotate_left
 ·simp only [Act.put, zq1, zq2, zq3, i64_w, i32_w]
  rfl
 refine take_ (i := 16) (N := some 28) (v := ?_) (a' := ?_) (ab 27 3012575) rfl rfl (take_ofW HT_.out HW_.out (by kernel_rfl)) (fun _ _ _ h => h) (Or.inl ⟨by rfl, ?_⟩) hHeld ?_ ?_
 rotate_left
 ·rintro w' ⟨s0, s1, s2, s3, s4, s5, s6, s7⟩
  go_simp
  with_reducible rfl
 rotate_left
 ·simp only [Act.put, zq1, zq2, zq3, i64_w, i32_w]
  rfl
 refine take_ (i := 20) (N := some 32) (v := ?_) (a' := ?_) (ab 27 4061151) rfl rfl (take_ofW HT_.out HW_.out (by kernel_rfl)) (fun _ _ _ h => h) (Or.inl ⟨by rfl, ?_⟩) hHeld ?_ ?_
 rotate_left
 ·rintro w' ⟨s0, s1, s2, s3, s4, s5, s6, s7⟩
  go_simp
  with_reducible rfl
 rotate_left
 ·simp only [Act.put, zq1, zq2, zq3, i64_w, i32_w]
  rfl
 refine take_ (i := 22) (N := some 34) (v := ?_) (a' := ?_) (ab 27 8255455) rfl rfl (take_ofW HT_.out HW_.out (by kernel_rfl)) (fun _ _ _ h => h) (Or.inl ⟨by rfl, ?_⟩) hHeld ?_ ?_
 rotate_left
 ·rintro w' ⟨s0, s1, s2, s3, s4, s5, s6, s7⟩
  go_simp
  with_reducible rfl
 rotate_left
 ·simp only [Act.put, zq1, zq2, zq3, i64_w, i32_w]
  rfl
 refine one_ (i := 5) (N := some 17) (ab 27 8255487) rfl rfl (one_of HT_.out (by kernel_rfl)) (by decide) (fun K hK => ?_)
 refine goesR_ Try.func24 (by kernel_rfl) rfl #[.int .i64 a0_0, .int .i64 a1_0] (by rfl) rfl rfl (by (try simp only [zm1, zm2, zm3]); first | done | rfl) ?_
 with_reducible refine (fix_Mul.calls k a0_0 a1_0 t286 _ A6.out).mono ?_
 rintro e w16 ⟨rfl, hb⟩
 refine ⟨_, rfl, ?_⟩
 have n0_ := Aside0.mk (bb hb BK283.out)
 have n1_ := Aside0.mk (bb hb BK284.out)
 have n2_ := Aside0.mk (bb hb BK285.out)
 have n3_ := Aside0.mk (below_step (by repeat (first | (with_reducible first | exact HB.out | apply below_alloc | apply pw_below_drewN | apply below_drew1 | refine below_set ?_ GE283.out | refine below_set ?_ GE284.out | refine below_set ?_ GE285.out) | exact HB.out)) hb)
 clear BK283
 clear BK284
 clear BK285
 clear HB
 have BK283 := n0_
 have BK284 := n1_
 have BK285 := n2_
 have HB := n3_
 clear n0_ n1_ n2_ n3_
 (try clear hb)
 (try clear hb2)
 (try clear hk)
 (try clear hi)
 refine hK.out _ _ ⟨(blk_cell BK283.out 0).trans rfl, (blk_cell BK283.out 1).trans rfl, (blk_cell BK283.out 2).trans rfl, (blk_cell BK283.out 3).trans rfl, (blk_cell BK284.out 0).trans rfl, (blk_cell BK284.out 1).trans rfl, (blk_cell BK284.out 2).trans rfl, (blk_cell BK284.out 3).trans rfl⟩ (fun hHeld => ?_)
 clear hK K
 refine norm_ (a' := ?_) ?_ ?_
 rotate_left
 ·show Act.put _ (some 17) _ = _
  simp only [Act.put, zq1, zq2, zq3, i64_w, i32_w]
  rfl
 refine one_ (i := 11) (N := some 23) (ab 27 8257535) rfl rfl (one_of HT_.out (by kernel_rfl)) (by decide) (fun K hK => ?_)
 refine goesR_ Try.func24 (by kernel_rfl) rfl #[.int .i64 a0_1, .int .i64 a1_1] (by rfl) rfl rfl (by (try simp only [zm1, zm2, zm3]); first | done | rfl) ?_
 with_reducible refine (fix_Mul.calls k a0_1 a1_1 t287 _ A7.out).mono ?_
 rintro e w17 ⟨rfl, hb⟩
 refine ⟨_, rfl, ?_⟩
 have n0_ := Aside0.mk (bb hb BK283.out)
 have n1_ := Aside0.mk (bb hb BK284.out)
 have n2_ := Aside0.mk (bb hb BK285.out)
 have n3_ := Aside0.mk (below_step (by repeat (first | (with_reducible first | exact HB.out | apply below_alloc | apply pw_below_drewN | apply below_drew1 | refine below_set ?_ GE283.out | refine below_set ?_ GE284.out | refine below_set ?_ GE285.out) | exact HB.out)) hb)
 clear BK283
 clear BK284
 clear BK285
 clear HB
 have BK283 := n0_
 have BK284 := n1_
 have BK285 := n2_
 have HB := n3_
 clear n0_ n1_ n2_ n3_
 (try clear hb)
 (try clear hb2)
 (try clear hk)
 (try clear hi)
 refine hK.out _ _ ⟨(blk_cell BK283.out 0).trans rfl, (blk_cell BK283.out 1).trans rfl, (blk_cell BK283.out 2).trans rfl, (blk_cell BK283.out 3).trans rfl, (blk_cell BK284.out 0).trans rfl, (blk_cell BK284.out 1).trans rfl, (blk_cell BK284.out 2).trans rfl, (blk_cell BK284.out 3).trans rfl⟩ (fun hHeld => ?_)
 clear hK K
 refine norm_ (a' := ?_) ?_ ?_
 rotate_left
 ·show Act.put _ (some 23) _ = _
  simp only [Act.put, zq1, zq2, zq3, i64_w, i32_w]
  rfl
 refine one_ (i := 17) (N := some 29) (ab 27 8388607) rfl rfl (one_of HT_.out (by kernel_rfl)) (by decide) (fun K hK => ?_)
 refine goesR_ Try.func24 (by kernel_rfl) rfl #[.int .i64 a0_2, .int .i64 a1_2] (by rfl) rfl rfl (by (try simp only [zm1, zm2, zm3]); first | done | rfl) ?_
 with_reducible refine (fix_Mul.calls k a0_2 a1_2 t288 _ A8.out).mono ?_
 rintro e w18 ⟨rfl, hb⟩
 refine ⟨_, rfl, ?_⟩
 have n0_ := Aside0.mk (bb hb BK283.out)
 have n1_ := Aside0.mk (bb hb BK284.out)
 have n2_ := Aside0.mk (bb hb BK285.out)
 have n3_ := Aside0.mk (below_step (by repeat (first | (with_reducible first | exact HB.out | apply below_alloc | apply pw_below_drewN | apply below_drew1 | refine below_set ?_ GE283.out | refine below_set ?_ GE284.out | refine below_set ?_ GE285.out) | exact HB.out)) hb)
 clear BK283
 clear BK284
 clear BK285
 clear HB
 have BK283 := n0_
 have BK284 := n1_
 have BK285 := n2_
 have HB := n3_
 clear n0_ n1_ n2_ n3_
 (try clear hb)
 (try clear hb2)
 (try clear hk)
 (try clear hi)
 refine hK.out _ _ ⟨(blk_cell BK283.out 0).trans rfl, (blk_cell BK283.out 1).trans rfl, (blk_cell BK283.out 2).trans rfl, (blk_cell BK283.out 3).trans rfl, (blk_cell BK284.out 0).trans rfl, (blk_cell BK284.out 1).trans rfl, (blk_cell BK284.out 2).trans rfl, (blk_cell BK284.out 3).trans rfl⟩ (fun hHeld => ?_)
 clear hK K
 refine norm_ (a' := ?_) ?_ ?_
 rotate_left
 ·show Act.put _ (some 29) _ = _
  simp only [Act.put, zq1, zq2, zq3, i64_w, i32_w]
  rfl
 refine one_ (i := 23) (N := some 35) (ab 27 16777215) rfl rfl (one_of HT_.out (by kernel_rfl)) (by decide) (fun K hK => ?_)
 refine goesR_ Try.func24 (by kernel_rfl) rfl #[.int .i64 a0_3, .int .i64 a1_3] (by rfl) rfl rfl (by (try simp only [zm1, zm2, zm3]); first | done | rfl) ?_
 with_reducible refine (fix_Mul.calls k a0_3 a1_3 t289 _ A9.out).mono ?_
 rintro e w19 ⟨rfl, hb⟩
 refine ⟨_, rfl, ?_⟩
 have n0_ := Aside0.mk (bb hb BK283.out)
 have n1_ := Aside0.mk (bb hb BK284.out)
 have n2_ := Aside0.mk (bb hb BK285.out)
 have n3_ := Aside0.mk (below_step (by repeat (first | (with_reducible first | exact HB.out | apply below_alloc | apply pw_below_drewN | apply below_drew1 | refine below_set ?_ GE283.out | refine below_set ?_ GE284.out | refine below_set ?_ GE285.out) | exact HB.out)) hb)
 clear BK283
 clear BK284
 clear BK285
 clear HB
 have BK283 := n0_
 have BK284 := n1_
 have BK285 := n2_
 have HB := n3_
 clear n0_ n1_ n2_ n3_
 (try clear hb)
 (try clear hb2)
 (try clear hk)
 (try clear hi)
 refine hK.out _ _ ⟨(blk_cell BK283.out 0).trans rfl, (blk_cell BK283.out 1).trans rfl, (blk_cell BK283.out 2).trans rfl, (blk_cell BK283.out 3).trans rfl, (blk_cell BK284.out 0).trans rfl, (blk_cell BK284.out 1).trans rfl, (blk_cell BK284.out 2).trans rfl, (blk_cell BK284.out 3).trans rfl⟩ (fun hHeld => ?_)
 clear hK K
 refine norm_ (a' := ?_) ?_ ?_
 rotate_left
 ·show Act.put _ (some 35) _ = _
  simp only [Act.put, zq1, zq2, zq3, i64_w, i32_w]
  rfl
 refine one_ (i := 24) (N := some 36) (ab 27 33554431) rfl rfl (one_of HT_.out (by kernel_rfl)) (by decide) (fun K hK => ?_)
 refine Kd.R_lit_step (Kd.int .i64) _ 3 ?hg (N := 36) ?hd (xs := ([t286, t287, t288, t289] : List Int)) (inner := [.int .i64 t286, .int .i64 t287, .int .i64 t288, .int .i64 t289]) (ok := fun _ => True) (okp := fun _ => True) ?hr ?hp (fun _ hk => hk) trivial (Below.refl _ _) (Nat.le_refl _) (by simp) ?_; (case hd => rfl); (case hg => rfl); (case hr => first | (go_simp; done) | (go_simp; rfl)); (case hp => exact (Reps.one (show Kd.M (Kd.int .i64) _ _ _ t286 [.int .i64 t286] from rfl) (Reps.one (show Kd.M (Kd.int .i64) _ _ _ t287 [.int .i64 t287] from rfl) (Reps.one (show Kd.M (Kd.int .i64) _ _ _ t288 [.int .i64 t288] from rfl) (Reps.one (show Kd.M (Kd.int .i64) _ _ _ t289 [.int .i64 t289] from rfl) (Reps.none _ _))))))
 intro v291 w20 ho21 hb hg_ hnew_
 clear hg_ hnew_
 (first | rw [← Ny290.out] at ho21 | (simp only [Int.reduceToNat] at ho21; rw [← Ny290.out] at ho21))
 have n0_ := Aside0.mk (Kd.R_lower ho21 (below_size (by repeat (first | (with_reducible first | exact HB.out | apply below_alloc | apply pw_below_drewN | apply below_drew1 | refine below_set ?_ GE283.out | refine below_set ?_ GE284.out | refine below_set ?_ GE285.out) | exact HB.out))))
 have n1_ := Aside0.mk (bb hb BK283.out)
 have n2_ := Aside0.mk (bb hb BK284.out)
 have n3_ := Aside0.mk (bb hb BK285.out)
 have n4_ := Aside0.mk (below_step (by repeat (first | (with_reducible first | exact HB.out | apply below_alloc | apply pw_below_drewN | apply below_drew1 | refine below_set ?_ GE283.out | refine below_set ?_ GE284.out | refine below_set ?_ GE285.out) | exact HB.out)) hb)
 clear BK283
 clear BK284
 clear BK285
 clear HB
 have HO292 := n0_
 have BK283 := n1_
 have BK284 := n2_
 have BK285 := n3_
 have HB := n4_
 clear n0_ n1_ n2_ n3_ n4_
 clear hb ho21
 obtain ⟨Ao22, co22, eo22⟩ := Kd.R_slice HO292.out
 (first | subst eo22 | (injection eo22 with f1_ f2_ f3_; have f4_ := f1_.symm; have f5_ := f3_.symm; clear f1_ f2_ f3_; subst f4_; subst f5_))
 refine hK.out _ _ ⟨(blk_cell BK283.out 0).trans rfl, (blk_cell BK283.out 1).trans rfl, (blk_cell BK283.out 2).trans rfl, (blk_cell BK283.out 3).trans rfl, (blk_cell BK284.out 0).trans rfl, (blk_cell BK284.out 1).trans rfl, (blk_cell BK284.out 2).trans rfl, (blk_cell BK284.out 3).trans rfl⟩ (fun hHeld => ?_)
 clear hK K
 refine norm_ (a' := ?_) ?_ ?_
 rotate_left
 ·show Act.put _ (some 36) _ = _
  simp only [Act.put, zq1, zq2, zq3, i64_w, i32_w]
  rfl
 refine one_ (i := 25) (N := some 37) (ab 27 67108863) rfl rfl (one_of HT_.out (by kernel_rfl)) (by decide) (fun K hK => ?_)
 refine goes_ Try.func34 (by kernel_rfl) rfl #[.slice Ao22 y290.length co22] (by rfl) rfl rfl (by (try simp only [zm1, zm2, zm3]); first | done | rfl) ?_
 with_reducible refine (quat_sum.calls k _ _ y290 t293 _ ?side1 ?side2 A10.out).mono ?_
 (case side1 => repeat (first | exact (Kd.R_reads' HO292.out).2.2 | (with_reducible refine Kd.C_alloc ?_ _) | (with_reducible refine Kd.C_drewN ?_ _) | (with_reducible refine Kd.C_drew ?_)))
 (case side2 => exact (Kd.R_reads' HO292.out).2.1)
 rintro e w23 ⟨rfl, hb⟩
 refine ⟨_, rfl, ?_⟩
 have n0_ := Aside0.mk (Kd.R_below (by (with_reducible repeat (first | apply Kd.R_alloc | apply Kd.R_drewN | apply Kd.R_drew)); exact HO292.out) hb)
 have n1_ := Aside0.mk (bb hb BK283.out)
 have n2_ := Aside0.mk (bb hb BK284.out)
 have n3_ := Aside0.mk (bb hb BK285.out)
 have n4_ := Aside0.mk (below_step (by repeat (first | (with_reducible first | exact HB.out | apply below_alloc | apply pw_below_drewN | apply below_drew1 | refine below_set ?_ GE283.out | refine below_set ?_ GE284.out | refine below_set ?_ GE285.out) | exact HB.out)) hb)
 clear HO292
 clear BK283
 clear BK284
 clear BK285
 clear HB
 have HO292 := n0_
 have BK283 := n1_
 have BK284 := n2_
 have BK285 := n3_
 have HB := n4_
 clear n0_ n1_ n2_ n3_ n4_
 (try clear hb)
 (try clear hb2)
 (try clear hk)
 (try clear hi)
 refine hK.out _ _ ⟨(blk_cell BK283.out 0).trans rfl, (blk_cell BK283.out 1).trans rfl, (blk_cell BK283.out 2).trans rfl, (blk_cell BK283.out 3).trans rfl, (blk_cell BK284.out 0).trans rfl, (blk_cell BK284.out 1).trans rfl, (blk_cell BK284.out 2).trans rfl, (blk_cell BK284.out 3).trans rfl⟩ (fun hHeld => ?_)
 clear hK K
 refine norm_ (a' := ?_) ?_ ?_
 rotate_left
 ·show Act.put _ (some 37) _ = _
  simp only [Act.put, zq1, zq2, zq3, i64_w, i32_w]
  rfl
 refine pure_ (i := 26) (N := some 38) (v := ?_) (a' := ?_) (ab 27 134217727) rfl rfl (any_of HT_.out (by kernel_rfl)) (fun _ _ _ h => h) (Or.inl ⟨by rfl, ?_⟩) ?_ ?_
 rotate_left
 ·intro w'
  go_simp
  with_reducible rfl
 rotate_left
 ·simp only [Act.put, zq1, zq2, zq3, i64_w, i32_w]
  rfl
 refine done_ (done_of HT_.out (by kernel_rfl)) ?_
 go_upto_if 38 with (fail)
 go_cut [] (fun wc => ∃ (kq : Nat) (x285000_10 : Int) (x285001_10 : Int) (x285002_10 : Int) (x285003_10 : Int), Aside0 (quat_Blend.j0 kq ji5 a0_0 a0_1 a0_2 a0_3 x285000_10 x285001_10 x285002_10 x285003_10 = some (r1, r2, r3, r4)) ∧ Aside0 (kq ≤ k) ∧ Aside0 (wc.heap[gb283]? = some (.cells #[.int .i64 a0_0, .int .i64 a0_1, .int .i64 a0_2, .int .i64 a0_3] 37 (0, 0))) ∧ Aside0 (wc.heap[gb284]? = some (.cells #[.int .i64 x285000_10, .int .i64 x285001_10, .int .i64 x285002_10, .int .i64 x285003_10] 37 (0, 0))) ∧ Aside0 (wc.heap[gb285]? = some (.cells #[.int .i64 0, .int .i64 0, .int .i64 0, .int .i64 0] 37 (0, 0))) ∧ Aside0 (Below w.heap.size w wc))
 case first =>
  have H := HC11.out
  clear HC11
  by_cases c24 : t293 < 0
  ·rw [if_pos c24] at H
   have c24b0 : decide (t293 < 0) = true := decide_eq_true c24
   clear c24
   (first | rw [c24b0] | (simp only [i64_w, i32_w]; rw [c24b0]) | skip)
   replace H := Option.bind_eq_some_iff.mp H
   obtain ⟨t294, A250, H⟩ := H
   replace H : ((fix_Clamp.f a1_1).bind fun t295 => ((fix_Clamp.f a1_2).bind fun t296 => ((fix_Clamp.f a1_3).bind fun t297 => (quat_Blend.j0 k ji5 a0_0 a0_1 a0_2 a0_3 (wrap64 (-t294)) (wrap64 (-t295)) (wrap64 (-t296)) (wrap64 (-t297)))))) = some (r1, r2, r3, r4) := H
   have A25 := Aside0.mk A250
   clear A250
   replace H := Option.bind_eq_some_iff.mp H
   obtain ⟨t295, A260, H⟩ := H
   replace H : ((fix_Clamp.f a1_2).bind fun t296 => ((fix_Clamp.f a1_3).bind fun t297 => (quat_Blend.j0 k ji5 a0_0 a0_1 a0_2 a0_3 (wrap64 (-t294)) (wrap64 (-t295)) (wrap64 (-t296)) (wrap64 (-t297))))) = some (r1, r2, r3, r4) := H
   have A26 := Aside0.mk A260
   clear A260
   replace H := Option.bind_eq_some_iff.mp H
   obtain ⟨t296, A270, H⟩ := H
   replace H : ((fix_Clamp.f a1_3).bind fun t297 => (quat_Blend.j0 k ji5 a0_0 a0_1 a0_2 a0_3 (wrap64 (-t294)) (wrap64 (-t295)) (wrap64 (-t296)) (wrap64 (-t297)))) = some (r1, r2, r3, r4) := H
   have A27 := Aside0.mk A270
   clear A270
   replace H := Option.bind_eq_some_iff.mp H
   obtain ⟨t297, A280, H⟩ := H
   replace H : (quat_Blend.j0 k ji5 a0_0 a0_1 a0_2 a0_3 (wrap64 (-t294)) (wrap64 (-t295)) (wrap64 (-t296)) (wrap64 (-t297))) = some (r1, r2, r3, r4) := H
   have A28 := Aside0.mk A280
   clear A280
   have H' := Aside0.mk H
   clear H
   try go_wp2
   have n0_ := Aside0.mk (Kd.R_drew HO292.out)
   have n1_ := Aside0.mk (blk_drew BK283.out)
   have n2_ := Aside0.mk (blk_drew BK284.out)
   have n3_ := Aside0.mk (blk_drew BK285.out)
   have n4_ := Aside0.mk (below_drew1 HB.out)
   clear HO292
   clear BK283
   clear BK284
   clear BK285
   clear HB
   have HO292 := n0_
   have BK283 := n1_
   have BK284 := n2_
   have BK285 := n3_
   have HB := n4_
   clear n0_ n1_ n2_ n3_ n4_
   refine start_ (n := 18) (S := fun w' => w'.cell? ⟨gb284, 0, none⟩ = some (.int .i64 a1_0) ∧ w'.cell? ⟨gb284, 1, none⟩ = some (.int .i64 a1_1) ∧ w'.cell? ⟨gb284, 2, none⟩ = some (.int .i64 a1_2) ∧ w'.cell? ⟨gb284, 3, none⟩ = some (.int .i64 a1_3)) (ds := [17]) (ab 18 0) (by kernel_rfl) rfl rfl ⟨(blk_cell BK284.out 0).trans rfl, (blk_cell BK284.out 1).trans rfl, (blk_cell BK284.out 2).trans rfl, (blk_cell BK284.out 3).trans rfl⟩ (fun hHeld => ?_); refine with_tabW quat_Blend.tab4 quat_Blend.bits4 (fun HT_ HW_ => ?_)
   generalize w23.drew = w29 at HO292 BK283 BK284 BK285 HB hHeld ⊢
   refine pure_ (i := 0) (N := some 39) (v := ?_) (a' := ?_) (ab 18 1) rfl rfl (any_of HT_.out (by kernel_rfl)) (fun _ _ _ h => h) (Or.inl ⟨by rfl, ?_⟩) ?_ ?_
   rotate_left
   ·intro w'
    go_simp
    with_reducible rfl
   rotate_left
   ·simp only [Act.put, zq1, zq2, zq3, i64_w, i32_w]
    rfl
   refine pure_ (i := 4) (N := some 43) (v := ?_) (a' := ?_) (ab 18 17) rfl rfl (any_of HT_.out (by kernel_rfl)) (fun _ _ _ h => h) (Or.inl ⟨by rfl, ?_⟩) ?_ ?_
   rotate_left
   ·intro w'
    go_simp
    with_reducible rfl
   rotate_left
   ·simp only [Act.put, zq1, zq2, zq3, i64_w, i32_w]
    rfl
   refine pure_ (i := 8) (N := some 47) (v := ?_) (a' := ?_) (ab 18 273) rfl rfl (any_of HT_.out (by kernel_rfl)) (fun _ _ _ h => h) (Or.inl ⟨by rfl, ?_⟩) ?_ ?_
   rotate_left
   ·intro w'
    go_simp
    with_reducible rfl
   rotate_left
   ·simp only [Act.put, zq1, zq2, zq3, i64_w, i32_w]
    rfl
   refine pure_ (i := 12) (N := some 51) (v := ?_) (a' := ?_) (ab 18 4369) rfl rfl (any_of HT_.out (by kernel_rfl)) (fun _ _ _ h => h) (Or.inl ⟨by rfl, ?_⟩) ?_ ?_
   rotate_left
   ·intro w'
    go_simp
    with_reducible rfl
   rotate_left
   ·simp only [Act.put, zq1, zq2, zq3, i64_w, i32_w]
    rfl
   refine take_ (i := 1) (N := some 40) (v := ?_) (a' := ?_) (ab 18 4371) rfl rfl (take_ofW HT_.out HW_.out (by kernel_rfl)) (fun _ _ _ h => h) (Or.inl ⟨by rfl, ?_⟩) hHeld ?_ ?_
   rotate_left
   ·rintro w' ⟨s0, s1, s2, s3⟩
    go_simp
    with_reducible rfl
   rotate_left
   ·simp only [Act.put, zq1, zq2, zq3, i64_w, i32_w]
    rfl
   refine take_ (i := 5) (N := some 44) (v := ?_) (a' := ?_) (ab 18 4403) rfl rfl (take_ofW HT_.out HW_.out (by kernel_rfl)) (fun _ _ _ h => h) (Or.inl ⟨by rfl, ?_⟩) hHeld ?_ ?_
   rotate_left
   ·rintro w' ⟨s0, s1, s2, s3⟩
    go_simp
    with_reducible rfl
   rotate_left
   ·simp only [Act.put, zq1, zq2, zq3, i64_w, i32_w]
    rfl
   refine take_ (i := 9) (N := some 48) (v := ?_) (a' := ?_) (ab 18 4915) rfl rfl (take_ofW HT_.out HW_.out (by kernel_rfl)) (fun _ _ _ h => h) (Or.inl ⟨by rfl, ?_⟩) hHeld ?_ ?_
   rotate_left
   ·rintro w' ⟨s0, s1, s2, s3⟩
    go_simp
    with_reducible rfl
   rotate_left
   ·simp only [Act.put, zq1, zq2, zq3, i64_w, i32_w]
    rfl
   refine take_ (i := 13) (N := some 52) (v := ?_) (a' := ?_) (ab 18 13107) rfl rfl (take_ofW HT_.out HW_.out (by kernel_rfl)) (fun _ _ _ h => h) (Or.inl ⟨by rfl, ?_⟩) hHeld ?_ ?_
   rotate_left
   ·rintro w' ⟨s0, s1, s2, s3⟩
    go_simp
    with_reducible rfl
   rotate_left
   ·simp only [Act.put, zq1, zq2, zq3, i64_w, i32_w]
    rfl
   refine one_ (i := 2) (N := some 41) (ab 18 13111) rfl rfl (one_of HT_.out (by kernel_rfl)) (by decide) (fun K hK => ?_)
   refine goes_ Try.func30 (by kernel_rfl) rfl #[.int .i64 a1_0] (by rfl) rfl rfl (by (try simp only [zm1, zm2, zm3]); first | done | rfl) ?_
   with_reducible refine (fix_Clamp.calls a1_0 t294 _ A25.out).mono ?_
   rintro e w30 ⟨rfl, hb⟩
   refine ⟨_, rfl, ?_⟩
   have n0_ := Aside0.mk (Kd.R_below (by (with_reducible repeat (first | apply Kd.R_alloc | apply Kd.R_drewN | apply Kd.R_drew)); exact HO292.out) hb)
   have n1_ := Aside0.mk (bb hb BK283.out)
   have n2_ := Aside0.mk (bb hb BK284.out)
   have n3_ := Aside0.mk (bb hb BK285.out)
   have n4_ := Aside0.mk (below_step (by repeat (first | (with_reducible first | exact HB.out | apply below_alloc | apply pw_below_drewN | apply below_drew1 | refine below_set ?_ GE283.out | refine below_set ?_ GE284.out | refine below_set ?_ GE285.out) | exact HB.out)) hb)
   clear HO292
   clear BK283
   clear BK284
   clear BK285
   clear HB
   have HO292 := n0_
   have BK283 := n1_
   have BK284 := n2_
   have BK285 := n3_
   have HB := n4_
   clear n0_ n1_ n2_ n3_ n4_
   (try clear hb)
   (try clear hb2)
   (try clear hk)
   (try clear hi)
   refine hK.out _ _ ⟨(blk_cell BK284.out 0).trans rfl, (blk_cell BK284.out 1).trans rfl, (blk_cell BK284.out 2).trans rfl, (blk_cell BK284.out 3).trans rfl⟩ (fun hHeld => ?_)
   clear hK K
   refine norm_ (a' := ?_) ?_ ?_
   rotate_left
   ·show Act.put _ (some 41) _ = _
    simp only [Act.put, zq1, zq2, zq3, i64_w, i32_w]
    rfl
   refine pure_ (i := 3) (N := some 42) (v := ?_) (a' := ?_) (ab 18 13119) rfl rfl (any_of HT_.out (by kernel_rfl)) (fun _ _ _ h => h) (Or.inl ⟨by rfl, ?_⟩) ?_ ?_
   rotate_left
   ·intro w'
    go_simp
    with_reducible rfl
   rotate_left
   ·simp only [Act.put, zq1, zq2, zq3, i64_w, i32_w]
    rfl
   refine one_ (i := 6) (N := some 45) (ab 18 13183) rfl rfl (one_of HT_.out (by kernel_rfl)) (by decide) (fun K hK => ?_)
   refine goes_ Try.func30 (by kernel_rfl) rfl #[.int .i64 a1_1] (by rfl) rfl rfl (by (try simp only [zm1, zm2, zm3]); first | done | rfl) ?_
   with_reducible refine (fix_Clamp.calls a1_1 t295 _ A26.out).mono ?_
   rintro e w31 ⟨rfl, hb⟩
   refine ⟨_, rfl, ?_⟩
   have n0_ := Aside0.mk (Kd.R_below (by (with_reducible repeat (first | apply Kd.R_alloc | apply Kd.R_drewN | apply Kd.R_drew)); exact HO292.out) hb)
   have n1_ := Aside0.mk (bb hb BK283.out)
   have n2_ := Aside0.mk (bb hb BK284.out)
   have n3_ := Aside0.mk (bb hb BK285.out)
   have n4_ := Aside0.mk (below_step (by repeat (first | (with_reducible first | exact HB.out | apply below_alloc | apply pw_below_drewN | apply below_drew1 | refine below_set ?_ GE283.out | refine below_set ?_ GE284.out | refine below_set ?_ GE285.out) | exact HB.out)) hb)
   clear HO292
   clear BK283
   clear BK284
   clear BK285
   clear HB
   have HO292 := n0_
   have BK283 := n1_
   have BK284 := n2_
   have BK285 := n3_
   have HB := n4_
   clear n0_ n1_ n2_ n3_ n4_
   (try clear hb)
   (try clear hb2)
   (try clear hk)
   (try clear hi)
   refine hK.out _ _ ⟨(blk_cell BK284.out 0).trans rfl, (blk_cell BK284.out 1).trans rfl, (blk_cell BK284.out 2).trans rfl, (blk_cell BK284.out 3).trans rfl⟩ (fun hHeld => ?_)
   clear hK K
   refine norm_ (a' := ?_) ?_ ?_
   rotate_left
   ·show Act.put _ (some 45) _ = _
    simp only [Act.put, zq1, zq2, zq3, i64_w, i32_w]
    rfl
   refine pure_ (i := 7) (N := some 46) (v := ?_) (a' := ?_) (ab 18 13311) rfl rfl (any_of HT_.out (by kernel_rfl)) (fun _ _ _ h => h) (Or.inl ⟨by rfl, ?_⟩) ?_ ?_
   rotate_left
   ·intro w'
    go_simp
    with_reducible rfl
   rotate_left
   ·simp only [Act.put, zq1, zq2, zq3, i64_w, i32_w]
    rfl
   refine one_ (i := 10) (N := some 49) (ab 18 14335) rfl rfl (one_of HT_.out (by kernel_rfl)) (by decide) (fun K hK => ?_)
   refine goes_ Try.func30 (by kernel_rfl) rfl #[.int .i64 a1_2] (by rfl) rfl rfl (by (try simp only [zm1, zm2, zm3]); first | done | rfl) ?_
   with_reducible refine (fix_Clamp.calls a1_2 t296 _ A27.out).mono ?_
   rintro e w32 ⟨rfl, hb⟩
   refine ⟨_, rfl, ?_⟩
   have n0_ := Aside0.mk (Kd.R_below (by (with_reducible repeat (first | apply Kd.R_alloc | apply Kd.R_drewN | apply Kd.R_drew)); exact HO292.out) hb)
   have n1_ := Aside0.mk (bb hb BK283.out)
   have n2_ := Aside0.mk (bb hb BK284.out)
   have n3_ := Aside0.mk (bb hb BK285.out)
   have n4_ := Aside0.mk (below_step (by repeat (first | (with_reducible first | exact HB.out | apply below_alloc | apply pw_below_drewN | apply below_drew1 | refine below_set ?_ GE283.out | refine below_set ?_ GE284.out | refine below_set ?_ GE285.out) | exact HB.out)) hb)
   clear HO292
   clear BK283
   clear BK284
   clear BK285
   clear HB
   have HO292 := n0_
   have BK283 := n1_
   have BK284 := n2_
   have BK285 := n3_
   have HB := n4_
   clear n0_ n1_ n2_ n3_ n4_
   (try clear hb)
   (try clear hb2)
   (try clear hk)
   (try clear hi)
   refine hK.out _ _ ⟨(blk_cell BK284.out 0).trans rfl, (blk_cell BK284.out 1).trans rfl, (blk_cell BK284.out 2).trans rfl, (blk_cell BK284.out 3).trans rfl⟩ (fun hHeld => ?_)
   clear hK K
   refine norm_ (a' := ?_) ?_ ?_
   rotate_left
   ·show Act.put _ (some 49) _ = _
    simp only [Act.put, zq1, zq2, zq3, i64_w, i32_w]
    rfl
   refine pure_ (i := 11) (N := some 50) (v := ?_) (a' := ?_) (ab 18 16383) rfl rfl (any_of HT_.out (by kernel_rfl)) (fun _ _ _ h => h) (Or.inl ⟨by rfl, ?_⟩) ?_ ?_
   rotate_left
   ·intro w'
    go_simp
    with_reducible rfl
   rotate_left
   ·simp only [Act.put, zq1, zq2, zq3, i64_w, i32_w]
    rfl
   refine one_ (i := 14) (N := some 53) (ab 18 32767) rfl rfl (one_of HT_.out (by kernel_rfl)) (by decide) (fun K hK => ?_)
   refine goes_ Try.func30 (by kernel_rfl) rfl #[.int .i64 a1_3] (by rfl) rfl rfl (by (try simp only [zm1, zm2, zm3]); first | done | rfl) ?_
   with_reducible refine (fix_Clamp.calls a1_3 t297 _ A28.out).mono ?_
   rintro e w33 ⟨rfl, hb⟩
   refine ⟨_, rfl, ?_⟩
   have n0_ := Aside0.mk (Kd.R_below (by (with_reducible repeat (first | apply Kd.R_alloc | apply Kd.R_drewN | apply Kd.R_drew)); exact HO292.out) hb)
   have n1_ := Aside0.mk (bb hb BK283.out)
   have n2_ := Aside0.mk (bb hb BK284.out)
   have n3_ := Aside0.mk (bb hb BK285.out)
   have n4_ := Aside0.mk (below_step (by repeat (first | (with_reducible first | exact HB.out | apply below_alloc | apply pw_below_drewN | apply below_drew1 | refine below_set ?_ GE283.out | refine below_set ?_ GE284.out | refine below_set ?_ GE285.out) | exact HB.out)) hb)
   clear HO292
   clear BK283
   clear BK284
   clear BK285
   clear HB
   have HO292 := n0_
   have BK283 := n1_
   have BK284 := n2_
   have BK285 := n3_
   have HB := n4_
   clear n0_ n1_ n2_ n3_ n4_
   (try clear hb)
   (try clear hb2)
   (try clear hk)
   (try clear hi)
   refine hK.out _ _ ⟨(blk_cell BK284.out 0).trans rfl, (blk_cell BK284.out 1).trans rfl, (blk_cell BK284.out 2).trans rfl, (blk_cell BK284.out 3).trans rfl⟩ (fun hHeld => ?_)
   clear hK K
   refine norm_ (a' := ?_) ?_ ?_
   rotate_left
   ·show Act.put _ (some 53) _ = _
    simp only [Act.put, zq1, zq2, zq3, i64_w, i32_w]
    rfl
   refine pure_ (i := 15) (N := some 54) (v := ?_) (a' := ?_) (ab 18 65535) rfl rfl (any_of HT_.out (by kernel_rfl)) (fun _ _ _ h => h) (Or.inl ⟨by rfl, ?_⟩) ?_ ?_
   rotate_left
   ·intro w'
    go_simp
    with_reducible rfl
   rotate_left
   ·simp only [Act.put, zq1, zq2, zq3, i64_w, i32_w]
    rfl
   refine pure_ (i := 16) (N := some 55) (v := ?_) (a' := ?_) (ab 18 131071) rfl rfl (any_of HT_.out (by kernel_rfl)) (fun _ _ _ h => h) (Or.inl ⟨by rfl, ?_⟩) ?_ ?_
   rotate_left
   ·intro w'
    go_simp
    with_reducible rfl
   rotate_left
   ·simp only [Act.put, zq1, zq2, zq3, i64_w, i32_w]
    rfl
   refine last_ (i := 17) (N := none) (ab 18 262143) rfl rfl (one_of HT_.out (by kernel_rfl)) (by decide) (fun K hK => ?_)
   have hs34 : w33.cell? ⟨gb284, 0, none⟩ = some (.int .i64 a1_0) := (blk_cell BK284.out 0).trans rfl
   have hfs34 := blk_frozen BK284.out 0
   have hns34_0 := NB283_284.out
   have hns34_2 := NB285_284.out
   have hms34_0 := NB284_283.out
   have hms34_2 := NB284_285.out
   have hs35 : w33.cell? ⟨gb284, 1, none⟩ = some (.int .i64 a1_1) := (blk_cell BK284.out 1).trans rfl
   have hfs35 := blk_frozen BK284.out 1
   have hns35_0 := NB283_284.out
   have hns35_2 := NB285_284.out
   have hms35_0 := NB284_283.out
   have hms35_2 := NB284_285.out
   have hs36 : w33.cell? ⟨gb284, 2, none⟩ = some (.int .i64 a1_2) := (blk_cell BK284.out 2).trans rfl
   have hfs36 := blk_frozen BK284.out 2
   have hns36_0 := NB283_284.out
   have hns36_2 := NB285_284.out
   have hms36_0 := NB284_283.out
   have hms36_2 := NB284_285.out
   have hs37 : w33.cell? ⟨gb284, 3, none⟩ = some (.int .i64 a1_3) := (blk_cell BK284.out 3).trans rfl
   have hfs37 := blk_frozen BK284.out 3
   have hns37_0 := NB283_284.out
   have hns37_2 := NB285_284.out
   have hms37_0 := NB284_283.out
   have hms37_2 := NB284_285.out
   refine skip_ (w1 := ?_) (by rfl) rfl ?_ ?_
   rotate_left
   ·go_simp
    rfl
   refine hK.out _ _ ?_
   clear hK K
   refine done_ (done_of HT_.out (by kernel_rfl)) ?_
   try go_wp2
   go_meet
   case rel => exact ⟨_, (wrap64 (-t294)), (wrap64 (-t295)), (wrap64 (-t296)), (wrap64 (-t297)), H', ⟨by first | omega | exact Nat.le_refl _⟩, ⟨by (with_reducible repeat (first | refine blk_drewN ?_ _ | refine blk_drew ?_ | refine blk_alloc ?_ _)); refine blk_far ?_ NB283_284.out _; refine blk_far ?_ NB283_284.out _; refine blk_far ?_ NB283_284.out _; refine blk_far ?_ NB283_284.out _; exact BK283.out⟩, ⟨by (with_reducible repeat (first | refine blk_drewN ?_ _ | refine blk_drew ?_ | refine blk_alloc ?_ _)); refine blk_put (cs := #[.int .i64 (wrap64 (-t294)), .int .i64 (wrap64 (-t295)), .int .i64 (wrap64 (-t296)), .int .i64 a1_3]) ?_ 3 _ rfl; refine blk_put (cs := #[.int .i64 (wrap64 (-t294)), .int .i64 (wrap64 (-t295)), .int .i64 a1_2, .int .i64 a1_3]) ?_ 2 _ rfl; refine blk_put (cs := #[.int .i64 (wrap64 (-t294)), .int .i64 a1_1, .int .i64 a1_2, .int .i64 a1_3]) ?_ 1 _ rfl; refine blk_put (cs := #[.int .i64 a1_0, .int .i64 a1_1, .int .i64 a1_2, .int .i64 a1_3]) ?_ 0 _ rfl; exact BK284.out⟩, ⟨by (with_reducible repeat (first | refine blk_drewN ?_ _ | refine blk_drew ?_ | refine blk_alloc ?_ _)); refine blk_far ?_ NB285_284.out _; refine blk_far ?_ NB285_284.out _; refine blk_far ?_ NB285_284.out _; refine blk_far ?_ NB285_284.out _; exact BK285.out⟩, ⟨by repeat (first | (with_reducible first | exact HB.out | apply below_alloc | apply pw_below_drewN | apply below_drew1 | refine below_set ?_ GE283.out | refine below_set ?_ GE284.out | refine below_set ?_ GE285.out) | exact HB.out)⟩⟩
  ·rw [if_neg c24] at H
   have c24b0 : decide (t293 < 0) = false := decide_eq_false c24
   clear c24
   (first | rw [c24b0] | (simp only [i64_w, i32_w]; rw [c24b0]) | skip)
   have H' := Aside0.mk H
   clear H
   go_wp2
   go_meet
   case rel => exact ⟨_, (a1_0), (a1_1), (a1_2), (a1_3), H', ⟨by first | omega | exact Nat.le_refl _⟩, ⟨BK283.out⟩, ⟨BK284.out⟩, ⟨BK285.out⟩, ⟨by repeat (first | (with_reducible first | exact HB.out | apply below_alloc | apply pw_below_drewN | apply below_drew1 | refine below_set ?_ GE283.out | refine below_set ?_ GE284.out | refine below_set ?_ GE285.out) | exact HB.out)⟩⟩
 case rest =>
  clear HC11
  try clear c2; try clear p2; try clear c3; try clear p6; try clear c24; try clear c24b0; try clear c30; try clear c34
  obtain ⟨kq, x285000_10, x285001_10, x285002_10, x285003_10, HA, HJ10, BK283, BK284, BK285, HB⟩ := hcut
  cases kq with
  | zero => exact absurd HA.out (by simp [quat_Blend.j0])
  | succ kj10 =>
   have H := HA.out
   clear HA
   simp only [quat_Blend.j0] at H
   replace H := Option.bind_eq_some_iff.mp H
   obtain ⟨t298, A380, H⟩ := H
   replace H : ((fix_Mul.f kj10 x285000_10 ji5).bind fun t299 => ((fix_Add.f t298 t299).bind fun t300 => ((fix_Mul.f kj10 a0_1 (wrap64 (65536 - ji5))).bind fun t301 => ((fix_Mul.f kj10 x285001_10 ji5).bind fun t302 => ((fix_Add.f t301 t302).bind fun t303 => ((fix_Mul.f kj10 a0_2 (wrap64 (65536 - ji5))).bind fun t304 => ((fix_Mul.f kj10 x285002_10 ji5).bind fun t305 => ((fix_Add.f t304 t305).bind fun t306 => ((fix_Mul.f kj10 a0_3 (wrap64 (65536 - ji5))).bind fun t307 => ((fix_Mul.f kj10 x285003_10 ji5).bind fun t308 => ((fix_Add.f t307 t308).bind fun t309 => ((quat_Unit.f kj10 t300 t303 t306 t309).bind fun bt310 => (some (bt310.1, bt310.2.1, bt310.2.2.1, bt310.2.2.2)))))))))))))) = some (r1, r2, r3, r4) := H
   have A38 := Aside0.mk A380
   clear A380
   replace H := Option.bind_eq_some_iff.mp H
   obtain ⟨t299, A390, H⟩ := H
   replace H : ((fix_Add.f t298 t299).bind fun t300 => ((fix_Mul.f kj10 a0_1 (wrap64 (65536 - ji5))).bind fun t301 => ((fix_Mul.f kj10 x285001_10 ji5).bind fun t302 => ((fix_Add.f t301 t302).bind fun t303 => ((fix_Mul.f kj10 a0_2 (wrap64 (65536 - ji5))).bind fun t304 => ((fix_Mul.f kj10 x285002_10 ji5).bind fun t305 => ((fix_Add.f t304 t305).bind fun t306 => ((fix_Mul.f kj10 a0_3 (wrap64 (65536 - ji5))).bind fun t307 => ((fix_Mul.f kj10 x285003_10 ji5).bind fun t308 => ((fix_Add.f t307 t308).bind fun t309 => ((quat_Unit.f kj10 t300 t303 t306 t309).bind fun bt310 => (some (bt310.1, bt310.2.1, bt310.2.2.1, bt310.2.2.2))))))))))))) = some (r1, r2, r3, r4) := H
   have A39 := Aside0.mk A390
   clear A390
   replace H := Option.bind_eq_some_iff.mp H
   obtain ⟨t300, A400, H⟩ := H
   replace H : ((fix_Mul.f kj10 a0_1 (wrap64 (65536 - ji5))).bind fun t301 => ((fix_Mul.f kj10 x285001_10 ji5).bind fun t302 => ((fix_Add.f t301 t302).bind fun t303 => ((fix_Mul.f kj10 a0_2 (wrap64 (65536 - ji5))).bind fun t304 => ((fix_Mul.f kj10 x285002_10 ji5).bind fun t305 => ((fix_Add.f t304 t305).bind fun t306 => ((fix_Mul.f kj10 a0_3 (wrap64 (65536 - ji5))).bind fun t307 => ((fix_Mul.f kj10 x285003_10 ji5).bind fun t308 => ((fix_Add.f t307 t308).bind fun t309 => ((quat_Unit.f kj10 t300 t303 t306 t309).bind fun bt310 => (some (bt310.1, bt310.2.1, bt310.2.2.1, bt310.2.2.2)))))))))))) = some (r1, r2, r3, r4) := H
   have A40 := Aside0.mk A400
   clear A400
   replace H := Option.bind_eq_some_iff.mp H
   obtain ⟨t301, A410, H⟩ := H
   replace H : ((fix_Mul.f kj10 x285001_10 ji5).bind fun t302 => ((fix_Add.f t301 t302).bind fun t303 => ((fix_Mul.f kj10 a0_2 (wrap64 (65536 - ji5))).bind fun t304 => ((fix_Mul.f kj10 x285002_10 ji5).bind fun t305 => ((fix_Add.f t304 t305).bind fun t306 => ((fix_Mul.f kj10 a0_3 (wrap64 (65536 - ji5))).bind fun t307 => ((fix_Mul.f kj10 x285003_10 ji5).bind fun t308 => ((fix_Add.f t307 t308).bind fun t309 => ((quat_Unit.f kj10 t300 t303 t306 t309).bind fun bt310 => (some (bt310.1, bt310.2.1, bt310.2.2.1, bt310.2.2.2))))))))))) = some (r1, r2, r3, r4) := H
   have A41 := Aside0.mk A410
   clear A410
   replace H := Option.bind_eq_some_iff.mp H
   obtain ⟨t302, A420, H⟩ := H
   replace H : ((fix_Add.f t301 t302).bind fun t303 => ((fix_Mul.f kj10 a0_2 (wrap64 (65536 - ji5))).bind fun t304 => ((fix_Mul.f kj10 x285002_10 ji5).bind fun t305 => ((fix_Add.f t304 t305).bind fun t306 => ((fix_Mul.f kj10 a0_3 (wrap64 (65536 - ji5))).bind fun t307 => ((fix_Mul.f kj10 x285003_10 ji5).bind fun t308 => ((fix_Add.f t307 t308).bind fun t309 => ((quat_Unit.f kj10 t300 t303 t306 t309).bind fun bt310 => (some (bt310.1, bt310.2.1, bt310.2.2.1, bt310.2.2.2)))))))))) = some (r1, r2, r3, r4) := H
   have A42 := Aside0.mk A420
   clear A420
   replace H := Option.bind_eq_some_iff.mp H
   obtain ⟨t303, A430, H⟩ := H
   replace H : ((fix_Mul.f kj10 a0_2 (wrap64 (65536 - ji5))).bind fun t304 => ((fix_Mul.f kj10 x285002_10 ji5).bind fun t305 => ((fix_Add.f t304 t305).bind fun t306 => ((fix_Mul.f kj10 a0_3 (wrap64 (65536 - ji5))).bind fun t307 => ((fix_Mul.f kj10 x285003_10 ji5).bind fun t308 => ((fix_Add.f t307 t308).bind fun t309 => ((quat_Unit.f kj10 t300 t303 t306 t309).bind fun bt310 => (some (bt310.1, bt310.2.1, bt310.2.2.1, bt310.2.2.2))))))))) = some (r1, r2, r3, r4) := H
   have A43 := Aside0.mk A430
   clear A430
   replace H := Option.bind_eq_some_iff.mp H
   obtain ⟨t304, A440, H⟩ := H
   replace H : ((fix_Mul.f kj10 x285002_10 ji5).bind fun t305 => ((fix_Add.f t304 t305).bind fun t306 => ((fix_Mul.f kj10 a0_3 (wrap64 (65536 - ji5))).bind fun t307 => ((fix_Mul.f kj10 x285003_10 ji5).bind fun t308 => ((fix_Add.f t307 t308).bind fun t309 => ((quat_Unit.f kj10 t300 t303 t306 t309).bind fun bt310 => (some (bt310.1, bt310.2.1, bt310.2.2.1, bt310.2.2.2)))))))) = some (r1, r2, r3, r4) := H
   have A44 := Aside0.mk A440
   clear A440
   replace H := Option.bind_eq_some_iff.mp H
   obtain ⟨t305, A450, H⟩ := H
   replace H : ((fix_Add.f t304 t305).bind fun t306 => ((fix_Mul.f kj10 a0_3 (wrap64 (65536 - ji5))).bind fun t307 => ((fix_Mul.f kj10 x285003_10 ji5).bind fun t308 => ((fix_Add.f t307 t308).bind fun t309 => ((quat_Unit.f kj10 t300 t303 t306 t309).bind fun bt310 => (some (bt310.1, bt310.2.1, bt310.2.2.1, bt310.2.2.2))))))) = some (r1, r2, r3, r4) := H
   have A45 := Aside0.mk A450
   clear A450
   replace H := Option.bind_eq_some_iff.mp H
   obtain ⟨t306, A460, H⟩ := H
   replace H : ((fix_Mul.f kj10 a0_3 (wrap64 (65536 - ji5))).bind fun t307 => ((fix_Mul.f kj10 x285003_10 ji5).bind fun t308 => ((fix_Add.f t307 t308).bind fun t309 => ((quat_Unit.f kj10 t300 t303 t306 t309).bind fun bt310 => (some (bt310.1, bt310.2.1, bt310.2.2.1, bt310.2.2.2)))))) = some (r1, r2, r3, r4) := H
   have A46 := Aside0.mk A460
   clear A460
   replace H := Option.bind_eq_some_iff.mp H
   obtain ⟨t307, A470, H⟩ := H
   replace H : ((fix_Mul.f kj10 x285003_10 ji5).bind fun t308 => ((fix_Add.f t307 t308).bind fun t309 => ((quat_Unit.f kj10 t300 t303 t306 t309).bind fun bt310 => (some (bt310.1, bt310.2.1, bt310.2.2.1, bt310.2.2.2))))) = some (r1, r2, r3, r4) := H
   have A47 := Aside0.mk A470
   clear A470
   replace H := Option.bind_eq_some_iff.mp H
   obtain ⟨t308, A480, H⟩ := H
   replace H : ((fix_Add.f t307 t308).bind fun t309 => ((quat_Unit.f kj10 t300 t303 t306 t309).bind fun bt310 => (some (bt310.1, bt310.2.1, bt310.2.2.1, bt310.2.2.2)))) = some (r1, r2, r3, r4) := H
   have A48 := Aside0.mk A480
   clear A480
   replace H := Option.bind_eq_some_iff.mp H
   obtain ⟨t309, A490, H⟩ := H
   replace H : ((quat_Unit.f kj10 t300 t303 t306 t309).bind fun bt310 => (some (bt310.1, bt310.2.1, bt310.2.2.1, bt310.2.2.2))) = some (r1, r2, r3, r4) := H
   have A49 := Aside0.mk A490
   clear A490
   replace H := Option.bind_eq_some_iff.mp H
   obtain ⟨⟨t310, t311, t312, t313⟩, A500, H⟩ := H
   replace H : (some (t310, t311, t312, t313)) = some (r1, r2, r3, r4) := H
   have A50 := Aside0.mk A500
   clear A500
   simp only [Option.some.injEq, Prod.mk.injEq] at H
   obtain ⟨rfl, rfl, rfl, rfl⟩ := H
   try go_wp2
   have n0_ := Aside0.mk (blk_drew BK283.out)
   have n1_ := Aside0.mk (blk_drew BK284.out)
   have n2_ := Aside0.mk (blk_drew BK285.out)
   have n3_ := Aside0.mk (below_drew1 HB.out)
   clear BK283
   clear BK284
   clear BK285
   clear HB
   have BK283 := n0_
   have BK284 := n1_
   have BK285 := n2_
   have HB := n3_
   clear n0_ n1_ n2_ n3_
   refine start_ (n := 47) (S := fun w' => w'.cell? ⟨gb283, 0, none⟩ = some (.int .i64 a0_0) ∧ w'.cell? ⟨gb283, 1, none⟩ = some (.int .i64 a0_1) ∧ w'.cell? ⟨gb283, 2, none⟩ = some (.int .i64 a0_2) ∧ w'.cell? ⟨gb283, 3, none⟩ = some (.int .i64 a0_3) ∧ w'.cell? ⟨gb284, 0, none⟩ = some (.int .i64 x285000_10) ∧ w'.cell? ⟨gb284, 1, none⟩ = some (.int .i64 x285001_10) ∧ w'.cell? ⟨gb284, 2, none⟩ = some (.int .i64 x285002_10) ∧ w'.cell? ⟨gb284, 3, none⟩ = some (.int .i64 x285003_10)) (ds := []) (ab 47 0) (by kernel_rfl) rfl rfl ⟨(blk_cell BK283.out 0).trans rfl, (blk_cell BK283.out 1).trans rfl, (blk_cell BK283.out 2).trans rfl, (blk_cell BK283.out 3).trans rfl, (blk_cell BK284.out 0).trans rfl, (blk_cell BK284.out 1).trans rfl, (blk_cell BK284.out 2).trans rfl, (blk_cell BK284.out 3).trans rfl⟩ (fun hHeld => ?_); refine with_tabW quat_Blend.tab6 quat_Blend.bits6 (fun HT_ HW_ => ?_)
   generalize wc.drew = w51 at BK283 BK284 BK285 HB hHeld ⊢
   refine pure_ (i := 0) (N := some 58) (v := ?_) (a' := ?_) (ab 47 1) rfl rfl (any_of HT_.out (by kernel_rfl)) (fun _ _ _ h => h) (Or.inl ⟨by rfl, ?_⟩) ?_ ?_
   rotate_left
   ·intro w'
    go_simp
    with_reducible rfl
   rotate_left
   ·simp only [Act.put, zq1, zq2, zq3, i64_w, i32_w]
    rfl
   refine pure_ (i := 1) (N := some 59) (v := ?_) (a' := ?_) (ab 47 3) rfl rfl (any_of HT_.out (by kernel_rfl)) (fun _ _ _ h => h) (Or.inl ⟨by rfl, ?_⟩) ?_ ?_
   rotate_left
   ·intro w'
    go_simp
    with_reducible rfl
   rotate_left
   ·simp only [Act.put, zq1, zq2, zq3, i64_w, i32_w]
    rfl
   refine pure_ (i := 3) (N := some 61) (v := ?_) (a' := ?_) (ab 47 11) rfl rfl (any_of HT_.out (by kernel_rfl)) (fun _ _ _ h => h) (Or.inl ⟨by rfl, ?_⟩) ?_ ?_
   rotate_left
   ·intro w'
    go_simp
    with_reducible rfl
   rotate_left
   ·simp only [Act.put, zq1, zq2, zq3, i64_w, i32_w]
    rfl
   refine pure_ (i := 5) (N := some 63) (v := ?_) (a' := ?_) (ab 47 43) rfl rfl (any_of HT_.out (by kernel_rfl)) (fun _ _ _ h => h) (Or.inl ⟨by rfl, ?_⟩) ?_ ?_
   rotate_left
   ·intro w'
    go_simp
    with_reducible rfl
   rotate_left
   ·simp only [Act.put, zq1, zq2, zq3, i64_w, i32_w]
    rfl
   refine pure_ (i := 6) (N := some 64) (v := ?_) (a' := ?_) (ab 47 107) rfl rfl (any_of HT_.out (by kernel_rfl)) (fun _ _ _ h => h) (Or.inl ⟨by rfl, ?_⟩) ?_ ?_
   rotate_left
   ·intro w'
    go_simp
    with_reducible rfl
   rotate_left
   ·simp only [Act.put, zq1, zq2, zq3, i64_w, i32_w]
    rfl
   refine pure_ (i := 8) (N := some 66) (v := ?_) (a' := ?_) (ab 47 363) rfl rfl (any_of HT_.out (by kernel_rfl)) (fun _ _ _ h => h) (Or.inl ⟨by rfl, ?_⟩) ?_ ?_
   rotate_left
   ·intro w'
    go_simp
    with_reducible rfl
   rotate_left
   ·simp only [Act.put, zq1, zq2, zq3, i64_w, i32_w]
    rfl
   refine pure_ (i := 11) (N := some 69) (v := ?_) (a' := ?_) (ab 47 2411) rfl rfl (any_of HT_.out (by kernel_rfl)) (fun _ _ _ h => h) (Or.inl ⟨by rfl, ?_⟩) ?_ ?_
   rotate_left
   ·intro w'
    go_simp
    with_reducible rfl
   rotate_left
   ·simp only [Act.put, zq1, zq2, zq3, i64_w, i32_w]
    rfl
   refine pure_ (i := 12) (N := some 70) (v := ?_) (a' := ?_) (ab 47 6507) rfl rfl (any_of HT_.out (by kernel_rfl)) (fun _ _ _ h => h) (Or.inl ⟨by rfl, ?_⟩) ?_ ?_
   rotate_left
   ·intro w'
    go_simp
    with_reducible rfl
   rotate_left
   ·simp only [Act.put, zq1, zq2, zq3, i64_w, i32_w]
    rfl
   refine pure_ (i := 14) (N := some 72) (v := ?_) (a' := ?_) (ab 47 22891) rfl rfl (any_of HT_.out (by kernel_rfl)) (fun _ _ _ h => h) (Or.inl ⟨by rfl, ?_⟩) ?_ ?_
   rotate_left
   ·intro w'
    go_simp
    with_reducible rfl
   rotate_left
   ·simp only [Act.put, zq1, zq2, zq3, i64_w, i32_w]
    rfl
   refine pure_ (i := 16) (N := some 74) (v := ?_) (a' := ?_) (ab 47 88427) rfl rfl (any_of HT_.out (by kernel_rfl)) (fun _ _ _ h => h) (Or.inl ⟨by rfl, ?_⟩) ?_ ?_
   rotate_left
   ·intro w'
    go_simp
    with_reducible rfl
   rotate_left
   ·simp only [Act.put, zq1, zq2, zq3, i64_w, i32_w]
    rfl
   refine pure_ (i := 17) (N := some 75) (v := ?_) (a' := ?_) (ab 47 219499) rfl rfl (any_of HT_.out (by kernel_rfl)) (fun _ _ _ h => h) (Or.inl ⟨by rfl, ?_⟩) ?_ ?_
   rotate_left
   ·intro w'
    go_simp
    with_reducible rfl
   rotate_left
   ·simp only [Act.put, zq1, zq2, zq3, i64_w, i32_w]
    rfl
   refine pure_ (i := 19) (N := some 77) (v := ?_) (a' := ?_) (ab 47 743787) rfl rfl (any_of HT_.out (by kernel_rfl)) (fun _ _ _ h => h) (Or.inl ⟨by rfl, ?_⟩) ?_ ?_
   rotate_left
   ·intro w'
    go_simp
    with_reducible rfl
   rotate_left
   ·simp only [Act.put, zq1, zq2, zq3, i64_w, i32_w]
    rfl
   refine pure_ (i := 22) (N := some 80) (v := ?_) (a' := ?_) (ab 47 4938091) rfl rfl (any_of HT_.out (by kernel_rfl)) (fun _ _ _ h => h) (Or.inl ⟨by rfl, ?_⟩) ?_ ?_
   rotate_left
   ·intro w'
    go_simp
    with_reducible rfl
   rotate_left
   ·simp only [Act.put, zq1, zq2, zq3, i64_w, i32_w]
    rfl
   refine pure_ (i := 23) (N := some 81) (v := ?_) (a' := ?_) (ab 47 13326699) rfl rfl (any_of HT_.out (by kernel_rfl)) (fun _ _ _ h => h) (Or.inl ⟨by rfl, ?_⟩) ?_ ?_
   rotate_left
   ·intro w'
    go_simp
    with_reducible rfl
   rotate_left
   ·simp only [Act.put, zq1, zq2, zq3, i64_w, i32_w]
    rfl
   refine pure_ (i := 25) (N := some 83) (v := ?_) (a' := ?_) (ab 47 46881131) rfl rfl (any_of HT_.out (by kernel_rfl)) (fun _ _ _ h => h) (Or.inl ⟨by rfl, ?_⟩) ?_ ?_
   rotate_left
   ·intro w'
    go_simp
    with_reducible rfl
   rotate_left
   ·simp only [Act.put, zq1, zq2, zq3, i64_w, i32_w]
    rfl
   refine pure_ (i := 27) (N := some 85) (v := ?_) (a' := ?_) (ab 47 181098859) rfl rfl (any_of HT_.out (by kernel_rfl)) (fun _ _ _ h => h) (Or.inl ⟨by rfl, ?_⟩) ?_ ?_
   rotate_left
   ·intro w'
    go_simp
    with_reducible rfl
   rotate_left
   ·simp only [Act.put, zq1, zq2, zq3, i64_w, i32_w]
    rfl
   refine pure_ (i := 28) (N := some 86) (v := ?_) (a' := ?_) (ab 47 449534315) rfl rfl (any_of HT_.out (by kernel_rfl)) (fun _ _ _ h => h) (Or.inl ⟨by rfl, ?_⟩) ?_ ?_
   rotate_left
   ·intro w'
    go_simp
    with_reducible rfl
   rotate_left
   ·simp only [Act.put, zq1, zq2, zq3, i64_w, i32_w]
    rfl
   refine pure_ (i := 30) (N := some 88) (v := ?_) (a' := ?_) (ab 47 1523276139) rfl rfl (any_of HT_.out (by kernel_rfl)) (fun _ _ _ h => h) (Or.inl ⟨by rfl, ?_⟩) ?_ ?_
   rotate_left
   ·intro w'
    go_simp
    with_reducible rfl
   rotate_left
   ·simp only [Act.put, zq1, zq2, zq3, i64_w, i32_w]
    rfl
   refine pure_ (i := 33) (N := some 91) (v := ?_) (a' := ?_) (ab 47 10113210731) rfl rfl (any_of HT_.out (by kernel_rfl)) (fun _ _ _ h => h) (Or.inl ⟨by rfl, ?_⟩) ?_ ?_
   rotate_left
   ·intro w'
    go_simp
    with_reducible rfl
   rotate_left
   ·simp only [Act.put, zq1, zq2, zq3, i64_w, i32_w]
    rfl
   refine pure_ (i := 34) (N := some 92) (v := ?_) (a' := ?_) (ab 47 27293079915) rfl rfl (any_of HT_.out (by kernel_rfl)) (fun _ _ _ h => h) (Or.inl ⟨by rfl, ?_⟩) ?_ ?_
   rotate_left
   ·intro w'
    go_simp
    with_reducible rfl
   rotate_left
   ·simp only [Act.put, zq1, zq2, zq3, i64_w, i32_w]
    rfl
   refine pure_ (i := 36) (N := some 94) (v := ?_) (a' := ?_) (ab 47 96012556651) rfl rfl (any_of HT_.out (by kernel_rfl)) (fun _ _ _ h => h) (Or.inl ⟨by rfl, ?_⟩) ?_ ?_
   rotate_left
   ·intro w'
    go_simp
    with_reducible rfl
   rotate_left
   ·simp only [Act.put, zq1, zq2, zq3, i64_w, i32_w]
    rfl
   refine pure_ (i := 38) (N := some 96) (v := ?_) (a' := ?_) (ab 47 370890463595) rfl rfl (any_of HT_.out (by kernel_rfl)) (fun _ _ _ h => h) (Or.inl ⟨by rfl, ?_⟩) ?_ ?_
   rotate_left
   ·intro w'
    go_simp
    with_reducible rfl
   rotate_left
   ·simp only [Act.put, zq1, zq2, zq3, i64_w, i32_w]
    rfl
   refine pure_ (i := 39) (N := some 97) (v := ?_) (a' := ?_) (ab 47 920646277483) rfl rfl (any_of HT_.out (by kernel_rfl)) (fun _ _ _ h => h) (Or.inl ⟨by rfl, ?_⟩) ?_ ?_
   rotate_left
   ·intro w'
    go_simp
    with_reducible rfl
   rotate_left
   ·simp only [Act.put, zq1, zq2, zq3, i64_w, i32_w]
    rfl
   refine pure_ (i := 41) (N := some 99) (v := ?_) (a' := ?_) (ab 47 3119669533035) rfl rfl (any_of HT_.out (by kernel_rfl)) (fun _ _ _ h => h) (Or.inl ⟨by rfl, ?_⟩) ?_ ?_
   rotate_left
   ·intro w'
    go_simp
    with_reducible rfl
   rotate_left
   ·simp only [Act.put, zq1, zq2, zq3, i64_w, i32_w]
    rfl
   refine take_ (i := 2) (N := some 60) (v := ?_) (a' := ?_) (ab 47 3119669533039) rfl rfl (take_ofW HT_.out HW_.out (by kernel_rfl)) (fun _ _ _ h => h) (Or.inl ⟨by rfl, ?_⟩) hHeld ?_ ?_
   rotate_left
   ·rintro w' ⟨s0, s1, s2, s3, s4, s5, s6, s7⟩
    go_simp
    with_reducible rfl
   rotate_left
   ·simp only [Act.put, zq1, zq2, zq3, i64_w, i32_w]
    rfl
   refine take_ (i := 7) (N := some 65) (v := ?_) (a' := ?_) (ab 47 3119669533167) rfl rfl (take_ofW HT_.out HW_.out (by kernel_rfl)) (fun _ _ _ h => h) (Or.inl ⟨by rfl, ?_⟩) hHeld ?_ ?_
   rotate_left
   ·rintro w' ⟨s0, s1, s2, s3, s4, s5, s6, s7⟩
    go_simp
    with_reducible rfl
   rotate_left
   ·simp only [Act.put, zq1, zq2, zq3, i64_w, i32_w]
    rfl
   refine take_ (i := 13) (N := some 71) (v := ?_) (a' := ?_) (ab 47 3119669541359) rfl rfl (take_ofW HT_.out HW_.out (by kernel_rfl)) (fun _ _ _ h => h) (Or.inl ⟨by rfl, ?_⟩) hHeld ?_ ?_
   rotate_left
   ·rintro w' ⟨s0, s1, s2, s3, s4, s5, s6, s7⟩
    go_simp
    with_reducible rfl
   rotate_left
   ·simp only [Act.put, zq1, zq2, zq3, i64_w, i32_w]
    rfl
   refine take_ (i := 18) (N := some 76) (v := ?_) (a' := ?_) (ab 47 3119669803503) rfl rfl (take_ofW HT_.out HW_.out (by kernel_rfl)) (fun _ _ _ h => h) (Or.inl ⟨by rfl, ?_⟩) hHeld ?_ ?_
   rotate_left
   ·rintro w' ⟨s0, s1, s2, s3, s4, s5, s6, s7⟩
    go_simp
    with_reducible rfl
   rotate_left
   ·simp only [Act.put, zq1, zq2, zq3, i64_w, i32_w]
    rfl
   refine take_ (i := 24) (N := some 82) (v := ?_) (a' := ?_) (ab 47 3119686580719) rfl rfl (take_ofW HT_.out HW_.out (by kernel_rfl)) (fun _ _ _ h => h) (Or.inl ⟨by rfl, ?_⟩) hHeld ?_ ?_
   rotate_left
   ·rintro w' ⟨s0, s1, s2, s3, s4, s5, s6, s7⟩
    go_simp
    with_reducible rfl
   rotate_left
   ·simp only [Act.put, zq1, zq2, zq3, i64_w, i32_w]
    rfl
   refine take_ (i := 29) (N := some 87) (v := ?_) (a' := ?_) (ab 47 3120223451631) rfl rfl (take_ofW HT_.out HW_.out (by kernel_rfl)) (fun _ _ _ h => h) (Or.inl ⟨by rfl, ?_⟩) hHeld ?_ ?_
   rotate_left
   ·rintro w' ⟨s0, s1, s2, s3, s4, s5, s6, s7⟩
    go_simp
    with_reducible rfl
   rotate_left
   ·simp only [Act.put, zq1, zq2, zq3, i64_w, i32_w]
    rfl
   refine take_ (i := 35) (N := some 93) (v := ?_) (a' := ?_) (ab 47 3154583189999) rfl rfl (take_ofW HT_.out HW_.out (by kernel_rfl)) (fun _ _ _ h => h) (Or.inl ⟨by rfl, ?_⟩) hHeld ?_ ?_
   rotate_left
   ·rintro w' ⟨s0, s1, s2, s3, s4, s5, s6, s7⟩
    go_simp
    with_reducible rfl
   rotate_left
   ·simp only [Act.put, zq1, zq2, zq3, i64_w, i32_w]
    rfl
   refine take_ (i := 40) (N := some 98) (v := ?_) (a' := ?_) (ab 47 4254094817775) rfl rfl (take_ofW HT_.out HW_.out (by kernel_rfl)) (fun _ _ _ h => h) (Or.inl ⟨by rfl, ?_⟩) hHeld ?_ ?_
   rotate_left
   ·rintro w' ⟨s0, s1, s2, s3, s4, s5, s6, s7⟩
    go_simp
    with_reducible rfl
   rotate_left
   ·simp only [Act.put, zq1, zq2, zq3, i64_w, i32_w]
    rfl
   refine one_ (i := 4) (N := some 62) (ab 47 4254094817791) rfl rfl (one_of HT_.out (by kernel_rfl)) (by decide) (fun K hK => ?_)
   refine goesR_ Try.func24 (by kernel_rfl) rfl #[.int .i64 a0_0, .int .i64 (wrap64 (65536 - ji5))] (by rfl) rfl rfl (by (try simp only [List.map_toArray, List.map_cons, List.map_nil]); first | done | (simp only [hji5]; rfl) | rfl | (simp only [List.length_drop, List.length_take]; rfl) | (rw [show wrap64 (65536 - ji5) = 65536 - ji5 from by unfold wrap64; omega]; rfl)) ?_
   with_reducible refine (fix_Mul.calls kj10 a0_0 (wrap64 (65536 - ji5)) t298 _ A38.out).mono ?_
   rintro e w52 ⟨rfl, hb⟩
   refine ⟨_, rfl, ?_⟩
   have n0_ := Aside0.mk (bb hb BK283.out)
   have n1_ := Aside0.mk (bb hb BK284.out)
   have n2_ := Aside0.mk (bb hb BK285.out)
   have n3_ := Aside0.mk (below_step (by repeat (first | (with_reducible first | exact HB.out | apply below_alloc | apply pw_below_drewN | apply below_drew1 | refine below_set ?_ GE283.out | refine below_set ?_ GE284.out | refine below_set ?_ GE285.out) | exact HB.out)) hb)
   clear BK283
   clear BK284
   clear BK285
   clear HB
   have BK283 := n0_
   have BK284 := n1_
   have BK285 := n2_
   have HB := n3_
   clear n0_ n1_ n2_ n3_
   (try clear hb)
   (try clear hb2)
   (try clear hk)
   (try clear hi)
   refine hK.out _ _ ⟨(blk_cell BK283.out 0).trans rfl, (blk_cell BK283.out 1).trans rfl, (blk_cell BK283.out 2).trans rfl, (blk_cell BK283.out 3).trans rfl, (blk_cell BK284.out 0).trans rfl, (blk_cell BK284.out 1).trans rfl, (blk_cell BK284.out 2).trans rfl, (blk_cell BK284.out 3).trans rfl⟩ (fun hHeld => ?_)
   clear hK K
   refine norm_ (a' := ?_) ?_ ?_
   rotate_left
   ·show Act.put _ (some 62) _ = _
    simp only [Act.put, zq1, zq2, zq3, i64_w, i32_w]
    rfl
   refine one_ (i := 9) (N := some 67) (ab 47 4254094818303) rfl rfl (one_of HT_.out (by kernel_rfl)) (by decide) (fun K hK => ?_)
   refine goesR_ Try.func24 (by kernel_rfl) rfl #[.int .i64 x285000_10, .int .i64 ji5] (by rfl) rfl rfl (by (try simp only [List.map_toArray, List.map_cons, List.map_nil]); first | done | (simp only [hji5]; rfl) | rfl | (simp only [List.length_drop, List.length_take]; rfl)) ?_
   with_reducible refine (fix_Mul.calls kj10 x285000_10 ji5 t299 _ A39.out).mono ?_
   rintro e w53 ⟨rfl, hb⟩
   refine ⟨_, rfl, ?_⟩
   have n0_ := Aside0.mk (bb hb BK283.out)
   have n1_ := Aside0.mk (bb hb BK284.out)
   have n2_ := Aside0.mk (bb hb BK285.out)
   have n3_ := Aside0.mk (below_step (by repeat (first | (with_reducible first | exact HB.out | apply below_alloc | apply pw_below_drewN | apply below_drew1 | refine below_set ?_ GE283.out | refine below_set ?_ GE284.out | refine below_set ?_ GE285.out) | exact HB.out)) hb)
   clear BK283
   clear BK284
   clear BK285
   clear HB
   have BK283 := n0_
   have BK284 := n1_
   have BK285 := n2_
   have HB := n3_
   clear n0_ n1_ n2_ n3_
   (try clear hb)
   (try clear hb2)
   (try clear hk)
   (try clear hi)
   refine hK.out _ _ ⟨(blk_cell BK283.out 0).trans rfl, (blk_cell BK283.out 1).trans rfl, (blk_cell BK283.out 2).trans rfl, (blk_cell BK283.out 3).trans rfl, (blk_cell BK284.out 0).trans rfl, (blk_cell BK284.out 1).trans rfl, (blk_cell BK284.out 2).trans rfl, (blk_cell BK284.out 3).trans rfl⟩ (fun hHeld => ?_)
   clear hK K
   refine norm_ (a' := ?_) ?_ ?_
   rotate_left
   ·show Act.put _ (some 67) _ = _
    simp only [Act.put, zq1, zq2, zq3, i64_w, i32_w]
    rfl
   refine one_ (i := 10) (N := some 68) (ab 47 4254094819327) rfl rfl (one_of HT_.out (by kernel_rfl)) (by decide) (fun K hK => ?_)
   refine goes_ Try.func23 (by kernel_rfl) rfl #[.int .i64 t298, .int .i64 t299] (by rfl) rfl rfl (by (try simp only [zm1, zm2, zm3]); first | done | rfl) ?_
   with_reducible refine (fix_Add.calls t298 t299 t300 _ A40.out).mono ?_
   rintro e w54 ⟨rfl, hb⟩
   refine ⟨_, rfl, ?_⟩
   have n0_ := Aside0.mk (bb hb BK283.out)
   have n1_ := Aside0.mk (bb hb BK284.out)
   have n2_ := Aside0.mk (bb hb BK285.out)
   have n3_ := Aside0.mk (below_step (by repeat (first | (with_reducible first | exact HB.out | apply below_alloc | apply pw_below_drewN | apply below_drew1 | refine below_set ?_ GE283.out | refine below_set ?_ GE284.out | refine below_set ?_ GE285.out) | exact HB.out)) hb)
   clear BK283
   clear BK284
   clear BK285
   clear HB
   have BK283 := n0_
   have BK284 := n1_
   have BK285 := n2_
   have HB := n3_
   clear n0_ n1_ n2_ n3_
   (try clear hb)
   (try clear hb2)
   (try clear hk)
   (try clear hi)
   refine hK.out _ _ ⟨(blk_cell BK283.out 0).trans rfl, (blk_cell BK283.out 1).trans rfl, (blk_cell BK283.out 2).trans rfl, (blk_cell BK283.out 3).trans rfl, (blk_cell BK284.out 0).trans rfl, (blk_cell BK284.out 1).trans rfl, (blk_cell BK284.out 2).trans rfl, (blk_cell BK284.out 3).trans rfl⟩ (fun hHeld => ?_)
   clear hK K
   refine norm_ (a' := ?_) ?_ ?_
   rotate_left
   ·show Act.put _ (some 68) _ = _
    simp only [Act.put, zq1, zq2, zq3, i64_w, i32_w]
    rfl
   refine one_ (i := 15) (N := some 73) (ab 47 4254094852095) rfl rfl (one_of HT_.out (by kernel_rfl)) (by decide) (fun K hK => ?_)
   refine goesR_ Try.func24 (by kernel_rfl) rfl #[.int .i64 a0_1, .int .i64 (wrap64 (65536 - ji5))] (by rfl) rfl rfl (by (try simp only [List.map_toArray, List.map_cons, List.map_nil]); first | done | (simp only [hji5]; rfl) | rfl | (simp only [List.length_drop, List.length_take]; rfl) | (rw [show wrap64 (65536 - ji5) = 65536 - ji5 from by unfold wrap64; omega]; rfl)) ?_
   with_reducible refine (fix_Mul.calls kj10 a0_1 (wrap64 (65536 - ji5)) t301 _ A41.out).mono ?_
   rintro e w55 ⟨rfl, hb⟩
   refine ⟨_, rfl, ?_⟩
   have n0_ := Aside0.mk (bb hb BK283.out)
   have n1_ := Aside0.mk (bb hb BK284.out)
   have n2_ := Aside0.mk (bb hb BK285.out)
   have n3_ := Aside0.mk (below_step (by repeat (first | (with_reducible first | exact HB.out | apply below_alloc | apply pw_below_drewN | apply below_drew1 | refine below_set ?_ GE283.out | refine below_set ?_ GE284.out | refine below_set ?_ GE285.out) | exact HB.out)) hb)
   clear BK283
   clear BK284
   clear BK285
   clear HB
   have BK283 := n0_
   have BK284 := n1_
   have BK285 := n2_
   have HB := n3_
   clear n0_ n1_ n2_ n3_
   (try clear hb)
   (try clear hb2)
   (try clear hk)
   (try clear hi)
   refine hK.out _ _ ⟨(blk_cell BK283.out 0).trans rfl, (blk_cell BK283.out 1).trans rfl, (blk_cell BK283.out 2).trans rfl, (blk_cell BK283.out 3).trans rfl, (blk_cell BK284.out 0).trans rfl, (blk_cell BK284.out 1).trans rfl, (blk_cell BK284.out 2).trans rfl, (blk_cell BK284.out 3).trans rfl⟩ (fun hHeld => ?_)
   clear hK K
   refine norm_ (a' := ?_) ?_ ?_
   rotate_left
   ·show Act.put _ (some 73) _ = _
    simp only [Act.put, zq1, zq2, zq3, i64_w, i32_w]
    rfl
   refine one_ (i := 20) (N := some 78) (ab 47 4254095900671) rfl rfl (one_of HT_.out (by kernel_rfl)) (by decide) (fun K hK => ?_)
   refine goesR_ Try.func24 (by kernel_rfl) rfl #[.int .i64 x285001_10, .int .i64 ji5] (by rfl) rfl rfl (by (try simp only [List.map_toArray, List.map_cons, List.map_nil]); first | done | (simp only [hji5]; rfl) | rfl | (simp only [List.length_drop, List.length_take]; rfl)) ?_
   with_reducible refine (fix_Mul.calls kj10 x285001_10 ji5 t302 _ A42.out).mono ?_
   rintro e w56 ⟨rfl, hb⟩
   refine ⟨_, rfl, ?_⟩
   have n0_ := Aside0.mk (bb hb BK283.out)
   have n1_ := Aside0.mk (bb hb BK284.out)
   have n2_ := Aside0.mk (bb hb BK285.out)
   have n3_ := Aside0.mk (below_step (by repeat (first | (with_reducible first | exact HB.out | apply below_alloc | apply pw_below_drewN | apply below_drew1 | refine below_set ?_ GE283.out | refine below_set ?_ GE284.out | refine below_set ?_ GE285.out) | exact HB.out)) hb)
   clear BK283
   clear BK284
   clear BK285
   clear HB
   have BK283 := n0_
   have BK284 := n1_
   have BK285 := n2_
   have HB := n3_
   clear n0_ n1_ n2_ n3_
   (try clear hb)
   (try clear hb2)
   (try clear hk)
   (try clear hi)
   refine hK.out _ _ ⟨(blk_cell BK283.out 0).trans rfl, (blk_cell BK283.out 1).trans rfl, (blk_cell BK283.out 2).trans rfl, (blk_cell BK283.out 3).trans rfl, (blk_cell BK284.out 0).trans rfl, (blk_cell BK284.out 1).trans rfl, (blk_cell BK284.out 2).trans rfl, (blk_cell BK284.out 3).trans rfl⟩ (fun hHeld => ?_)
   clear hK K
   refine norm_ (a' := ?_) ?_ ?_
   rotate_left
   ·show Act.put _ (some 78) _ = _
    simp only [Act.put, zq1, zq2, zq3, i64_w, i32_w]
    rfl
   refine one_ (i := 21) (N := some 79) (ab 47 4254097997823) rfl rfl (one_of HT_.out (by kernel_rfl)) (by decide) (fun K hK => ?_)
   refine goes_ Try.func23 (by kernel_rfl) rfl #[.int .i64 t301, .int .i64 t302] (by rfl) rfl rfl (by (try simp only [zm1, zm2, zm3]); first | done | rfl) ?_
   with_reducible refine (fix_Add.calls t301 t302 t303 _ A43.out).mono ?_
   rintro e w57 ⟨rfl, hb⟩
   refine ⟨_, rfl, ?_⟩
   have n0_ := Aside0.mk (bb hb BK283.out)
   have n1_ := Aside0.mk (bb hb BK284.out)
   have n2_ := Aside0.mk (bb hb BK285.out)
   have n3_ := Aside0.mk (below_step (by repeat (first | (with_reducible first | exact HB.out | apply below_alloc | apply pw_below_drewN | apply below_drew1 | refine below_set ?_ GE283.out | refine below_set ?_ GE284.out | refine below_set ?_ GE285.out) | exact HB.out)) hb)
   clear BK283
   clear BK284
   clear BK285
   clear HB
   have BK283 := n0_
   have BK284 := n1_
   have BK285 := n2_
   have HB := n3_
   clear n0_ n1_ n2_ n3_
   (try clear hb)
   (try clear hb2)
   (try clear hk)
   (try clear hi)
   refine hK.out _ _ ⟨(blk_cell BK283.out 0).trans rfl, (blk_cell BK283.out 1).trans rfl, (blk_cell BK283.out 2).trans rfl, (blk_cell BK283.out 3).trans rfl, (blk_cell BK284.out 0).trans rfl, (blk_cell BK284.out 1).trans rfl, (blk_cell BK284.out 2).trans rfl, (blk_cell BK284.out 3).trans rfl⟩ (fun hHeld => ?_)
   clear hK K
   refine norm_ (a' := ?_) ?_ ?_
   rotate_left
   ·show Act.put _ (some 79) _ = _
    simp only [Act.put, zq1, zq2, zq3, i64_w, i32_w]
    rfl
   refine one_ (i := 26) (N := some 84) (ab 47 4254165106687) rfl rfl (one_of HT_.out (by kernel_rfl)) (by decide) (fun K hK => ?_)
   refine goesR_ Try.func24 (by kernel_rfl) rfl #[.int .i64 a0_2, .int .i64 (wrap64 (65536 - ji5))] (by rfl) rfl rfl (by (try simp only [List.map_toArray, List.map_cons, List.map_nil]); first | done | (simp only [hji5]; rfl) | rfl | (simp only [List.length_drop, List.length_take]; rfl) | (rw [show wrap64 (65536 - ji5) = 65536 - ji5 from by unfold wrap64; omega]; rfl)) ?_
   with_reducible refine (fix_Mul.calls kj10 a0_2 (wrap64 (65536 - ji5)) t304 _ A44.out).mono ?_
   rintro e w58 ⟨rfl, hb⟩
   refine ⟨_, rfl, ?_⟩
   have n0_ := Aside0.mk (bb hb BK283.out)
   have n1_ := Aside0.mk (bb hb BK284.out)
   have n2_ := Aside0.mk (bb hb BK285.out)
   have n3_ := Aside0.mk (below_step (by repeat (first | (with_reducible first | exact HB.out | apply below_alloc | apply pw_below_drewN | apply below_drew1 | refine below_set ?_ GE283.out | refine below_set ?_ GE284.out | refine below_set ?_ GE285.out) | exact HB.out)) hb)
   clear BK283
   clear BK284
   clear BK285
   clear HB
   have BK283 := n0_
   have BK284 := n1_
   have BK285 := n2_
   have HB := n3_
   clear n0_ n1_ n2_ n3_
   (try clear hb)
   (try clear hb2)
   (try clear hk)
   (try clear hi)
   refine hK.out _ _ ⟨(blk_cell BK283.out 0).trans rfl, (blk_cell BK283.out 1).trans rfl, (blk_cell BK283.out 2).trans rfl, (blk_cell BK283.out 3).trans rfl, (blk_cell BK284.out 0).trans rfl, (blk_cell BK284.out 1).trans rfl, (blk_cell BK284.out 2).trans rfl, (blk_cell BK284.out 3).trans rfl⟩ (fun hHeld => ?_)
   clear hK K
   refine norm_ (a' := ?_) ?_ ?_
   rotate_left
   ·show Act.put _ (some 84) _ = _
    simp only [Act.put, zq1, zq2, zq3, i64_w, i32_w]
    rfl
   refine one_ (i := 31) (N := some 89) (ab 47 4256312590335) rfl rfl (one_of HT_.out (by kernel_rfl)) (by decide) (fun K hK => ?_)
   refine goesR_ Try.func24 (by kernel_rfl) rfl #[.int .i64 x285002_10, .int .i64 ji5] (by rfl) rfl rfl (by (try simp only [List.map_toArray, List.map_cons, List.map_nil]); first | done | (simp only [hji5]; rfl) | rfl | (simp only [List.length_drop, List.length_take]; rfl)) ?_
   with_reducible refine (fix_Mul.calls kj10 x285002_10 ji5 t305 _ A45.out).mono ?_
   rintro e w59 ⟨rfl, hb⟩
   refine ⟨_, rfl, ?_⟩
   have n0_ := Aside0.mk (bb hb BK283.out)
   have n1_ := Aside0.mk (bb hb BK284.out)
   have n2_ := Aside0.mk (bb hb BK285.out)
   have n3_ := Aside0.mk (below_step (by repeat (first | (with_reducible first | exact HB.out | apply below_alloc | apply pw_below_drewN | apply below_drew1 | refine below_set ?_ GE283.out | refine below_set ?_ GE284.out | refine below_set ?_ GE285.out) | exact HB.out)) hb)
   clear BK283
   clear BK284
   clear BK285
   clear HB
   have BK283 := n0_
   have BK284 := n1_
   have BK285 := n2_
   have HB := n3_
   clear n0_ n1_ n2_ n3_
   (try clear hb)
   (try clear hb2)
   (try clear hk)
   (try clear hi)
   refine hK.out _ _ ⟨(blk_cell BK283.out 0).trans rfl, (blk_cell BK283.out 1).trans rfl, (blk_cell BK283.out 2).trans rfl, (blk_cell BK283.out 3).trans rfl, (blk_cell BK284.out 0).trans rfl, (blk_cell BK284.out 1).trans rfl, (blk_cell BK284.out 2).trans rfl, (blk_cell BK284.out 3).trans rfl⟩ (fun hHeld => ?_)
   clear hK K
   refine norm_ (a' := ?_) ?_ ?_
   rotate_left
   ·show Act.put _ (some 89) _ = _
    simp only [Act.put, zq1, zq2, zq3, i64_w, i32_w]
    rfl
   refine one_ (i := 32) (N := some 90) (ab 47 4260607557631) rfl rfl (one_of HT_.out (by kernel_rfl)) (by decide) (fun K hK => ?_)
   refine goes_ Try.func23 (by kernel_rfl) rfl #[.int .i64 t304, .int .i64 t305] (by rfl) rfl rfl (by (try simp only [zm1, zm2, zm3]); first | done | rfl) ?_
   with_reducible refine (fix_Add.calls t304 t305 t306 _ A46.out).mono ?_
   rintro e w60 ⟨rfl, hb⟩
   refine ⟨_, rfl, ?_⟩
   have n0_ := Aside0.mk (bb hb BK283.out)
   have n1_ := Aside0.mk (bb hb BK284.out)
   have n2_ := Aside0.mk (bb hb BK285.out)
   have n3_ := Aside0.mk (below_step (by repeat (first | (with_reducible first | exact HB.out | apply below_alloc | apply pw_below_drewN | apply below_drew1 | refine below_set ?_ GE283.out | refine below_set ?_ GE284.out | refine below_set ?_ GE285.out) | exact HB.out)) hb)
   clear BK283
   clear BK284
   clear BK285
   clear HB
   have BK283 := n0_
   have BK284 := n1_
   have BK285 := n2_
   have HB := n3_
   clear n0_ n1_ n2_ n3_
   (try clear hb)
   (try clear hb2)
   (try clear hk)
   (try clear hi)
   refine hK.out _ _ ⟨(blk_cell BK283.out 0).trans rfl, (blk_cell BK283.out 1).trans rfl, (blk_cell BK283.out 2).trans rfl, (blk_cell BK283.out 3).trans rfl, (blk_cell BK284.out 0).trans rfl, (blk_cell BK284.out 1).trans rfl, (blk_cell BK284.out 2).trans rfl, (blk_cell BK284.out 3).trans rfl⟩ (fun hHeld => ?_)
   clear hK K
   refine norm_ (a' := ?_) ?_ ?_
   rotate_left
   ·show Act.put _ (some 90) _ = _
    simp only [Act.put, zq1, zq2, zq3, i64_w, i32_w]
    rfl
   refine one_ (i := 37) (N := some 95) (ab 47 4398046511103) rfl rfl (one_of HT_.out (by kernel_rfl)) (by decide) (fun K hK => ?_)
   refine goesR_ Try.func24 (by kernel_rfl) rfl #[.int .i64 a0_3, .int .i64 (wrap64 (65536 - ji5))] (by rfl) rfl rfl (by (try simp only [List.map_toArray, List.map_cons, List.map_nil]); first | done | (simp only [hji5]; rfl) | rfl | (simp only [List.length_drop, List.length_take]; rfl) | (rw [show wrap64 (65536 - ji5) = 65536 - ji5 from by unfold wrap64; omega]; rfl)) ?_
   with_reducible refine (fix_Mul.calls kj10 a0_3 (wrap64 (65536 - ji5)) t307 _ A47.out).mono ?_
   rintro e w61 ⟨rfl, hb⟩
   refine ⟨_, rfl, ?_⟩
   have n0_ := Aside0.mk (bb hb BK283.out)
   have n1_ := Aside0.mk (bb hb BK284.out)
   have n2_ := Aside0.mk (bb hb BK285.out)
   have n3_ := Aside0.mk (below_step (by repeat (first | (with_reducible first | exact HB.out | apply below_alloc | apply pw_below_drewN | apply below_drew1 | refine below_set ?_ GE283.out | refine below_set ?_ GE284.out | refine below_set ?_ GE285.out) | exact HB.out)) hb)
   clear BK283
   clear BK284
   clear BK285
   clear HB
   have BK283 := n0_
   have BK284 := n1_
   have BK285 := n2_
   have HB := n3_
   clear n0_ n1_ n2_ n3_
   (try clear hb)
   (try clear hb2)
   (try clear hk)
   (try clear hi)
   refine hK.out _ _ ⟨(blk_cell BK283.out 0).trans rfl, (blk_cell BK283.out 1).trans rfl, (blk_cell BK283.out 2).trans rfl, (blk_cell BK283.out 3).trans rfl, (blk_cell BK284.out 0).trans rfl, (blk_cell BK284.out 1).trans rfl, (blk_cell BK284.out 2).trans rfl, (blk_cell BK284.out 3).trans rfl⟩ (fun hHeld => ?_)
   clear hK K
   refine norm_ (a' := ?_) ?_ ?_
   rotate_left
   ·show Act.put _ (some 95) _ = _
    simp only [Act.put, zq1, zq2, zq3, i64_w, i32_w]
    rfl
   refine one_ (i := 42) (N := some 100) (ab 47 8796093022207) rfl rfl (one_of HT_.out (by kernel_rfl)) (by decide) (fun K hK => ?_)
   refine goesR_ Try.func24 (by kernel_rfl) rfl #[.int .i64 x285003_10, .int .i64 ji5] (by rfl) rfl rfl (by (try simp only [List.map_toArray, List.map_cons, List.map_nil]); first | done | (simp only [hji5]; rfl) | rfl | (simp only [List.length_drop, List.length_take]; rfl)) ?_
   with_reducible refine (fix_Mul.calls kj10 x285003_10 ji5 t308 _ A48.out).mono ?_
   rintro e w62 ⟨rfl, hb⟩
   refine ⟨_, rfl, ?_⟩
   have n0_ := Aside0.mk (bb hb BK283.out)
   have n1_ := Aside0.mk (bb hb BK284.out)
   have n2_ := Aside0.mk (bb hb BK285.out)
   have n3_ := Aside0.mk (below_step (by repeat (first | (with_reducible first | exact HB.out | apply below_alloc | apply pw_below_drewN | apply below_drew1 | refine below_set ?_ GE283.out | refine below_set ?_ GE284.out | refine below_set ?_ GE285.out) | exact HB.out)) hb)
   clear BK283
   clear BK284
   clear BK285
   clear HB
   have BK283 := n0_
   have BK284 := n1_
   have BK285 := n2_
   have HB := n3_
   clear n0_ n1_ n2_ n3_
   (try clear hb)
   (try clear hb2)
   (try clear hk)
   (try clear hi)
   refine hK.out _ _ ⟨(blk_cell BK283.out 0).trans rfl, (blk_cell BK283.out 1).trans rfl, (blk_cell BK283.out 2).trans rfl, (blk_cell BK283.out 3).trans rfl, (blk_cell BK284.out 0).trans rfl, (blk_cell BK284.out 1).trans rfl, (blk_cell BK284.out 2).trans rfl, (blk_cell BK284.out 3).trans rfl⟩ (fun hHeld => ?_)
   clear hK K
   refine norm_ (a' := ?_) ?_ ?_
   rotate_left
   ·show Act.put _ (some 100) _ = _
    simp only [Act.put, zq1, zq2, zq3, i64_w, i32_w]
    rfl
   refine one_ (i := 43) (N := some 101) (ab 47 17592186044415) rfl rfl (one_of HT_.out (by kernel_rfl)) (by decide) (fun K hK => ?_)
   refine goes_ Try.func23 (by kernel_rfl) rfl #[.int .i64 t307, .int .i64 t308] (by rfl) rfl rfl (by (try simp only [zm1, zm2, zm3]); first | done | rfl) ?_
   with_reducible refine (fix_Add.calls t307 t308 t309 _ A49.out).mono ?_
   rintro e w63 ⟨rfl, hb⟩
   refine ⟨_, rfl, ?_⟩
   have n0_ := Aside0.mk (bb hb BK283.out)
   have n1_ := Aside0.mk (bb hb BK284.out)
   have n2_ := Aside0.mk (bb hb BK285.out)
   have n3_ := Aside0.mk (below_step (by repeat (first | (with_reducible first | exact HB.out | apply below_alloc | apply pw_below_drewN | apply below_drew1 | refine below_set ?_ GE283.out | refine below_set ?_ GE284.out | refine below_set ?_ GE285.out) | exact HB.out)) hb)
   clear BK283
   clear BK284
   clear BK285
   clear HB
   have BK283 := n0_
   have BK284 := n1_
   have BK285 := n2_
   have HB := n3_
   clear n0_ n1_ n2_ n3_
   (try clear hb)
   (try clear hb2)
   (try clear hk)
   (try clear hi)
   refine hK.out _ _ ⟨(blk_cell BK283.out 0).trans rfl, (blk_cell BK283.out 1).trans rfl, (blk_cell BK283.out 2).trans rfl, (blk_cell BK283.out 3).trans rfl, (blk_cell BK284.out 0).trans rfl, (blk_cell BK284.out 1).trans rfl, (blk_cell BK284.out 2).trans rfl, (blk_cell BK284.out 3).trans rfl⟩ (fun hHeld => ?_)
   clear hK K
   refine norm_ (a' := ?_) ?_ ?_
   rotate_left
   ·show Act.put _ (some 101) _ = _
    simp only [Act.put, zq1, zq2, zq3, i64_w, i32_w]
    rfl
   refine pure_ (i := 44) (N := some 102) (v := ?_) (a' := ?_) (ab 47 35184372088831) rfl rfl (any_of HT_.out (by kernel_rfl)) (fun _ _ _ h => h) (Or.inl ⟨by rfl, ?_⟩) ?_ ?_
   rotate_left
   ·intro w'
    go_simp
    with_reducible rfl
   rotate_left
   ·simp only [Act.put, zq1, zq2, zq3, i64_w, i32_w]
    rfl
   refine one_ (i := 45) (N := some 103) (ab 47 70368744177663) rfl rfl (one_of HT_.out (by kernel_rfl)) (by decide) (fun K hK => ?_)
   refine goes_ Try.func22 (by kernel_rfl) rfl #[.agg #[.int .i64 t300, .int .i64 t303, .int .i64 t306, .int .i64 t309]] (by rfl) rfl rfl (by (try simp only [zm1, zm2, zm3]); first | done | rfl) ?_
   with_reducible refine (quat_Unit.calls kj10 t300 t303 t306 t309 t310 t311 t312 t313 _ A50.out).mono ?_
   rintro e w64 ⟨rfl, hb⟩
   refine ⟨_, rfl, ?_⟩
   have n0_ := Aside0.mk (bb hb BK283.out)
   have n1_ := Aside0.mk (bb hb BK284.out)
   have n2_ := Aside0.mk (bb hb BK285.out)
   have n3_ := Aside0.mk (below_step (by repeat (first | (with_reducible first | exact HB.out | apply below_alloc | apply pw_below_drewN | apply below_drew1 | refine below_set ?_ GE283.out | refine below_set ?_ GE284.out | refine below_set ?_ GE285.out) | exact HB.out)) hb)
   clear BK283
   clear BK284
   clear BK285
   clear HB
   have BK283 := n0_
   have BK284 := n1_
   have BK285 := n2_
   have HB := n3_
   clear n0_ n1_ n2_ n3_
   (try clear hb)
   (try clear hb2)
   (try clear hk)
   (try clear hi)
   refine hK.out _ _ ⟨(blk_cell BK283.out 0).trans rfl, (blk_cell BK283.out 1).trans rfl, (blk_cell BK283.out 2).trans rfl, (blk_cell BK283.out 3).trans rfl, (blk_cell BK284.out 0).trans rfl, (blk_cell BK284.out 1).trans rfl, (blk_cell BK284.out 2).trans rfl, (blk_cell BK284.out 3).trans rfl⟩ (fun hHeld => ?_)
   clear hK K
   refine norm_ (a' := ?_) ?_ ?_
   rotate_left
   ·show Act.put _ (some 103) _ = _
    simp only [Act.put, zq1, zq2, zq3, i64_w, i32_w]
    rfl
   refine one_ (i := 46) (N := none) (ab 47 140737488355327) rfl rfl (one_of HT_.out (by kernel_rfl)) (by decide) (fun K hK => ?_)
   have hs65 : w64.cell? ⟨gb285, 0, none⟩ = some (.int .i64 0) := (blk_cell BK285.out 0).trans rfl
   have hfs65 := blk_frozen BK285.out 0
   have hns65_0 := NB283_285.out
   have hns65_1 := NB284_285.out
   have hms65_0 := NB285_283.out
   have hms65_1 := NB285_284.out
   have hs66 : w64.cell? ⟨gb285, 1, none⟩ = some (.int .i64 0) := (blk_cell BK285.out 1).trans rfl
   have hfs66 := blk_frozen BK285.out 1
   have hns66_0 := NB283_285.out
   have hns66_1 := NB284_285.out
   have hms66_0 := NB285_283.out
   have hms66_1 := NB285_284.out
   have hs67 : w64.cell? ⟨gb285, 2, none⟩ = some (.int .i64 0) := (blk_cell BK285.out 2).trans rfl
   have hfs67 := blk_frozen BK285.out 2
   have hns67_0 := NB283_285.out
   have hns67_1 := NB284_285.out
   have hms67_0 := NB285_283.out
   have hms67_1 := NB285_284.out
   have hs68 : w64.cell? ⟨gb285, 3, none⟩ = some (.int .i64 0) := (blk_cell BK285.out 3).trans rfl
   have hfs68 := blk_frozen BK285.out 3
   have hns68_0 := NB283_285.out
   have hns68_1 := NB284_285.out
   have hms68_0 := NB285_283.out
   have hms68_1 := NB285_284.out
   refine skip_ (w1 := ?_) (by rfl) rfl ?_ ?_
   rotate_left
   ·go_simp
    rfl
   refine hK.out _ _ ⟨(cf NB283_285.out ((cf NB283_285.out ((cf NB283_285.out ((cf NB283_285.out (hHeld.1)))))))), (cf NB283_285.out ((cf NB283_285.out ((cf NB283_285.out ((cf NB283_285.out (hHeld.2.1)))))))), (cf NB283_285.out ((cf NB283_285.out ((cf NB283_285.out ((cf NB283_285.out (hHeld.2.2.1)))))))), (cf NB283_285.out ((cf NB283_285.out ((cf NB283_285.out ((cf NB283_285.out (hHeld.2.2.2.1)))))))), (cf NB284_285.out ((cf NB284_285.out ((cf NB284_285.out ((cf NB284_285.out (hHeld.2.2.2.2.1)))))))), (cf NB284_285.out ((cf NB284_285.out ((cf NB284_285.out ((cf NB284_285.out (hHeld.2.2.2.2.2.1)))))))), (cf NB284_285.out ((cf NB284_285.out ((cf NB284_285.out ((cf NB284_285.out (hHeld.2.2.2.2.2.2.1)))))))), (cf NB284_285.out ((cf NB284_285.out ((cf NB284_285.out ((cf NB284_285.out (hHeld.2.2.2.2.2.2.2))))))))⟩ (fun hHeld => ?_)
   clear hK K
   refine done_ (done_of HT_.out (by kernel_rfl)) ?_
   try go_wp2
   refine bodyPost_ret (results_cell_row rfl _ _ gb285 37 #[.int .i64 t310, .int .i64 t311, .int .i64 t312, .int .i64 t313] (0, 0) _ rfl (by (with_reducible repeat (first | refine blk_drewN ?_ _ | refine blk_drew ?_ | refine blk_alloc ?_ _)); refine blk_put (cs := #[.int .i64 t310, .int .i64 t311, .int .i64 t312, .int .i64 0]) ?_ 3 _ rfl; refine blk_put (cs := #[.int .i64 t310, .int .i64 t311, .int .i64 0, .int .i64 0]) ?_ 2 _ rfl; refine blk_put (cs := #[.int .i64 t310, .int .i64 0, .int .i64 0, .int .i64 0]) ?_ 1 _ rfl; refine blk_put (cs := #[.int .i64 0, .int .i64 0, .int .i64 0, .int .i64 0]) ?_ 0 _ rfl; exact BK285.out) Try.underlying37 rfl (by kernel_rfl)) rfl ?_
   exact ⟨by first | rfl | (simp [errW_none, errW_some] <;> rfl) | (simp only [← hji4, ← hji5]; first | rfl | (simp [errW_none, errW_some] <;> rfl)) | (simp [*, errW_none, errW_some] <;> rfl), by repeat (first | (with_reducible first | exact HB.out | apply below_alloc | apply pw_below_drewN | apply below_drew1 | refine below_set ?_ GE283.out | refine below_set ?_ GE284.out | refine below_set ?_ GE285.out) | exact HB.out)⟩

end Go.Proofs.Ytfallkiaojefnaa.PBonesBlend
