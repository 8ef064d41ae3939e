-- Printed by a program: the print with changes of this session (wip/printpatch.py).
import Derived.Test.YtfallkiaojefnaaPBonesBlendx0
import Derived.Test.YtfallkiaojefnaaPBonesBlendx2
import Derived.Test.YtfallkiaojefnaaPBonesBlendx5
import Derived.Test.YtfallkiaojefnaaPBonesBlendx8
import Derived.Test.YtfallkiaojefnaaPBonesBlendx13
import Derived.Test.YtfallkiaojefnaaPBonesBlendx15
import Derived.Test.YtfallkiaojefnaaPBonesBlendx16
namespace Go.Proofs.Ytfallkiaojefnaa.PBonesBlend
open Go.Proofs.Ytfallkiaojefnaa.Fnv Go.Proofs.Ytfallkiaojefnaa.Ary Go.Proofs.Ytfallkiaojefnaa.Ext
open Go.RowKit Go.Proofs.YtfallkiaojefnaaW.PrintWords Go.Proofs.YtfallkiaojefnaaW.PrintLast Go.Proofs.YtfallkiaojefnaaW.PrintMore
attribute [local go_sem] max2_int min2_int max_two min_two max_three min_three max_four min_four   -- for this text's walks alone
set_option linter.unusedVariables false
set_option linter.unusedSimpArgs false

attribute [local go_sem high] eqA37
/-! ### tourkeep5_BonesBlend: function 7 -/
mutual
def tourkeep5_BonesBlend.j0 : Nat → List (S35) → List (S37) → List (S37) → List (S37) → List (S37) → Bool → Option (Bool)
 | 0, _, _, _, _, _, _ => none
 | k + 1, x9, x10, x12, x14, x16, x91 => if x91 = true then (none) else (tourkeep5_BonesBlend.l0 k x10 x12 x14 x16 (x9.length : Int) 0)
def tourkeep5_BonesBlend.l0 : Nat → List (S37) → List (S37) → List (S37) → List (S37) → Int → Int → Option (Bool)
 | 0, _, _, _, _, _, _ => none
 | k + 1, x10, x12, x14, x16, x93, x94 => if x94 < x93 then (if 0 ≤ x94 then (if x94 < (x12.length : Int) then (if x94 < (x10.length : Int) then ((quat_Unit.f k ((rd_T37 x10 x94).f0) ((rd_T37 x10 x94).f1) ((rd_T37 x10 x94).f2) ((rd_T37 x10 x94).f3)).bind fun bt374 => (if (!(((rd_T37 x12 x94).f0) == bt374.1) || (!(((rd_T37 x12 x94).f1) == bt374.2.1) || (!(((rd_T37 x12 x94).f2) == bt374.2.2.1) || (!(((rd_T37 x12 x94).f3) == bt374.2.2.2))))) = true then (none) else (if x94 < (x16.length : Int) then ((some (([(rd_T37 x16 x94).f0, (rd_T37 x16 x94).f1, (rd_T37 x16 x94).f2, (rd_T37 x16 x94).f3] : List Int) : List Int)).bind fun y382 => (tourkeep5_BonesBlend.l1 k x10 x12 x14 x16 x94 0 x93 x94 y382 (y382.length : Int) 0)) else (none)))) else (none)) else (none)) else (none)) else (some true)
def tourkeep5_BonesBlend.l1 : Nat → List (S37) → List (S37) → List (S37) → List (S37) → Int → Int → Int → Int → List Int → Int → Int → Option (Bool)
 | 0, _, _, _, _, _, _, _, _, _, _, _ => none
 | k + 1, x10, x12, x14, x16, x18, x19, x93, x94, x127, x128, x129 => if x129 < x128 then (if 0 ≤ x129 then (if x129 < (x127.length : Int) then ((fix_Mul.f k (rd x127 x129) (rd x127 x129)).bind fun t386 => ((fix_Add.f x19 t386).bind fun t387 => (tourkeep5_BonesBlend.l1 k x10 x12 x14 x16 x18 t387 x93 x94 x127 x128 (wrap64 (x129 + 1))))) else (none)) else (none)) else (if x19 < 65520 then (tourkeep5_BonesBlend.j3 k x10 x12 x14 x16 x18 x93 x94 true) else (tourkeep5_BonesBlend.j3 k x10 x12 x14 x16 x18 x93 x94 (decide (x19 > 65552))))
def tourkeep5_BonesBlend.j3 : Nat → List (S37) → List (S37) → List (S37) → List (S37) → Int → Int → Int → Bool → Option (Bool)
 | 0, _, _, _, _, _, _, _, _ => none
 | k + 1, x10, x12, x14, x16, x18, x93, x94, x144 => if x144 = true then (none) else (if 0 ≤ x18 then (if x18 < (x14.length : Int) then (if x18 < (x12.length : Int) then ((some (([wrap64 (((rd_T37 x14 x18).f0) - ((rd_T37 x12 x18).f0)), wrap64 (((rd_T37 x14 x18).f1) - ((rd_T37 x12 x18).f1)), wrap64 (((rd_T37 x14 x18).f2) - ((rd_T37 x12 x18).f2)), wrap64 (((rd_T37 x14 x18).f3) - ((rd_T37 x12 x18).f3))] : List Int) : List Int)).bind fun y396 => (tourkeep5_BonesBlend.l2 k x10 x12 x14 x16 x93 x94 y396 (y396.length : Int) 0)) else (none)) else (none)) else (none))
def tourkeep5_BonesBlend.l2 : Nat → List (S37) → List (S37) → List (S37) → List (S37) → Int → Int → List Int → Int → Int → Option (Bool)
 | 0, _, _, _, _, _, _, _, _, _ => none
 | k + 1, x10, x12, x14, x16, x93, x94, x189, x190, x191 => if x191 < x190 then (if 0 ≤ x191 then (if x191 < (x189.length : Int) then (if (rd x189 x191) > 4 then (none) else (if (rd x189 x191) < (-4) then (none) else (if x191 > 3 then (none) else (tourkeep5_BonesBlend.l2 k x10 x12 x14 x16 x93 x94 x189 x190 (wrap64 (x191 + 1)))))) else (none)) else (none)) else (tourkeep5_BonesBlend.l0 k x10 x12 x14 x16 x93 (wrap64 (x94 + 1)))
end
def tourkeep5_BonesBlend.f (k : Nat) (l0 : List Int) (l1 : List Int) (l2 : List Int) (a3 : Int) : Option (Bool) := (tourkeep5_stands.f k).bind fun t348 => (if t348 = true then ((tourref5_Skeleton.f k l0).bind fun t349 => ((tourref5_Pose.f k l1 (t349.length : Int)).bind fun t352 => ((tourref5_Pose.f k l2 (t349.length : Int)).bind fun t355 => ((bones_Blend.f k t349 t352 t355 0).bind fun bt358 => ((tourref5_Below.f a3 65537).bind fun t362 => ((bones_Blend.f k t349 t352 t352 t362).bind fun bt363 => ((tourref5_Below.f a3 65537).bind fun t367 => ((bones_Blend.f k t349 t352 t355 t367).bind fun bt368 => (if bt358.2 = 0 then (if bt363.2 = 0 then (if bt368.2 = 0 then (if (bt358.1.length : Int) = (t349.length : Int) then (if (bt363.1.length : Int) = (t349.length : Int) then (tourkeep5_BonesBlend.j0 k t349 t352 bt358.1 bt363.1 bt368.1 ((bt368.1.length : Int) != (t349.length : Int))) else (tourkeep5_BonesBlend.j0 k t349 t352 bt358.1 bt363.1 bt368.1 true)) else (tourkeep5_BonesBlend.j0 k t349 t352 bt358.1 bt363.1 bt368.1 true)) else (tourkeep5_BonesBlend.j0 k t349 t352 bt358.1 bt363.1 bt368.1 true)) else (tourkeep5_BonesBlend.j0 k t349 t352 bt358.1 bt363.1 bt368.1 true)) else (tourkeep5_BonesBlend.j0 k t349 t352 bt358.1 bt363.1 bt368.1 true)))))))))) else (none))
theorem tourkeep5_BonesBlend.mono_l : ∀ k, (∀ y0 y1 y2 y3 y4 y5, LeO (tourkeep5_BonesBlend.j0 k y0 y1 y2 y3 y4 y5) (tourkeep5_BonesBlend.j0 (k + 1) y0 y1 y2 y3 y4 y5)) ∧ (∀ y0 y1 y2 y3 y4 y5, LeO (tourkeep5_BonesBlend.l0 k y0 y1 y2 y3 y4 y5) (tourkeep5_BonesBlend.l0 (k + 1) y0 y1 y2 y3 y4 y5)) ∧ (∀ y0 y1 y2 y3 y4 y5 y6 y7 y8 y9 y10, LeO (tourkeep5_BonesBlend.l1 k y0 y1 y2 y3 y4 y5 y6 y7 y8 y9 y10) (tourkeep5_BonesBlend.l1 (k + 1) y0 y1 y2 y3 y4 y5 y6 y7 y8 y9 y10)) ∧ (∀ y0 y1 y2 y3 y4 y5 y6 y7, LeO (tourkeep5_BonesBlend.j3 k y0 y1 y2 y3 y4 y5 y6 y7) (tourkeep5_BonesBlend.j3 (k + 1) y0 y1 y2 y3 y4 y5 y6 y7)) ∧ (∀ y0 y1 y2 y3 y4 y5 y6 y7 y8, LeO (tourkeep5_BonesBlend.l2 k y0 y1 y2 y3 y4 y5 y6 y7 y8) (tourkeep5_BonesBlend.l2 (k + 1) y0 y1 y2 y3 y4 y5 y6 y7 y8))
 | 0 => ⟨fun _ _ _ _ _ _ r h => by simp [tourkeep5_BonesBlend.j0] at h, fun _ _ _ _ _ _ r h => by simp [tourkeep5_BonesBlend.l0] at h, fun _ _ _ _ _ _ _ _ _ _ _ r h => by simp [tourkeep5_BonesBlend.l1] at h, fun _ _ _ _ _ _ _ _ r h => by simp [tourkeep5_BonesBlend.j3] at h, fun _ _ _ _ _ _ _ _ _ r h => by simp [tourkeep5_BonesBlend.l2] at h⟩
 | k + 1 => by
  obtain ⟨ih0, ih1, ih2, ih3, ih4⟩ := tourkeep5_BonesBlend.mono_l k
  refine ⟨?_, ?_, ?_, ?_, ?_⟩
  ·intro y0 y1 y2 y3 y4 y5
   unfold tourkeep5_BonesBlend.j0
   repeat' first
   | (with_reducible exact ih0 _ _ _ _ _ _)
   | (with_reducible exact ih1 _ _ _ _ _ _)
   | (with_reducible exact ih2 _ _ _ _ _ _ _ _ _ _ _)
   | (with_reducible exact ih3 _ _ _ _ _ _ _ _)
   | (with_reducible exact ih4 _ _ _ _ _ _ _ _ _)
   | (with_reducible exact bones_Blend.mono _ _ _ _ _)
   | (with_reducible exact fix_Mul.mono _ _ _)
   | (with_reducible exact quat_Unit.mono _ _ _ _ _)
   | (with_reducible exact tourkeep5_stands.mono _)
   | (with_reducible exact tourref5_Pose.mono _ _ _)
   | (with_reducible exact tourref5_Skeleton.mono _ _)
   | (with_reducible exact LeO.refl _)
   | (with_reducible exact LeO.none _)
   | (with_reducible refine LeO.ite ?_ ?_)
   | (with_reducible refine LeO.bind ?_ (fun _ => ?_))
   | exact ih0 _ _ _ _ _ _
   | exact ih1 _ _ _ _ _ _
   | exact ih2 _ _ _ _ _ _ _ _ _ _ _
   | exact ih3 _ _ _ _ _ _ _ _
   | exact ih4 _ _ _ _ _ _ _ _ _
   | exact bones_Blend.mono _ _ _ _ _
   | exact fix_Mul.mono _ _ _
   | exact quat_Unit.mono _ _ _ _ _
   | exact tourkeep5_stands.mono _
   | exact tourref5_Pose.mono _ _ _
   | exact tourref5_Skeleton.mono _ _
   | exact LeO.none _
   | refine LeO.ite ?_ ?_
   | refine LeO.bind ?_ (fun _ => ?_)
  ·intro y0 y1 y2 y3 y4 y5
   unfold tourkeep5_BonesBlend.l0
   repeat' first
   | (with_reducible exact ih0 _ _ _ _ _ _)
   | (with_reducible exact ih1 _ _ _ _ _ _)
   | (with_reducible exact ih2 _ _ _ _ _ _ _ _ _ _ _)
   | (with_reducible exact ih3 _ _ _ _ _ _ _ _)
   | (with_reducible exact ih4 _ _ _ _ _ _ _ _ _)
   | (with_reducible exact bones_Blend.mono _ _ _ _ _)
   | (with_reducible exact fix_Mul.mono _ _ _)
   | (with_reducible exact quat_Unit.mono _ _ _ _ _)
   | (with_reducible exact tourkeep5_stands.mono _)
   | (with_reducible exact tourref5_Pose.mono _ _ _)
   | (with_reducible exact tourref5_Skeleton.mono _ _)
   | (with_reducible exact LeO.refl _)
   | (with_reducible exact LeO.none _)
   | (with_reducible refine LeO.ite ?_ ?_)
   | (with_reducible refine LeO.bind ?_ (fun _ => ?_))
   | exact ih0 _ _ _ _ _ _
   | exact ih1 _ _ _ _ _ _
   | exact ih2 _ _ _ _ _ _ _ _ _ _ _
   | exact ih3 _ _ _ _ _ _ _ _
   | exact ih4 _ _ _ _ _ _ _ _ _
   | exact bones_Blend.mono _ _ _ _ _
   | exact fix_Mul.mono _ _ _
   | exact quat_Unit.mono _ _ _ _ _
   | exact tourkeep5_stands.mono _
   | exact tourref5_Pose.mono _ _ _
   | exact tourref5_Skeleton.mono _ _
   | exact LeO.none _
   | refine LeO.ite ?_ ?_
   | refine LeO.bind ?_ (fun _ => ?_)
  ·intro y0 y1 y2 y3 y4 y5 y6 y7 y8 y9 y10
   unfold tourkeep5_BonesBlend.l1
   repeat' first
   | (with_reducible exact ih0 _ _ _ _ _ _)
   | (with_reducible exact ih1 _ _ _ _ _ _)
   | (with_reducible exact ih2 _ _ _ _ _ _ _ _ _ _ _)
   | (with_reducible exact ih3 _ _ _ _ _ _ _ _)
   | (with_reducible exact ih4 _ _ _ _ _ _ _ _ _)
   | (with_reducible exact bones_Blend.mono _ _ _ _ _)
   | (with_reducible exact fix_Mul.mono _ _ _)
   | (with_reducible exact quat_Unit.mono _ _ _ _ _)
   | (with_reducible exact tourkeep5_stands.mono _)
   | (with_reducible exact tourref5_Pose.mono _ _ _)
   | (with_reducible exact tourref5_Skeleton.mono _ _)
   | (with_reducible exact LeO.refl _)
   | (with_reducible exact LeO.none _)
   | (with_reducible refine LeO.ite ?_ ?_)
   | (with_reducible refine LeO.bind ?_ (fun _ => ?_))
   | exact ih0 _ _ _ _ _ _
   | exact ih1 _ _ _ _ _ _
   | exact ih2 _ _ _ _ _ _ _ _ _ _ _
   | exact ih3 _ _ _ _ _ _ _ _
   | exact ih4 _ _ _ _ _ _ _ _ _
   | exact bones_Blend.mono _ _ _ _ _
   | exact fix_Mul.mono _ _ _
   | exact quat_Unit.mono _ _ _ _ _
   | exact tourkeep5_stands.mono _
   | exact tourref5_Pose.mono _ _ _
   | exact tourref5_Skeleton.mono _ _
   | exact LeO.none _
   | refine LeO.ite ?_ ?_
   | refine LeO.bind ?_ (fun _ => ?_)
  ·intro y0 y1 y2 y3 y4 y5 y6 y7
   unfold tourkeep5_BonesBlend.j3
   repeat' first
   | (with_reducible exact ih0 _ _ _ _ _ _)
   | (with_reducible exact ih1 _ _ _ _ _ _)
   | (with_reducible exact ih2 _ _ _ _ _ _ _ _ _ _ _)
   | (with_reducible exact ih3 _ _ _ _ _ _ _ _)
   | (with_reducible exact ih4 _ _ _ _ _ _ _ _ _)
   | (with_reducible exact bones_Blend.mono _ _ _ _ _)
   | (with_reducible exact fix_Mul.mono _ _ _)
   | (with_reducible exact quat_Unit.mono _ _ _ _ _)
   | (with_reducible exact tourkeep5_stands.mono _)
   | (with_reducible exact tourref5_Pose.mono _ _ _)
   | (with_reducible exact tourref5_Skeleton.mono _ _)
   | (with_reducible exact LeO.refl _)
   | (with_reducible exact LeO.none _)
   | (with_reducible refine LeO.ite ?_ ?_)
   | (with_reducible refine LeO.bind ?_ (fun _ => ?_))
   | exact ih0 _ _ _ _ _ _
   | exact ih1 _ _ _ _ _ _
   | exact ih2 _ _ _ _ _ _ _ _ _ _ _
   | exact ih3 _ _ _ _ _ _ _ _
   | exact ih4 _ _ _ _ _ _ _ _ _
   | exact bones_Blend.mono _ _ _ _ _
   | exact fix_Mul.mono _ _ _
   | exact quat_Unit.mono _ _ _ _ _
   | exact tourkeep5_stands.mono _
   | exact tourref5_Pose.mono _ _ _
   | exact tourref5_Skeleton.mono _ _
   | exact LeO.none _
   | refine LeO.ite ?_ ?_
   | refine LeO.bind ?_ (fun _ => ?_)
  ·intro y0 y1 y2 y3 y4 y5 y6 y7 y8
   unfold tourkeep5_BonesBlend.l2
   repeat' first
   | (with_reducible exact ih0 _ _ _ _ _ _)
   | (with_reducible exact ih1 _ _ _ _ _ _)
   | (with_reducible exact ih2 _ _ _ _ _ _ _ _ _ _ _)
   | (with_reducible exact ih3 _ _ _ _ _ _ _ _)
   | (with_reducible exact ih4 _ _ _ _ _ _ _ _ _)
   | (with_reducible exact bones_Blend.mono _ _ _ _ _)
   | (with_reducible exact fix_Mul.mono _ _ _)
   | (with_reducible exact quat_Unit.mono _ _ _ _ _)
   | (with_reducible exact tourkeep5_stands.mono _)
   | (with_reducible exact tourref5_Pose.mono _ _ _)
   | (with_reducible exact tourref5_Skeleton.mono _ _)
   | (with_reducible exact LeO.refl _)
   | (with_reducible exact LeO.none _)
   | (with_reducible refine LeO.ite ?_ ?_)
   | (with_reducible refine LeO.bind ?_ (fun _ => ?_))
   | exact ih0 _ _ _ _ _ _
   | exact ih1 _ _ _ _ _ _
   | exact ih2 _ _ _ _ _ _ _ _ _ _ _
   | exact ih3 _ _ _ _ _ _ _ _
   | exact ih4 _ _ _ _ _ _ _ _ _
   | exact bones_Blend.mono _ _ _ _ _
   | exact fix_Mul.mono _ _ _
   | exact quat_Unit.mono _ _ _ _ _
   | exact tourkeep5_stands.mono _
   | exact tourref5_Pose.mono _ _ _
   | exact tourref5_Skeleton.mono _ _
   | exact LeO.none _
   | refine LeO.ite ?_ ?_
   | refine LeO.bind ?_ (fun _ => ?_)
theorem tourkeep5_BonesBlend.mono : ∀ a0 a1 a2 a3 k, LeO (tourkeep5_BonesBlend.f k a0 a1 a2 a3) (tourkeep5_BonesBlend.f (k + 1) a0 a1 a2 a3) := by
 intro a0 a1 a2 a3 k
 obtain ⟨ih0, ih1, ih2, ih3, ih4⟩ := tourkeep5_BonesBlend.mono_l k
 unfold tourkeep5_BonesBlend.f
 repeat' first
   | (with_reducible exact ih0 _ _ _ _ _ _)
   | (with_reducible exact ih1 _ _ _ _ _ _)
   | (with_reducible exact ih2 _ _ _ _ _ _ _ _ _ _ _)
   | (with_reducible exact ih3 _ _ _ _ _ _ _ _)
   | (with_reducible exact ih4 _ _ _ _ _ _ _ _ _)
   | (with_reducible exact bones_Blend.mono _ _ _ _ _)
   | (with_reducible exact fix_Mul.mono _ _ _)
   | (with_reducible exact quat_Unit.mono _ _ _ _ _)
   | (with_reducible exact tourkeep5_stands.mono _)
   | (with_reducible exact tourref5_Pose.mono _ _ _)
   | (with_reducible exact tourref5_Skeleton.mono _ _)
   | (with_reducible exact LeO.refl _)
   | (with_reducible exact LeO.none _)
   | (with_reducible refine LeO.ite ?_ ?_)
   | (with_reducible refine LeO.bind ?_ (fun _ => ?_))
   | exact ih0 _ _ _ _ _ _
   | exact ih1 _ _ _ _ _ _
   | exact ih2 _ _ _ _ _ _ _ _ _ _ _
   | exact ih3 _ _ _ _ _ _ _ _
   | exact ih4 _ _ _ _ _ _ _ _ _
   | exact bones_Blend.mono _ _ _ _ _
   | exact fix_Mul.mono _ _ _
   | exact quat_Unit.mono _ _ _ _ _
   | exact tourkeep5_stands.mono _
   | exact tourref5_Pose.mono _ _ _
   | exact tourref5_Skeleton.mono _ _
   | exact LeO.none _
   | refine LeO.ite ?_ ?_
   | refine LeO.bind ?_ (fun _ => ?_)
def tourkeep5_BonesBlend.T13 : Bool × List (List Nat × List Nat) := (true, [([], []), ([], []), ([0, 1], [0, 1]), ([2], [2]), ([], []), ([], []), ([4, 5], [4, 5]), ([6], [6]), ([7], [7]), ([3, 8], [3, 8])])
def tourkeep5_BonesBlend.B13 : List Nat := [0, 0, 3, 7, 0, 0, 48, 112, 240, 511]
theorem tourkeep5_BonesBlend.tab13 : rtab .any (opsOf Try.f7 13) = tourkeep5_BonesBlend.T13 := by kernel_rfl
theorem tourkeep5_BonesBlend.bits13 : waitsOk tourkeep5_BonesBlend.T13.2 tourkeep5_BonesBlend.B13 = true := by kernel_rfl
def tourkeep5_BonesBlend.T16 : Bool × List (List Nat × List Nat) := (true, [([], []), ([], []), ([0, 1], [0, 1]), ([2], [2]), ([3], [3]), ([], []), ([], []), ([5, 6], [5, 6]), ([7], [7]), ([8], [8]), ([], []), ([], []), ([10, 11], [10, 11]), ([12], [12]), ([13], [13]), ([], []), ([], []), ([15, 16], [15, 16]), ([17], [17]), ([18], [18]), ([4, 9, 14, 19], [4, 9, 14, 19]), ([20], [20]), ([], [])])
def tourkeep5_BonesBlend.B16 : List Nat := [0, 0, 3, 7, 15, 0, 0, 96, 224, 480, 0, 0, 3072, 7168, 15360, 0, 0, 98304, 229376, 491520, 1048575, 2097151, 0]
theorem tourkeep5_BonesBlend.tab16 : rtab .any (opsOf Try.f7 16) = tourkeep5_BonesBlend.T16 := by kernel_rfl
theorem tourkeep5_BonesBlend.bits16 : waitsOk tourkeep5_BonesBlend.T16.2 tourkeep5_BonesBlend.B16 = true := by kernel_rfl
def tourkeep5_BonesBlend.T23 : Bool × List (List Nat × List Nat) := (true, [([], []), ([], []), ([0, 1], [0, 1]), ([2], [2]), ([3], [3]), ([], []), ([], []), ([5, 6], [5, 6]), ([7], [7]), ([8], [8]), ([4, 9], [4, 9]), ([], []), ([], []), ([11, 12], [11, 12]), ([13], [13]), ([14], [14]), ([], []), ([], []), ([16, 17], [16, 17]), ([18], [18]), ([19], [19]), ([15, 20], [15, 20]), ([], []), ([], []), ([22, 23], [22, 23]), ([24], [24]), ([25], [25]), ([], []), ([], []), ([27, 28], [27, 28]), ([29], [29]), ([30], [30]), ([26, 31], [26, 31]), ([], []), ([], []), ([33, 34], [33, 34]), ([35], [35]), ([36], [36]), ([], []), ([], []), ([38, 39], [38, 39]), ([40], [40]), ([41], [41]), ([37, 42], [37, 42]), ([10, 21, 32, 43], [10, 21, 32, 43]), ([44], [44]), ([], [])])
def tourkeep5_BonesBlend.B23 : List Nat := [0, 0, 3, 7, 15, 0, 0, 96, 224, 480, 1023, 0, 0, 6144, 14336, 30720, 0, 0, 196608, 458752, 983040, 2095104, 0, 0, 12582912, 29360128, 62914560, 0, 0, 402653184, 939524096, 2013265920, 4290772992, 0, 0, 25769803776, 60129542144, 128849018880, 0, 0, 824633720832, 1924145348608, 4123168604160, 8787503087616, 17592186044415, 35184372088831, 0]
theorem tourkeep5_BonesBlend.tab23 : rtab .any (opsOf Try.f7 23) = tourkeep5_BonesBlend.T23 := by kernel_rfl
theorem tourkeep5_BonesBlend.bits23 : waitsOk tourkeep5_BonesBlend.T23.2 tourkeep5_BonesBlend.B23 = true := by kernel_rfl
set_option maxHeartbeats 8000000 in
set_option maxRecDepth 100000 in
theorem tourkeep5_BonesBlend.calls (k : Nat) (A0 : Option Addr) (c0 : Nat) (l0 : List Int) (A1 : Option Addr) (c1 : Nat) (l1 : List Int) (A2 : Option Addr) (c2 : Nat) (l2 : List Int) (a3 : Int) (r : Bool) (w : World) (hr0 : Kd.C (Kd.int .i64) w A0 l0.length l0) (hc0 : l0.length ≤ c0) (hr1 : Kd.C (Kd.int .i64) w A1 l1.length l1) (hc1 : l1.length ≤ c1) (hr2 : Kd.C (Kd.int .i64) w A2 l2.length l2) (hc2 : l2.length ≤ c2) (h : tourkeep5_BonesBlend.f k l0 l1 l2 a3 = some r) :
  Calls Try.prog 7 #[.slice A0 l0.length c0, .slice A1 l1.length c1, .slice A2 l2.length c2, .int .i64 a3] w fun e w' => e = .returned (.bool r) ∧ Below w.heap.size w w' := by
 have hu37 := Try.underlying37
 have HR0 := Aside0.mk hr0
 have HC0 := Aside0.mk hc0
 clear hr0 hc0
 have HR1 := Aside0.mk hr1
 have HC1 := Aside0.mk hc1
 clear hr1 hc1
 have HR2 := Aside0.mk hr2
 have HC2 := Aside0.mk hc2
 clear hr2 hc2
 have HB := Aside0.mk (Below.refl w.heap.size w)
 have H : ((tourkeep5_stands.f k).bind fun t348 => (if t348 = true then ((tourref5_Skeleton.f k l0).bind fun t349 => ((tourref5_Pose.f k l1 (t349.length : Int)).bind fun t352 => ((tourref5_Pose.f k l2 (t349.length : Int)).bind fun t355 => ((bones_Blend.f k t349 t352 t355 0).bind fun bt358 => ((tourref5_Below.f a3 65537).bind fun t362 => ((bones_Blend.f k t349 t352 t352 t362).bind fun bt363 => ((tourref5_Below.f a3 65537).bind fun t367 => ((bones_Blend.f k t349 t352 t355 t367).bind fun bt368 => (if bt358.2 = 0 then (if bt363.2 = 0 then (if bt368.2 = 0 then (if (bt358.1.length : Int) = (t349.length : Int) then (if (bt363.1.length : Int) = (t349.length : Int) then (tourkeep5_BonesBlend.j0 k t349 t352 bt358.1 bt363.1 bt368.1 ((bt368.1.length : Int) != (t349.length : Int))) else (tourkeep5_BonesBlend.j0 k t349 t352 bt358.1 bt363.1 bt368.1 true)) else (tourkeep5_BonesBlend.j0 k t349 t352 bt358.1 bt363.1 bt368.1 true)) else (tourkeep5_BonesBlend.j0 k t349 t352 bt358.1 bt363.1 bt368.1 true)) else (tourkeep5_BonesBlend.j0 k t349 t352 bt358.1 bt363.1 bt368.1 true)) else (tourkeep5_BonesBlend.j0 k t349 t352 bt358.1 bt363.1 bt368.1 true)))))))))) else (none))) = some r := h
 clear h
 replace H := Option.bind_eq_some_iff.mp H
 obtain ⟨t348, A50, H⟩ := H
 replace H : (if t348 = true then ((tourref5_Skeleton.f k l0).bind fun t349 => ((tourref5_Pose.f k l1 (t349.length : Int)).bind fun t352 => ((tourref5_Pose.f k l2 (t349.length : Int)).bind fun t355 => ((bones_Blend.f k t349 t352 t355 0).bind fun bt358 => ((tourref5_Below.f a3 65537).bind fun t362 => ((bones_Blend.f k t349 t352 t352 t362).bind fun bt363 => ((tourref5_Below.f a3 65537).bind fun t367 => ((bones_Blend.f k t349 t352 t355 t367).bind fun bt368 => (if bt358.2 = 0 then (if bt363.2 = 0 then (if bt368.2 = 0 then (if (bt358.1.length : Int) = (t349.length : Int) then (if (bt363.1.length : Int) = (t349.length : Int) then (tourkeep5_BonesBlend.j0 k t349 t352 bt358.1 bt363.1 bt368.1 ((bt368.1.length : Int) != (t349.length : Int))) else (tourkeep5_BonesBlend.j0 k t349 t352 bt358.1 bt363.1 bt368.1 true)) else (tourkeep5_BonesBlend.j0 k t349 t352 bt358.1 bt363.1 bt368.1 true)) else (tourkeep5_BonesBlend.j0 k t349 t352 bt358.1 bt363.1 bt368.1 true)) else (tourkeep5_BonesBlend.j0 k t349 t352 bt358.1 bt363.1 bt368.1 true)) else (tourkeep5_BonesBlend.j0 k t349 t352 bt358.1 bt363.1 bt368.1 true)))))))))) else (none)) = some r := H
 have A5 := Aside0.mk A50
 clear A50
 by_cases c6 : t348 = true
 ·subst c6
  have H1 : ((tourref5_Skeleton.f k l0).bind fun t349 => ((tourref5_Pose.f k l1 (t349.length : Int)).bind fun t352 => ((tourref5_Pose.f k l2 (t349.length : Int)).bind fun t355 => ((bones_Blend.f k t349 t352 t355 0).bind fun bt358 => ((tourref5_Below.f a3 65537).bind fun t362 => ((bones_Blend.f k t349 t352 t352 t362).bind fun bt363 => ((tourref5_Below.f a3 65537).bind fun t367 => ((bones_Blend.f k t349 t352 t355 t367).bind fun bt368 => (if bt358.2 = 0 then (if bt363.2 = 0 then (if bt368.2 = 0 then (if (bt358.1.length : Int) = (t349.length : Int) then (if (bt363.1.length : Int) = (t349.length : Int) then (tourkeep5_BonesBlend.j0 k t349 t352 bt358.1 bt363.1 bt368.1 ((bt368.1.length : Int) != (t349.length : Int))) else (tourkeep5_BonesBlend.j0 k t349 t352 bt358.1 bt363.1 bt368.1 true)) else (tourkeep5_BonesBlend.j0 k t349 t352 bt358.1 bt363.1 bt368.1 true)) else (tourkeep5_BonesBlend.j0 k t349 t352 bt358.1 bt363.1 bt368.1 true)) else (tourkeep5_BonesBlend.j0 k t349 t352 bt358.1 bt363.1 bt368.1 true)) else (tourkeep5_BonesBlend.j0 k t349 t352 bt358.1 bt363.1 bt368.1 true)))))))))) = some r := by rw [if_pos rfl] at H; exact H
  clear H
  have H := H1
  clear H1
  replace H := Option.bind_eq_some_iff.mp H
  obtain ⟨t349, A70, H⟩ := H
  replace H : ((tourref5_Pose.f k l1 (t349.length : Int)).bind fun t352 => ((tourref5_Pose.f k l2 (t349.length : Int)).bind fun t355 => ((bones_Blend.f k t349 t352 t355 0).bind fun bt358 => ((tourref5_Below.f a3 65537).bind fun t362 => ((bones_Blend.f k t349 t352 t352 t362).bind fun bt363 => ((tourref5_Below.f a3 65537).bind fun t367 => ((bones_Blend.f k t349 t352 t355 t367).bind fun bt368 => (if bt358.2 = 0 then (if bt363.2 = 0 then (if bt368.2 = 0 then (if (bt358.1.length : Int) = (t349.length : Int) then (if (bt363.1.length : Int) = (t349.length : Int) then (tourkeep5_BonesBlend.j0 k t349 t352 bt358.1 bt363.1 bt368.1 ((bt368.1.length : Int) != (t349.length : Int))) else (tourkeep5_BonesBlend.j0 k t349 t352 bt358.1 bt363.1 bt368.1 true)) else (tourkeep5_BonesBlend.j0 k t349 t352 bt358.1 bt363.1 bt368.1 true)) else (tourkeep5_BonesBlend.j0 k t349 t352 bt358.1 bt363.1 bt368.1 true)) else (tourkeep5_BonesBlend.j0 k t349 t352 bt358.1 bt363.1 bt368.1 true)) else (tourkeep5_BonesBlend.j0 k t349 t352 bt358.1 bt363.1 bt368.1 true))))))))) = some r := H
  have A7 := Aside0.mk A70
  clear A70
  replace H := Option.bind_eq_some_iff.mp H
  obtain ⟨t352, A80, H⟩ := H
  replace H : ((tourref5_Pose.f k l2 (t349.length : Int)).bind fun t355 => ((bones_Blend.f k t349 t352 t355 0).bind fun bt358 => ((tourref5_Below.f a3 65537).bind fun t362 => ((bones_Blend.f k t349 t352 t352 t362).bind fun bt363 => ((tourref5_Below.f a3 65537).bind fun t367 => ((bones_Blend.f k t349 t352 t355 t367).bind fun bt368 => (if bt358.2 = 0 then (if bt363.2 = 0 then (if bt368.2 = 0 then (if (bt358.1.length : Int) = (t349.length : Int) then (if (bt363.1.length : Int) = (t349.length : Int) then (tourkeep5_BonesBlend.j0 k t349 t352 bt358.1 bt363.1 bt368.1 ((bt368.1.length : Int) != (t349.length : Int))) else (tourkeep5_BonesBlend.j0 k t349 t352 bt358.1 bt363.1 bt368.1 true)) else (tourkeep5_BonesBlend.j0 k t349 t352 bt358.1 bt363.1 bt368.1 true)) else (tourkeep5_BonesBlend.j0 k t349 t352 bt358.1 bt363.1 bt368.1 true)) else (tourkeep5_BonesBlend.j0 k t349 t352 bt358.1 bt363.1 bt368.1 true)) else (tourkeep5_BonesBlend.j0 k t349 t352 bt358.1 bt363.1 bt368.1 true)))))))) = some r := H
  have A8 := Aside0.mk A80
  clear A80
  replace H := Option.bind_eq_some_iff.mp H
  obtain ⟨t355, A90, H⟩ := H
  replace H : ((bones_Blend.f k t349 t352 t355 0).bind fun bt358 => ((tourref5_Below.f a3 65537).bind fun t362 => ((bones_Blend.f k t349 t352 t352 t362).bind fun bt363 => ((tourref5_Below.f a3 65537).bind fun t367 => ((bones_Blend.f k t349 t352 t355 t367).bind fun bt368 => (if bt358.2 = 0 then (if bt363.2 = 0 then (if bt368.2 = 0 then (if (bt358.1.length : Int) = (t349.length : Int) then (if (bt363.1.length : Int) = (t349.length : Int) then (tourkeep5_BonesBlend.j0 k t349 t352 bt358.1 bt363.1 bt368.1 ((bt368.1.length : Int) != (t349.length : Int))) else (tourkeep5_BonesBlend.j0 k t349 t352 bt358.1 bt363.1 bt368.1 true)) else (tourkeep5_BonesBlend.j0 k t349 t352 bt358.1 bt363.1 bt368.1 true)) else (tourkeep5_BonesBlend.j0 k t349 t352 bt358.1 bt363.1 bt368.1 true)) else (tourkeep5_BonesBlend.j0 k t349 t352 bt358.1 bt363.1 bt368.1 true)) else (tourkeep5_BonesBlend.j0 k t349 t352 bt358.1 bt363.1 bt368.1 true))))))) = some r := H
  have A9 := Aside0.mk A90
  clear A90
  replace H := Option.bind_eq_some_iff.mp H
  obtain ⟨⟨t358, t359⟩, A100, H⟩ := H
  replace H : ((tourref5_Below.f a3 65537).bind fun t362 => ((bones_Blend.f k t349 t352 t352 t362).bind fun bt363 => ((tourref5_Below.f a3 65537).bind fun t367 => ((bones_Blend.f k t349 t352 t355 t367).bind fun bt368 => (if t359 = 0 then (if bt363.2 = 0 then (if bt368.2 = 0 then (if (t358.length : Int) = (t349.length : Int) then (if (bt363.1.length : Int) = (t349.length : Int) then (tourkeep5_BonesBlend.j0 k t349 t352 t358 bt363.1 bt368.1 ((bt368.1.length : Int) != (t349.length : Int))) else (tourkeep5_BonesBlend.j0 k t349 t352 t358 bt363.1 bt368.1 true)) else (tourkeep5_BonesBlend.j0 k t349 t352 t358 bt363.1 bt368.1 true)) else (tourkeep5_BonesBlend.j0 k t349 t352 t358 bt363.1 bt368.1 true)) else (tourkeep5_BonesBlend.j0 k t349 t352 t358 bt363.1 bt368.1 true)) else (tourkeep5_BonesBlend.j0 k t349 t352 t358 bt363.1 bt368.1 true)))))) = some r := H
  have A10 := Aside0.mk A100
  clear A100
  replace H := Option.bind_eq_some_iff.mp H
  obtain ⟨t362, A110, H⟩ := H
  replace H : ((bones_Blend.f k t349 t352 t352 t362).bind fun bt363 => ((tourref5_Below.f a3 65537).bind fun t367 => ((bones_Blend.f k t349 t352 t355 t367).bind fun bt368 => (if t359 = 0 then (if bt363.2 = 0 then (if bt368.2 = 0 then (if (t358.length : Int) = (t349.length : Int) then (if (bt363.1.length : Int) = (t349.length : Int) then (tourkeep5_BonesBlend.j0 k t349 t352 t358 bt363.1 bt368.1 ((bt368.1.length : Int) != (t349.length : Int))) else (tourkeep5_BonesBlend.j0 k t349 t352 t358 bt363.1 bt368.1 true)) else (tourkeep5_BonesBlend.j0 k t349 t352 t358 bt363.1 bt368.1 true)) else (tourkeep5_BonesBlend.j0 k t349 t352 t358 bt363.1 bt368.1 true)) else (tourkeep5_BonesBlend.j0 k t349 t352 t358 bt363.1 bt368.1 true)) else (tourkeep5_BonesBlend.j0 k t349 t352 t358 bt363.1 bt368.1 true))))) = some r := H
  have A11 := Aside0.mk A110
  clear A110
  replace H := Option.bind_eq_some_iff.mp H
  obtain ⟨⟨t363, t364⟩, A120, H⟩ := H
  replace H : ((tourref5_Below.f a3 65537).bind fun t367 => ((bones_Blend.f k t349 t352 t355 t367).bind fun bt368 => (if t359 = 0 then (if t364 = 0 then (if bt368.2 = 0 then (if (t358.length : Int) = (t349.length : Int) then (if (t363.length : Int) = (t349.length : Int) then (tourkeep5_BonesBlend.j0 k t349 t352 t358 t363 bt368.1 ((bt368.1.length : Int) != (t349.length : Int))) else (tourkeep5_BonesBlend.j0 k t349 t352 t358 t363 bt368.1 true)) else (tourkeep5_BonesBlend.j0 k t349 t352 t358 t363 bt368.1 true)) else (tourkeep5_BonesBlend.j0 k t349 t352 t358 t363 bt368.1 true)) else (tourkeep5_BonesBlend.j0 k t349 t352 t358 t363 bt368.1 true)) else (tourkeep5_BonesBlend.j0 k t349 t352 t358 t363 bt368.1 true)))) = some r := H
  have A12 := Aside0.mk A120
  clear A120
  replace H := Option.bind_eq_some_iff.mp H
  obtain ⟨t367, A130, H⟩ := H
  replace H : ((bones_Blend.f k t349 t352 t355 t367).bind fun bt368 => (if t359 = 0 then (if t364 = 0 then (if bt368.2 = 0 then (if (t358.length : Int) = (t349.length : Int) then (if (t363.length : Int) = (t349.length : Int) then (tourkeep5_BonesBlend.j0 k t349 t352 t358 t363 bt368.1 ((bt368.1.length : Int) != (t349.length : Int))) else (tourkeep5_BonesBlend.j0 k t349 t352 t358 t363 bt368.1 true)) else (tourkeep5_BonesBlend.j0 k t349 t352 t358 t363 bt368.1 true)) else (tourkeep5_BonesBlend.j0 k t349 t352 t358 t363 bt368.1 true)) else (tourkeep5_BonesBlend.j0 k t349 t352 t358 t363 bt368.1 true)) else (tourkeep5_BonesBlend.j0 k t349 t352 t358 t363 bt368.1 true))) = some r := H
  have A13 := Aside0.mk A130
  clear A130
  replace H := Option.bind_eq_some_iff.mp H
  obtain ⟨⟨t368, t369⟩, A140, H⟩ := H
  replace H : (if t359 = 0 then (if t364 = 0 then (if t369 = 0 then (if (t358.length : Int) = (t349.length : Int) then (if (t363.length : Int) = (t349.length : Int) then (tourkeep5_BonesBlend.j0 k t349 t352 t358 t363 t368 ((t368.length : Int) != (t349.length : Int))) else (tourkeep5_BonesBlend.j0 k t349 t352 t358 t363 t368 true)) else (tourkeep5_BonesBlend.j0 k t349 t352 t358 t363 t368 true)) else (tourkeep5_BonesBlend.j0 k t349 t352 t358 t363 t368 true)) else (tourkeep5_BonesBlend.j0 k t349 t352 t358 t363 t368 true)) else (tourkeep5_BonesBlend.j0 k t349 t352 t358 t363 t368 true)) = some r := H
  have A14 := Aside0.mk A140
  clear A140
  have HC15 := Aside0.mk H
  clear H
  go_enter Try.func7, Try.ntmps7
  go_upto_region 8 with (first | ((with_reducible refine gate_callee (f := 8) rfl ?_); refine goesL_ (some 24) rfl rfl Try.func8 (by kernel_rfl) rfl #[] rfl (by (try simp only [zm1, zm2, zm3]); first | done | rfl) ?_; (with_reducible refine (tourkeep5_stands.calls k  true _ A5.out).mono ?_); rintro e w16 ⟨rfl, hb⟩; refine ⟨_, rfl, ?_⟩; have n0_ := Aside0.mk (below_step (by repeat (first | (with_reducible first | exact HB.out | apply below_alloc | apply pw_below_drewN | apply below_drew1) | exact HB.out)) hb); clear HB; have HB := n0_; clear n0_; (try clear hb); (try clear hb2); (try clear hk); (try clear hi)) | ((with_reducible refine gate_callee (f := 9) rfl ?_); refine goesL_ (some 27) rfl rfl Try.func9 (by kernel_rfl) rfl #[.slice A0 l0.length c0] rfl (by (try simp only [zm1, zm2, zm3]); first | done | rfl) ?_; (with_reducible refine (tourref5_Skeleton.calls k _ _ l0 t349 _ ?side1 ?side2 A7.out).mono ?_); (case side1 => repeat (first | exact (Kd.C_below HR0.out HB.out) | (with_reducible refine Kd.C_alloc ?_ _) | (with_reducible refine Kd.C_drewN ?_ _) | (with_reducible refine Kd.C_drew ?_))); (case side2 => exact HC0.out); rintro e w17 ⟨v350, rfl, ho0, hb⟩; refine ⟨_, rfl, ?_⟩; have n0_ := Aside0.mk (Kd.R_lower ho0 (below_size (by repeat (first | (with_reducible first | exact HB.out | apply below_alloc | apply pw_below_drewN | apply below_drew1) | exact HB.out)))); have n1_ := Aside0.mk (below_step (by repeat (first | (with_reducible first | exact HB.out | apply below_alloc | apply pw_below_drewN | apply below_drew1) | exact HB.out)) hb); clear HB; have HO351 := n0_; have HB := n1_; clear n0_ n1_; (try clear hb); (try clear hb2); (try clear hk); (try clear hi); (try clear ho0); obtain ⟨Ao18, co18, eo18⟩ := Kd.R_slice HO351.out; subst eo18) | ((with_reducible refine gate_callee (f := 19) rfl ?_); refine goesL_ (some 31) rfl rfl Try.func19 (by kernel_rfl) rfl #[.slice A1 l1.length c1, .int .i64 (t349.length : Int)] rfl (by (try simp only [zm1, zm2, zm3]); first | done | rfl) ?_; (with_reducible refine (tourref5_Pose.calls k _ _ l1 (t349.length : Int) t352 _ ?side1 ?side2 A8.out).mono ?_); (case side1 => repeat (first | exact (Kd.C_below HR1.out HB.out) | (with_reducible refine Kd.C_alloc ?_ _) | (with_reducible refine Kd.C_drewN ?_ _) | (with_reducible refine Kd.C_drew ?_))); (case side2 => exact HC1.out); rintro e w19 ⟨v353, rfl, ho0, hb⟩; refine ⟨_, rfl, ?_⟩; have n0_ := Aside0.mk (Kd.R_below (by (with_reducible repeat (first | apply Kd.R_alloc | apply Kd.R_drewN | apply Kd.R_drew)); exact HO351.out) hb); have n1_ := Aside0.mk (Kd.R_lower ho0 (below_size (by repeat (first | (with_reducible first | exact HB.out | apply below_alloc | apply pw_below_drewN | apply below_drew1) | exact HB.out)))); have n2_ := Aside0.mk (below_step (by repeat (first | (with_reducible first | exact HB.out | apply below_alloc | apply pw_below_drewN | apply below_drew1) | exact HB.out)) hb); clear HO351; clear HB; have HO351 := n0_; have HO354 := n1_; have HB := n2_; clear n0_ n1_ n2_; (try clear hb); (try clear hb2); (try clear hk); (try clear hi); (try clear ho0)) | ((with_reducible refine gate_callee (f := 19) rfl ?_); refine goesL_ (some 35) rfl rfl Try.func19 (by kernel_rfl) rfl #[.slice A2 l2.length c2, .int .i64 (t349.length : Int)] rfl (by (try simp only [zm1, zm2, zm3]); first | done | rfl) ?_; (with_reducible refine (tourref5_Pose.calls k _ _ l2 (t349.length : Int) t355 _ ?side1 ?side2 A9.out).mono ?_); (case side1 => repeat (first | exact (Kd.C_below HR2.out HB.out) | (with_reducible refine Kd.C_alloc ?_ _) | (with_reducible refine Kd.C_drewN ?_ _) | (with_reducible refine Kd.C_drew ?_))); (case side2 => exact HC2.out); rintro e w20 ⟨v356, rfl, ho0, hb⟩; refine ⟨_, rfl, ?_⟩; have n0_ := Aside0.mk (Kd.R_below (by (with_reducible repeat (first | apply Kd.R_alloc | apply Kd.R_drewN | apply Kd.R_drew)); exact HO351.out) hb); have n1_ := Aside0.mk (Kd.R_elder' (by (with_reducible repeat (first | apply Kd.R_alloc | apply Kd.R_drewN | apply Kd.R_drew)); exact HO354.out) (Kd.R_base ho0) hb); have n2_ := Aside0.mk (Kd.R_lower (Kd.R_new' ho0 (Kd.R_lt (by (with_reducible repeat (first | apply Kd.R_alloc | apply Kd.R_drewN | apply Kd.R_drew)); exact HO354.out))) (below_size (by repeat (first | (with_reducible first | exact HB.out | apply below_alloc | apply pw_below_drewN | apply below_drew1) | exact HB.out)))); have n3_ := Aside0.mk (below_step (by repeat (first | (with_reducible first | exact HB.out | apply below_alloc | apply pw_below_drewN | apply below_drew1) | exact HB.out)) hb); clear HO351; clear HO354; clear HB; have HO351 := n0_; have HO354 := n1_; have HO357 := n2_; have HB := n3_; clear n0_ n1_ n2_ n3_; (try clear hb); (try clear hb2); (try clear hk); (try clear hi); (try clear ho0); obtain ⟨Ao21, co21, eo21⟩ := Kd.R_slice HO354.out; subst eo21; obtain ⟨Ao22, co22, eo22⟩ := Kd.R_slice HO357.out; subst eo22) | ((with_reducible refine gate_callee (f := 18) rfl ?_); refine goesL_ (some 40) rfl rfl Try.func18 (by kernel_rfl) rfl #[.slice Ao18 t349.length co18, .slice Ao21 t352.length co21, .slice Ao22 t355.length co22, .int .i64 0] rfl (by (try simp only [zm1, zm2, zm3]); first | done | rfl) ?_; (with_reducible refine (bones_Blend.calls k _ _ t349 _ _ t352 _ _ t355 0 t358 t359 _ ?side1 ?side2 ?side3 ?side4 ?side5 ?side6 A10.out).mono ?_); (case side1 => repeat (first | exact (Kd.R_reads' HO351.out).2.2 | (with_reducible refine Kd.C_alloc ?_ _) | (with_reducible refine Kd.C_drewN ?_ _) | (with_reducible refine Kd.C_drew ?_))); (case side2 => exact (Kd.R_reads' HO351.out).2.1); (case side3 => repeat (first | exact (Kd.R_reads' HO354.out).2.2 | (with_reducible refine Kd.C_alloc ?_ _) | (with_reducible refine Kd.C_drewN ?_ _) | (with_reducible refine Kd.C_drew ?_))); (case side4 => exact (Kd.R_reads' HO354.out).2.1); (case side5 => repeat (first | exact (Kd.R_reads' HO357.out).2.2 | (with_reducible refine Kd.C_alloc ?_ _) | (with_reducible refine Kd.C_drewN ?_ _) | (with_reducible refine Kd.C_drew ?_))); (case side6 => exact (Kd.R_reads' HO357.out).2.1); rintro e w23 ⟨v360, rfl, ho0, hb⟩; refine ⟨_, rfl, ?_⟩; have n0_ := Aside0.mk (Kd.R_below (by (with_reducible repeat (first | apply Kd.R_alloc | apply Kd.R_drewN | apply Kd.R_drew)); exact HO351.out) hb); have n1_ := Aside0.mk (Kd.R_elder' (by (with_reducible repeat (first | apply Kd.R_alloc | apply Kd.R_drewN | apply Kd.R_drew)); exact HO354.out) (Kd.R_base ho0) hb); have n2_ := Aside0.mk (Kd.R_elder' (by (with_reducible repeat (first | apply Kd.R_alloc | apply Kd.R_drewN | apply Kd.R_drew)); exact HO357.out) (Kd.R_base ho0) hb); have n3_ := Aside0.mk (Kd.R_lower (Kd.R_new' (Kd.R_new' ho0 (Kd.R_lt (by (with_reducible repeat (first | apply Kd.R_alloc | apply Kd.R_drewN | apply Kd.R_drew)); exact HO354.out))) (Kd.R_lt (by (with_reducible repeat (first | apply Kd.R_alloc | apply Kd.R_drewN | apply Kd.R_drew)); exact HO357.out))) (below_size (by repeat (first | (with_reducible first | exact HB.out | apply below_alloc | apply pw_below_drewN | apply below_drew1) | exact HB.out)))); have n4_ := Aside0.mk (below_step (by repeat (first | (with_reducible first | exact HB.out | apply below_alloc | apply pw_below_drewN | apply below_drew1) | exact HB.out)) hb); clear HO351; clear HO354; clear HO357; clear HB; have HO351 := n0_; have HO354 := n1_; have HO357 := n2_; have HO361 := n3_; have HB := n4_; clear n0_ n1_ n2_ n3_ n4_; (try clear hb); (try clear hb2); (try clear hk); (try clear hi); (try clear ho0)) | ((with_reducible refine gate_callee (f := 21) rfl ?_); refine goesL_ (some 48) rfl rfl Try.func21 (by kernel_rfl) rfl #[.int .i64 a3, .int .i64 65537] rfl (by (try simp only [zm1, zm2, zm3]); first | done | rfl) ?_; (with_reducible refine (tourref5_Below.calls a3 65537 t362 _ A11.out).mono ?_); rintro e w' ⟨rfl, ⟨nd, rfl⟩⟩; refine ⟨_, rfl, ?_⟩) | ((with_reducible refine gate_callee (f := 18) rfl ?_); refine goesL_ (some 49) rfl rfl Try.func18 (by kernel_rfl) rfl #[.slice Ao18 t349.length co18, .slice Ao21 t352.length co21, .slice Ao21 t352.length co21, .int .i64 t362] rfl (by (try simp only [zm1, zm2, zm3]); first | done | rfl) ?_; (with_reducible refine (bones_Blend.calls k _ _ t349 _ _ t352 _ _ t352 t362 t363 t364 _ ?side1 ?side2 ?side3 ?side4 ?side5 ?side6 A12.out).mono ?_); (case side1 => repeat (first | exact (Kd.R_reads' HO351.out).2.2 | (with_reducible refine Kd.C_alloc ?_ _) | (with_reducible refine Kd.C_drewN ?_ _) | (with_reducible refine Kd.C_drew ?_))); (case side2 => exact (Kd.R_reads' HO351.out).2.1); (case side3 => repeat (first | exact (Kd.R_reads' HO354.out).2.2 | (with_reducible refine Kd.C_alloc ?_ _) | (with_reducible refine Kd.C_drewN ?_ _) | (with_reducible refine Kd.C_drew ?_))); (case side4 => exact (Kd.R_reads' HO354.out).2.1); (case side5 => repeat (first | exact (Kd.R_reads' HO354.out).2.2 | (with_reducible refine Kd.C_alloc ?_ _) | (with_reducible refine Kd.C_drewN ?_ _) | (with_reducible refine Kd.C_drew ?_))); (case side6 => exact (Kd.R_reads' HO354.out).2.1); rintro e w24 ⟨v365, rfl, ho0, hb⟩; refine ⟨_, rfl, ?_⟩; have n0_ := Aside0.mk (Kd.R_below (by (with_reducible repeat (first | apply Kd.R_alloc | apply Kd.R_drewN | apply Kd.R_drew)); exact HO351.out) hb); have n1_ := Aside0.mk (Kd.R_elder' (by (with_reducible repeat (first | apply Kd.R_alloc | apply Kd.R_drewN | apply Kd.R_drew)); exact HO354.out) (Kd.R_base ho0) hb); have n2_ := Aside0.mk (Kd.R_elder' (by (with_reducible repeat (first | apply Kd.R_alloc | apply Kd.R_drewN | apply Kd.R_drew)); exact HO357.out) (Kd.R_base ho0) hb); have n3_ := Aside0.mk (Kd.R_elder' (by (with_reducible repeat (first | apply Kd.R_alloc | apply Kd.R_drewN | apply Kd.R_drew)); exact HO361.out) (Kd.R_base ho0) hb); have n4_ := Aside0.mk (Kd.R_lower (Kd.R_new' (Kd.R_new' (Kd.R_new' ho0 (Kd.R_lt (by (with_reducible repeat (first | apply Kd.R_alloc | apply Kd.R_drewN | apply Kd.R_drew)); exact HO354.out))) (Kd.R_lt (by (with_reducible repeat (first | apply Kd.R_alloc | apply Kd.R_drewN | apply Kd.R_drew)); exact HO357.out))) (Kd.R_lt (by (with_reducible repeat (first | apply Kd.R_alloc | apply Kd.R_drewN | apply Kd.R_drew)); exact HO361.out))) (below_size (by repeat (first | (with_reducible first | exact HB.out | apply below_alloc | apply pw_below_drewN | apply below_drew1) | exact HB.out)))); have n5_ := Aside0.mk (below_step (by repeat (first | (with_reducible first | exact HB.out | apply below_alloc | apply pw_below_drewN | apply below_drew1) | exact HB.out)) hb); clear HO351; clear HO354; clear HO357; clear HO361; clear HB; have HO351 := n0_; have HO354 := n1_; have HO357 := n2_; have HO361 := n3_; have HO366 := n4_; have HB := n5_; clear n0_ n1_ n2_ n3_ n4_ n5_; (try clear hb); (try clear hb2); (try clear hk); (try clear hi); (try clear ho0)) | ((with_reducible refine gate_callee (f := 21) rfl ?_); refine goesL_ (some 57) rfl rfl Try.func21 (by kernel_rfl) rfl #[.int .i64 a3, .int .i64 65537] rfl (by (try simp only [zm1, zm2, zm3]); first | done | rfl) ?_; (with_reducible refine (tourref5_Below.calls a3 65537 t367 _ A13.out).mono ?_); rintro e w' ⟨rfl, ⟨nd, rfl⟩⟩; refine ⟨_, rfl, ?_⟩) | ((with_reducible refine gate_callee (f := 18) rfl ?_); refine goesL_ (some 58) rfl rfl Try.func18 (by kernel_rfl) rfl #[.slice Ao18 t349.length co18, .slice Ao21 t352.length co21, .slice Ao22 t355.length co22, .int .i64 t367] rfl (by (try simp only [zm1, zm2, zm3]); first | done | rfl) ?_; (with_reducible refine (bones_Blend.calls k _ _ t349 _ _ t352 _ _ t355 t367 t368 t369 _ ?side1 ?side2 ?side3 ?side4 ?side5 ?side6 A14.out).mono ?_); (case side1 => repeat (first | exact (Kd.R_reads' HO351.out).2.2 | (with_reducible refine Kd.C_alloc ?_ _) | (with_reducible refine Kd.C_drewN ?_ _) | (with_reducible refine Kd.C_drew ?_))); (case side2 => exact (Kd.R_reads' HO351.out).2.1); (case side3 => repeat (first | exact (Kd.R_reads' HO354.out).2.2 | (with_reducible refine Kd.C_alloc ?_ _) | (with_reducible refine Kd.C_drewN ?_ _) | (with_reducible refine Kd.C_drew ?_))); (case side4 => exact (Kd.R_reads' HO354.out).2.1); (case side5 => repeat (first | exact (Kd.R_reads' HO357.out).2.2 | (with_reducible refine Kd.C_alloc ?_ _) | (with_reducible refine Kd.C_drewN ?_ _) | (with_reducible refine Kd.C_drew ?_))); (case side6 => exact (Kd.R_reads' HO357.out).2.1); rintro e w25 ⟨v370, rfl, ho0, hb⟩; refine ⟨_, rfl, ?_⟩; have n0_ := Aside0.mk (Kd.R_below (by (with_reducible repeat (first | apply Kd.R_alloc | apply Kd.R_drewN | apply Kd.R_drew)); exact HO351.out) hb); have n1_ := Aside0.mk (Kd.R_elder' (by (with_reducible repeat (first | apply Kd.R_alloc | apply Kd.R_drewN | apply Kd.R_drew)); exact HO354.out) (Kd.R_base ho0) hb); have n2_ := Aside0.mk (Kd.R_elder' (by (with_reducible repeat (first | apply Kd.R_alloc | apply Kd.R_drewN | apply Kd.R_drew)); exact HO357.out) (Kd.R_base ho0) hb); have n3_ := Aside0.mk (Kd.R_elder' (by (with_reducible repeat (first | apply Kd.R_alloc | apply Kd.R_drewN | apply Kd.R_drew)); exact HO361.out) (Kd.R_base ho0) hb); have n4_ := Aside0.mk (Kd.R_elder' (by (with_reducible repeat (first | apply Kd.R_alloc | apply Kd.R_drewN | apply Kd.R_drew)); exact HO366.out) (Kd.R_base ho0) hb); have n5_ := Aside0.mk (Kd.R_lower (Kd.R_new' (Kd.R_new' (Kd.R_new' (Kd.R_new' ho0 (Kd.R_lt (by (with_reducible repeat (first | apply Kd.R_alloc | apply Kd.R_drewN | apply Kd.R_drew)); exact HO354.out))) (Kd.R_lt (by (with_reducible repeat (first | apply Kd.R_alloc | apply Kd.R_drewN | apply Kd.R_drew)); exact HO357.out))) (Kd.R_lt (by (with_reducible repeat (first | apply Kd.R_alloc | apply Kd.R_drewN | apply Kd.R_drew)); exact HO361.out))) (Kd.R_lt (by (with_reducible repeat (first | apply Kd.R_alloc | apply Kd.R_drewN | apply Kd.R_drew)); exact HO366.out))) (below_size (by repeat (first | (with_reducible first | exact HB.out | apply below_alloc | apply pw_below_drewN | apply below_drew1) | exact HB.out)))); have n6_ := Aside0.mk (below_step (by repeat (first | (with_reducible first | exact HB.out | apply below_alloc | apply pw_below_drewN | apply below_drew1) | exact HB.out)) hb); clear HO351; clear HO354; clear HO357; clear HO361; clear HO366; clear HB; have HO351 := n0_; have HO354 := n1_; have HO357 := n2_; have HO361 := n3_; have HO366 := n4_; have HO371 := n5_; have HB := n6_; clear n0_ n1_ n2_ n3_ n4_ n5_ n6_; (try clear hb); (try clear hb2); (try clear hk); (try clear hi); (try clear ho0)))
  (try simp only [Act.put, zq1, zq2, zq3])
  go_cut [91] (fun v91 wc => ∃ (kq : Nat) (x91_14 : Bool), v91 = .bool x91_14 ∧ Aside0 (tourkeep5_BonesBlend.j0 kq t349 t352 t358 t363 t368 x91_14 = some r) ∧ Aside0 (kq ≤ k) ∧ Aside0 (Kd.R k35 35 wc w.heap.size (fun _ => True) (.slice Ao18 t349.length co18) t349) ∧ Aside0 (Kd.R k37 37 wc w.heap.size (fun k_ => some k_ ≠ (v360 : Value).ownBlock ∧ some k_ ≠ (v365 : Value).ownBlock ∧ some k_ ≠ (v370 : Value).ownBlock) (.slice Ao21 t352.length co21) t352) ∧ Aside0 (Kd.R k37 37 wc w.heap.size (fun k_ => some k_ ≠ ((.slice Ao21 t352.length co21) : Value).ownBlock ∧ some k_ ≠ (v365 : Value).ownBlock ∧ some k_ ≠ (v370 : Value).ownBlock) v360 t358) ∧ Aside0 (Kd.R k37 37 wc w.heap.size (fun k_ => some k_ ≠ ((.slice Ao21 t352.length co21) : Value).ownBlock ∧ some k_ ≠ (v360 : Value).ownBlock ∧ some k_ ≠ (v370 : Value).ownBlock) v365 t363) ∧ Aside0 (Kd.R k37 37 wc w.heap.size (fun k_ => some k_ ≠ ((.slice Ao21 t352.length co21) : Value).ownBlock ∧ some k_ ≠ (v360 : Value).ownBlock ∧ some k_ ≠ (v365 : Value).ownBlock) v370 t368) ∧ Aside0 (Below w.heap.size w wc))
  case first =>
   have H := HC15.out
   clear HC15
   by_cases c26 : t359 = 0
   ·rw [if_pos c26] at H
    have c26b0 : (t359 == 0) = true := beq_iff_eq.mpr c26
    have c26b1 : (t359 != 0) = false := bne_eq_false_iff_eq.mpr c26
    clear c26
    (first | rw [c26b0] | (simp only [i64_w, i32_w]; rw [c26b0]) | skip)
    by_cases c27 : t364 = 0
    ·rw [if_pos c27] at H
     have c27b0 : (t364 == 0) = true := beq_iff_eq.mpr c27
     have c27b1 : (t364 != 0) = false := bne_eq_false_iff_eq.mpr c27
     clear c27
     by_cases c28 : t369 = 0
     ·rw [if_pos c28] at H
      have c28b0 : (t369 == 0) = true := beq_iff_eq.mpr c28
      have c28b1 : (t369 != 0) = false := bne_eq_false_iff_eq.mpr c28
      clear c28
      by_cases c29 : (t358.length : Int) = (t349.length : Int)
      ·rw [if_pos c29] at H
       have c29b0 : ((t358.length : Int) == (t349.length : Int)) = true := beq_iff_eq.mpr c29
       have c29b1 : ((t358.length : Int) != (t349.length : Int)) = false := bne_eq_false_iff_eq.mpr c29
       have c29b2 : (t358.length == t349.length) = true := by first | simpa using c29 | (simp at c29 ⊢; omega)
       clear c29
       by_cases c30 : (t363.length : Int) = (t349.length : Int)
       ·rw [if_pos c30] at H
        have c30b0 : ((t363.length : Int) == (t349.length : Int)) = true := beq_iff_eq.mpr c30
        have c30b1 : ((t363.length : Int) != (t349.length : Int)) = false := bne_eq_false_iff_eq.mpr c30
        have c30b2 : (t363.length == t349.length) = true := by first | simpa using c30 | (simp at c30 ⊢; omega)
        clear c30
        have H' := Aside0.mk H
        clear H
        obtain ⟨Ao31, co31, eo31⟩ := Kd.R_slice HO361.out
        subst eo31
        obtain ⟨Ao32, co32, eo32⟩ := Kd.R_slice HO366.out
        subst eo32
        obtain ⟨Ao33, co33, eo33⟩ := Kd.R_slice HO371.out
        subst eo33
        go_wp2
        go_meet
        case rel => exact ⟨_, (((t368.length : Int) != (t349.length : Int))), (by first | rfl | (simp; done) | (simp [*]; done)), H', ⟨by first | omega | exact Nat.le_refl _⟩, ⟨by (with_reducible repeat (first | apply Kd.R_alloc | apply Kd.R_drewN | apply Kd.R_drew)); exact HO351.out⟩, ⟨by (with_reducible repeat (first | apply Kd.R_alloc | apply Kd.R_drewN | apply Kd.R_drew)); exact Kd.R_mono HO354.out (fun _ hk => ⟨hk.1.1.2, ⟨hk.1.2, hk.2⟩⟩)⟩, ⟨by (with_reducible repeat (first | apply Kd.R_alloc | apply Kd.R_drewN | apply Kd.R_drew)); exact Kd.R_mono HO361.out (fun _ hk => ⟨hk.1.1.1.2, ⟨hk.1.2, hk.2⟩⟩)⟩, ⟨by (with_reducible repeat (first | apply Kd.R_alloc | apply Kd.R_drewN | apply Kd.R_drew)); exact Kd.R_mono HO366.out (fun _ hk => ⟨hk.1.1.1.2, ⟨hk.1.2, hk.2⟩⟩)⟩, ⟨by (with_reducible repeat (first | apply Kd.R_alloc | apply Kd.R_drewN | apply Kd.R_drew)); exact Kd.R_mono HO371.out (fun _ hk => ⟨hk.1.1.1.2, ⟨hk.1.2, hk.2⟩⟩)⟩, ⟨by repeat (first | (with_reducible first | exact HB.out | apply below_alloc | apply pw_below_drewN | apply below_drew1) | exact HB.out)⟩⟩
       ·rw [if_neg c30] at H
        have c30b0 : ((t363.length : Int) == (t349.length : Int)) = false := beq_eq_false_iff_ne.mpr c30
        have c30b1 : ((t363.length : Int) != (t349.length : Int)) = true := bne_iff_ne.mpr c30
        have c30b2 : (t363.length == t349.length) = false := by first | simpa using c30 | (simp at c30 ⊢; omega)
        have H' := Aside0.mk H
        clear H
        obtain ⟨Ao34, co34, eo34⟩ := Kd.R_slice HO361.out
        subst eo34
        obtain ⟨Ao35, co35, eo35⟩ := Kd.R_slice HO366.out
        subst eo35
        go_wp2
        go_meet
        case rel => exact ⟨_, (true), (by first | rfl | (simp; done) | (simp [*]; done)), H', ⟨by first | omega | exact Nat.le_refl _⟩, ⟨by (with_reducible repeat (first | apply Kd.R_alloc | apply Kd.R_drewN | apply Kd.R_drew)); exact HO351.out⟩, ⟨by (with_reducible repeat (first | apply Kd.R_alloc | apply Kd.R_drewN | apply Kd.R_drew)); exact Kd.R_mono HO354.out (fun _ hk => ⟨hk.1.1.2, ⟨hk.1.2, hk.2⟩⟩)⟩, ⟨by (with_reducible repeat (first | apply Kd.R_alloc | apply Kd.R_drewN | apply Kd.R_drew)); exact Kd.R_mono HO361.out (fun _ hk => ⟨hk.1.1.1.2, ⟨hk.1.2, hk.2⟩⟩)⟩, ⟨by (with_reducible repeat (first | apply Kd.R_alloc | apply Kd.R_drewN | apply Kd.R_drew)); exact Kd.R_mono HO366.out (fun _ hk => ⟨hk.1.1.1.2, ⟨hk.1.2, hk.2⟩⟩)⟩, ⟨by (with_reducible repeat (first | apply Kd.R_alloc | apply Kd.R_drewN | apply Kd.R_drew)); exact Kd.R_mono HO371.out (fun _ hk => ⟨hk.1.1.1.2, ⟨hk.1.2, hk.2⟩⟩)⟩, ⟨by repeat (first | (with_reducible first | exact HB.out | apply below_alloc | apply pw_below_drewN | apply below_drew1) | exact HB.out)⟩⟩
      ·rw [if_neg c29] at H
       have c29b0 : ((t358.length : Int) == (t349.length : Int)) = false := beq_eq_false_iff_ne.mpr c29
       have c29b1 : ((t358.length : Int) != (t349.length : Int)) = true := bne_iff_ne.mpr c29
       have c29b2 : (t358.length == t349.length) = false := by first | simpa using c29 | (simp at c29 ⊢; omega)
       have H' := Aside0.mk H
       clear H
       obtain ⟨Ao36, co36, eo36⟩ := Kd.R_slice HO361.out
       subst eo36
       go_wp2
       go_meet
       case rel => exact ⟨_, (true), (by first | rfl | (simp; done) | (simp [*]; done)), H', ⟨by first | omega | exact Nat.le_refl _⟩, ⟨by (with_reducible repeat (first | apply Kd.R_alloc | apply Kd.R_drewN | apply Kd.R_drew)); exact HO351.out⟩, ⟨by (with_reducible repeat (first | apply Kd.R_alloc | apply Kd.R_drewN | apply Kd.R_drew)); exact Kd.R_mono HO354.out (fun _ hk => ⟨hk.1.1.2, ⟨hk.1.2, hk.2⟩⟩)⟩, ⟨by (with_reducible repeat (first | apply Kd.R_alloc | apply Kd.R_drewN | apply Kd.R_drew)); exact Kd.R_mono HO361.out (fun _ hk => ⟨hk.1.1.1.2, ⟨hk.1.2, hk.2⟩⟩)⟩, ⟨by (with_reducible repeat (first | apply Kd.R_alloc | apply Kd.R_drewN | apply Kd.R_drew)); exact Kd.R_mono HO366.out (fun _ hk => ⟨hk.1.1.1.2, ⟨hk.1.2, hk.2⟩⟩)⟩, ⟨by (with_reducible repeat (first | apply Kd.R_alloc | apply Kd.R_drewN | apply Kd.R_drew)); exact Kd.R_mono HO371.out (fun _ hk => ⟨hk.1.1.1.2, ⟨hk.1.2, hk.2⟩⟩)⟩, ⟨by repeat (first | (with_reducible first | exact HB.out | apply below_alloc | apply pw_below_drewN | apply below_drew1) | exact HB.out)⟩⟩
     ·rw [if_neg c28] at H
      have c28b0 : (t369 == 0) = false := beq_eq_false_iff_ne.mpr c28
      have c28b1 : (t369 != 0) = true := bne_iff_ne.mpr c28
      have H' := Aside0.mk H
      clear H
      go_wp2
      go_meet
      case rel => exact ⟨_, (true), (by first | rfl | (simp; done) | (simp [*]; done)), H', ⟨by first | omega | exact Nat.le_refl _⟩, ⟨by (with_reducible repeat (first | apply Kd.R_alloc | apply Kd.R_drewN | apply Kd.R_drew)); exact HO351.out⟩, ⟨by (with_reducible repeat (first | apply Kd.R_alloc | apply Kd.R_drewN | apply Kd.R_drew)); exact Kd.R_mono HO354.out (fun _ hk => ⟨hk.1.1.2, ⟨hk.1.2, hk.2⟩⟩)⟩, ⟨by (with_reducible repeat (first | apply Kd.R_alloc | apply Kd.R_drewN | apply Kd.R_drew)); exact Kd.R_mono HO361.out (fun _ hk => ⟨hk.1.1.1.2, ⟨hk.1.2, hk.2⟩⟩)⟩, ⟨by (with_reducible repeat (first | apply Kd.R_alloc | apply Kd.R_drewN | apply Kd.R_drew)); exact Kd.R_mono HO366.out (fun _ hk => ⟨hk.1.1.1.2, ⟨hk.1.2, hk.2⟩⟩)⟩, ⟨by (with_reducible repeat (first | apply Kd.R_alloc | apply Kd.R_drewN | apply Kd.R_drew)); exact Kd.R_mono HO371.out (fun _ hk => ⟨hk.1.1.1.2, ⟨hk.1.2, hk.2⟩⟩)⟩, ⟨by repeat (first | (with_reducible first | exact HB.out | apply below_alloc | apply pw_below_drewN | apply below_drew1) | exact HB.out)⟩⟩
    ·rw [if_neg c27] at H
     have c27b0 : (t364 == 0) = false := beq_eq_false_iff_ne.mpr c27
     have c27b1 : (t364 != 0) = true := bne_iff_ne.mpr c27
     have H' := Aside0.mk H
     clear H
     go_wp2
     go_meet
     case rel => exact ⟨_, (true), (by first | rfl | (simp; done) | (simp [*]; done)), H', ⟨by first | omega | exact Nat.le_refl _⟩, ⟨by (with_reducible repeat (first | apply Kd.R_alloc | apply Kd.R_drewN | apply Kd.R_drew)); exact HO351.out⟩, ⟨by (with_reducible repeat (first | apply Kd.R_alloc | apply Kd.R_drewN | apply Kd.R_drew)); exact Kd.R_mono HO354.out (fun _ hk => ⟨hk.1.1.2, ⟨hk.1.2, hk.2⟩⟩)⟩, ⟨by (with_reducible repeat (first | apply Kd.R_alloc | apply Kd.R_drewN | apply Kd.R_drew)); exact Kd.R_mono HO361.out (fun _ hk => ⟨hk.1.1.1.2, ⟨hk.1.2, hk.2⟩⟩)⟩, ⟨by (with_reducible repeat (first | apply Kd.R_alloc | apply Kd.R_drewN | apply Kd.R_drew)); exact Kd.R_mono HO366.out (fun _ hk => ⟨hk.1.1.1.2, ⟨hk.1.2, hk.2⟩⟩)⟩, ⟨by (with_reducible repeat (first | apply Kd.R_alloc | apply Kd.R_drewN | apply Kd.R_drew)); exact Kd.R_mono HO371.out (fun _ hk => ⟨hk.1.1.1.2, ⟨hk.1.2, hk.2⟩⟩)⟩, ⟨by repeat (first | (with_reducible first | exact HB.out | apply below_alloc | apply pw_below_drewN | apply below_drew1) | exact HB.out)⟩⟩
   ·rw [if_neg c26] at H
    have c26b0 : (t359 == 0) = false := beq_eq_false_iff_ne.mpr c26
    have c26b1 : (t359 != 0) = true := bne_iff_ne.mpr c26
    (first | rw [c26b0] | (simp only [i64_w, i32_w]; rw [c26b0]) | skip)
    have H' := Aside0.mk H
    clear H
    go_wp2
    go_meet
    case rel => exact ⟨_, (true), (by first | rfl | (simp; done) | (simp [*]; done)), H', ⟨by first | omega | exact Nat.le_refl _⟩, ⟨by (with_reducible repeat (first | apply Kd.R_alloc | apply Kd.R_drewN | apply Kd.R_drew)); exact HO351.out⟩, ⟨by (with_reducible repeat (first | apply Kd.R_alloc | apply Kd.R_drewN | apply Kd.R_drew)); exact Kd.R_mono HO354.out (fun _ hk => ⟨hk.1.1.2, ⟨hk.1.2, hk.2⟩⟩)⟩, ⟨by (with_reducible repeat (first | apply Kd.R_alloc | apply Kd.R_drewN | apply Kd.R_drew)); exact Kd.R_mono HO361.out (fun _ hk => ⟨hk.1.1.1.2, ⟨hk.1.2, hk.2⟩⟩)⟩, ⟨by (with_reducible repeat (first | apply Kd.R_alloc | apply Kd.R_drewN | apply Kd.R_drew)); exact Kd.R_mono HO366.out (fun _ hk => ⟨hk.1.1.1.2, ⟨hk.1.2, hk.2⟩⟩)⟩, ⟨by (with_reducible repeat (first | apply Kd.R_alloc | apply Kd.R_drewN | apply Kd.R_drew)); exact Kd.R_mono HO371.out (fun _ hk => ⟨hk.1.1.1.2, ⟨hk.1.2, hk.2⟩⟩)⟩, ⟨by repeat (first | (with_reducible first | exact HB.out | apply below_alloc | apply pw_below_drewN | apply below_drew1) | exact HB.out)⟩⟩
  case rest =>
   clear HC15
   try clear c1; try clear c2; try clear p2; try clear c3; try clear p5; try clear c6; try clear c7; try clear c8
   try clear c9; try clear c18; try clear c19; try clear c21; try clear c26; try clear c26b0; try clear c26b1; try clear c27
   try clear c27b0; try clear c27b1; try clear c28; try clear c28b0; try clear c28b1; try clear c29; try clear c29b0; try clear c29b1
   try clear c29b2; try clear c30; try clear c30b0; try clear c30b1; try clear c30b2
   obtain ⟨kq, x91_14, rfl, HA, HJ14, HO_9, HO_10, HO_12, HO_14, HO_16, HB⟩ := hcut
   cases kq with
   | zero => exact absurd HA.out (by simp [tourkeep5_BonesBlend.j0])
   | succ kj14 =>
    have H := HA.out
    clear HA
    simp only [tourkeep5_BonesBlend.j0] at H
    by_cases c37 : x91_14 = true
    ·subst c37
     have H1 : (none) = some r := by rw [if_pos rfl] at H; exact H
     clear H
     have H := H1
     clear H1
     exact absurd H (by simp)
    ·replace c37 := Bool.eq_false_iff.mpr c37
     subst c37
     have H1 : (tourkeep5_BonesBlend.l0 kj14 t352 t358 t363 t368 (t349.length : Int) 0) = some r := by rw [if_neg (show ¬ (false = true) by decide)] at H; exact H
     clear H
     have H := H1
     clear H1
     have H' := Aside0.mk H
     clear H
     go_wp2
     go_loopg [94] kj14 (fun kq v94 w' => ∃ (x94_2 : Int), v94 = .int .i64 x94_2 ∧ Aside0 (tourkeep5_BonesBlend.l0 kq t352 t358 t363 t368 (t349.length : Int) x94_2 = some r) ∧ Aside0 (kq ≤ kj14) ∧ Aside0 (Kd.R k37 37 w' w.heap.size (fun k_ => some k_ ≠ (v360 : Value).ownBlock ∧ some k_ ≠ (v365 : Value).ownBlock ∧ some k_ ≠ (v370 : Value).ownBlock) (.slice Ao21 t352.length co21) t352) ∧ Aside0 (Kd.R k37 37 w' w.heap.size (fun k_ => some k_ ≠ ((.slice Ao21 t352.length co21) : Value).ownBlock ∧ some k_ ≠ (v365 : Value).ownBlock ∧ some k_ ≠ (v370 : Value).ownBlock) v360 t358) ∧ Aside0 (Kd.R k37 37 w' w.heap.size (fun k_ => some k_ ≠ ((.slice Ao21 t352.length co21) : Value).ownBlock ∧ some k_ ≠ (v360 : Value).ownBlock ∧ some k_ ≠ (v370 : Value).ownBlock) v365 t363) ∧ Aside0 (Kd.R k37 37 w' w.heap.size (fun k_ => some k_ ≠ ((.slice Ao21 t352.length co21) : Value).ownBlock ∧ some k_ ≠ (v360 : Value).ownBlock ∧ some k_ ≠ (v365 : Value).ownBlock) v370 t368) ∧ Aside0 (Below w.heap.size w w'))
     case atStart => exact ⟨(0), (by first | rfl | (simp; done) | (simp [*]; done)), H', ⟨Nat.le_refl _⟩, ⟨by (with_reducible repeat (first | apply Kd.R_alloc | apply Kd.R_drewN | apply Kd.R_drew)); exact HO_10.out⟩, ⟨by (with_reducible repeat (first | apply Kd.R_alloc | apply Kd.R_drewN | apply Kd.R_drew)); exact HO_12.out⟩, ⟨by (with_reducible repeat (first | apply Kd.R_alloc | apply Kd.R_drewN | apply Kd.R_drew)); exact HO_14.out⟩, ⟨by (with_reducible repeat (first | apply Kd.R_alloc | apply Kd.R_drewN | apply Kd.R_drew)); exact HO_16.out⟩, ⟨by repeat (first | (with_reducible first | exact HB.out | apply below_alloc | apply pw_below_drewN | apply below_drew1) | exact HB.out)⟩⟩
     case round =>
      clear H'
      try clear c1; try clear c2; try clear p2; try clear c3; try clear p5; try clear c6; try clear c7; try clear c8
      try clear c9; try clear c18; try clear c19; try clear c21; try clear c26; try clear c26b0; try clear c26b1; try clear c27
      try clear c27b0; try clear c27b1; try clear c28; try clear c28b0; try clear c28b1; try clear c29; try clear c29b0; try clear c29b1
      try clear c29b2; try clear c30; try clear c30b0; try clear c30b1; try clear c30b2; try clear c37; try clear p2; try clear p5
      obtain ⟨x94_2, rfl, HA, HK2, HO_10, HO_12, HO_14, HO_16, HB⟩ := hrel
      cases gk with
      | zero => exact absurd HA.out (by simp [tourkeep5_BonesBlend.l0])
      | succ k2 =>
       have H := HA.out
       clear HA
       simp only [tourkeep5_BonesBlend.l0] at H
       by_cases c38 : x94_2 < (t349.length : Int)
       ·rw [if_pos c38] at H
        have c38b0 : decide (x94_2 < (t349.length : Int)) = true := decide_eq_true c38
        clear c38
        by_cases c39 : 0 ≤ x94_2
        ·rw [if_pos c39] at H
         have c39b0 : decide (0 ≤ x94_2) = true := decide_eq_true c39
         clear c39
         by_cases c40 : x94_2 < (t358.length : Int)
         ·rw [if_pos c40] at H
          have c40b0 : decide (x94_2 < (t358.length : Int)) = true := decide_eq_true c40
          clear c40
          by_cases c41 : x94_2 < (t352.length : Int)
          ·rw [if_pos c41] at H
           have c41b0 : decide (x94_2 < (t352.length : Int)) = true := decide_eq_true c41
           clear c41
           replace H := Option.bind_eq_some_iff.mp H
           obtain ⟨⟨t374, t375, t376, t377⟩, A420, H⟩ := H
           replace H : (if (!(((rd_T37 t358 x94_2).f0) == t374) || (!(((rd_T37 t358 x94_2).f1) == t375) || (!(((rd_T37 t358 x94_2).f2) == t376) || (!(((rd_T37 t358 x94_2).f3) == t377))))) = true then (none) else (if x94_2 < (t368.length : Int) then ((some (([(rd_T37 t368 x94_2).f0, (rd_T37 t368 x94_2).f1, (rd_T37 t368 x94_2).f2, (rd_T37 t368 x94_2).f3] : List Int) : List Int)).bind fun y382 => (tourkeep5_BonesBlend.l1 k2 t352 t358 t363 t368 x94_2 0 (t349.length : Int) x94_2 y382 (y382.length : Int) 0)) else (none))) = some r := H
           have A42 := Aside0.mk A420
           clear A420
           by_cases c43 : (!(((rd_T37 t358 x94_2).f0) == t374) || (!(((rd_T37 t358 x94_2).f1) == t375) || (!(((rd_T37 t358 x94_2).f2) == t376) || (!(((rd_T37 t358 x94_2).f3) == t377))))) = true
           ·rw [if_pos c43] at H
            exact absurd H (by simp)
           ·rw [if_neg c43] at H
            have c43b0 : (!(((rd_T37 t358 x94_2).f0) == t374) || (!(((rd_T37 t358 x94_2).f1) == t375) || (!(((rd_T37 t358 x94_2).f2) == t376) || (!(((rd_T37 t358 x94_2).f3) == t377))))) = false := by simpa using c43
            clear c43
            by_cases c44 : x94_2 < (t368.length : Int)
            ·rw [if_pos c44] at H
             have c44b0 : decide (x94_2 < (t368.length : Int)) = true := decide_eq_true c44
             clear c44
             obtain ⟨y382, hy382⟩ : ∃ y_ : List Int, y_ = (([(rd_T37 t368 x94_2).f0, (rd_T37 t368 x94_2).f1, (rd_T37 t368 x94_2).f2, (rd_T37 t368 x94_2).f3] : List Int)) := ⟨_, rfl⟩
             replace H : (tourkeep5_BonesBlend.l1 k2 t352 t358 t363 t368 x94_2 0 (t349.length : Int) x94_2 y382 (y382.length : Int) 0) = some r := by first | (rw [hy382]; with_reducible exact H) | (have H2_ := (Option.bind_some _ _).symm.trans H; rw [hy382]; with_reducible exact H2_) | (have H2_ := (Option.bind_some _ _).symm.trans H; with_reducible exact H2_) | with_reducible exact H | (rw [hy382]; exact H) | exact H
             have Ny382 := Aside0.mk hy382
             clear hy382
             have H' := Aside0.mk H
             clear H
             try go_wp2
             have n0_ := Aside0.mk (Kd.R_drew HO_10.out)
             have n1_ := Aside0.mk (Kd.R_drew HO_12.out)
             have n2_ := Aside0.mk (Kd.R_drew HO_14.out)
             have n3_ := Aside0.mk (Kd.R_drew HO_16.out)
             have n4_ := Aside0.mk (below_drew1 HB.out)
             clear HO_10
             clear HO_12
             clear HO_14
             clear HO_16
             clear HB
             have HO_10 := n0_
             have HO_12 := n1_
             have HO_14 := n2_
             have HO_16 := n3_
             have HB := n4_
             clear n0_ n1_ n2_ n3_ n4_
             obtain ⟨Ao46, co46, eo46⟩ := Kd.R_slice HO_12.out
             (first | subst eo46 | (injection eo46 with f1_ f2_ f3_; have f4_ := f1_.symm; have f5_ := f3_.symm; clear f1_ f2_ f3_; subst f4_; subst f5_))
             have p372 : 0 ≤ (x94_2 : Int) := of_decide_eq_true (by first | (with_reducible assumption) | assumption)
             have q372 : x94_2 < (t358.length : Int) := of_decide_eq_true (by first | (with_reducible assumption) | assumption)
             obtain ⟨ad372, e372, hx372_0, hx372_1, hx372_2, hx372_3⟩ := at_T37 (Kd.R_reads' HO_12.out).2.2 x94_2 p372 q372
             cases e372
             replace p372 := eq_true p372
             replace q372 := eq_true q372
             have p373 : 0 ≤ (x94_2 : Int) := of_decide_eq_true (by first | (with_reducible assumption) | assumption)
             have q373 : x94_2 < (t352.length : Int) := of_decide_eq_true (by first | (with_reducible assumption) | assumption)
             obtain ⟨ad373, e373, hx373_0, hx373_1, hx373_2, hx373_3⟩ := at_T37 (Kd.R_reads' HO_10.out).2.2 x94_2 p373 q373
             cases e373
             replace p373 := eq_true p373
             replace q373 := eq_true q373
             refine start_ (n := 10) (S := fun w' => w'.cell? (ad372.add ((x94_2).toNat * 4)) = some (.int .i64 ((rd_T37 t358 x94_2).f0)) ∧ w'.cell? ⟨(ad372.add ((x94_2).toNat * 4)).block, (ad372.add ((x94_2).toNat * 4)).off + 1, none⟩ = some (.int .i64 ((rd_T37 t358 x94_2).f1)) ∧ w'.cell? ⟨(ad372.add ((x94_2).toNat * 4)).block, (ad372.add ((x94_2).toNat * 4)).off + 2, none⟩ = some (.int .i64 ((rd_T37 t358 x94_2).f2)) ∧ w'.cell? ⟨(ad372.add ((x94_2).toNat * 4)).block, (ad372.add ((x94_2).toNat * 4)).off + 3, none⟩ = some (.int .i64 ((rd_T37 t358 x94_2).f3)) ∧ w'.cell? (ad373.add ((x94_2).toNat * 4)) = some (.int .i64 ((rd_T37 t352 x94_2).f0)) ∧ w'.cell? ⟨(ad373.add ((x94_2).toNat * 4)).block, (ad373.add ((x94_2).toNat * 4)).off + 1, none⟩ = some (.int .i64 ((rd_T37 t352 x94_2).f1)) ∧ w'.cell? ⟨(ad373.add ((x94_2).toNat * 4)).block, (ad373.add ((x94_2).toNat * 4)).off + 2, none⟩ = some (.int .i64 ((rd_T37 t352 x94_2).f2)) ∧ w'.cell? ⟨(ad373.add ((x94_2).toNat * 4)).block, (ad373.add ((x94_2).toNat * 4)).off + 3, none⟩ = some (.int .i64 ((rd_T37 t352 x94_2).f3))) (ds := []) (ab 10 0) (by kernel_rfl) rfl rfl ⟨hx372_0, hx372_1, hx372_2, hx372_3, hx373_0, hx373_1, hx373_2, hx373_3⟩ (fun hHeld => ?_); refine with_tabW tourkeep5_BonesBlend.tab13 tourkeep5_BonesBlend.bits13 (fun HT_ HW_ => ?_)
             generalize wr.drew = w45 at HO_10 HO_12 HO_14 HO_16 HB hx372_0 hx372_1 hx372_2 hx372_3 hx373_0 hx373_1 hx373_2 hx373_3 hHeld ⊢
             refine pure_ (i := 0) (N := some 97) (v := ?_) (a' := ?_) (ab 10 1) rfl rfl (any_of HT_.out (by kernel_rfl)) (fun _ _ _ h => h) (Or.inl ⟨by rfl, ?_⟩) ?_ ?_
             rotate_left
             ·intro w'
              go_simp
              with_reducible rfl
             rotate_left
             ·simp only [Act.put, zq1, zq2, zq3, i64_w, i32_w]
              rfl
             refine pure_ (i := 1) (N := some 98) (v := ?_) (a' := ?_) (ab 10 3) rfl rfl (any_of HT_.out (by kernel_rfl)) (fun _ _ _ h => h) (Or.inl ⟨by rfl, ?_⟩) ?_ ?_
             rotate_left
             ·intro w'
              go_simp
              with_reducible rfl
             rotate_left
             ·simp only [Act.put, zq1, zq2, zq3, i64_w, i32_w]
              rfl
             refine pure_ (i := 2) (N := some 99) (v := ?_) (a' := ?_) (ab 10 7) rfl rfl (any_of HT_.out (by kernel_rfl)) (fun _ _ _ h => h) (Or.inl ⟨by rfl, ?_⟩) ?_ ?_
             rotate_left
             ·intro w'
              go_simp
              with_reducible rfl
             rotate_left
             ·simp only [Act.put, zq1, zq2, zq3, i64_w, i32_w]
              rfl
             refine pure_ (i := 4) (N := some 101) (v := ?_) (a' := ?_) (ab 10 23) rfl rfl (any_of HT_.out (by kernel_rfl)) (fun _ _ _ h => h) (Or.inl ⟨by rfl, ?_⟩) ?_ ?_
             rotate_left
             ·intro w'
              go_simp
              with_reducible rfl
             rotate_left
             ·simp only [Act.put, zq1, zq2, zq3, i64_w, i32_w]
              rfl
             refine pure_ (i := 5) (N := some 102) (v := ?_) (a' := ?_) (ab 10 55) rfl rfl (any_of HT_.out (by kernel_rfl)) (fun _ _ _ h => h) (Or.inl ⟨by rfl, ?_⟩) ?_ ?_
             rotate_left
             ·intro w'
              go_simp
              with_reducible rfl
             rotate_left
             ·simp only [Act.put, zq1, zq2, zq3, i64_w, i32_w]
              rfl
             refine pure_ (i := 6) (N := some 103) (v := ?_) (a' := ?_) (ab 10 119) rfl rfl (any_of HT_.out (by kernel_rfl)) (fun _ _ _ h => h) (Or.inl ⟨by rfl, ?_⟩) ?_ ?_
             rotate_left
             ·intro w'
              go_simp
              with_reducible rfl
             rotate_left
             ·simp only [Act.put, zq1, zq2, zq3, i64_w, i32_w]
              rfl
             refine take_ (i := 3) (N := some 100) (v := ?_) (a' := ?_) (ab 10 127) rfl rfl (take_ofW HT_.out HW_.out (by kernel_rfl)) (fun _ _ _ h => h) (Or.inl ⟨by rfl, ?_⟩) hHeld ?_ ?_
             rotate_left
             ·rintro w' ⟨s0, s1, s2, s3, s4, s5, s6, s7⟩
              go_simp
              with_reducible rfl
             rotate_left
             ·simp only [Act.put, zq1, zq2, zq3, i64_w, i32_w]
              rfl
             refine take_ (i := 7) (N := some 104) (v := ?_) (a' := ?_) (ab 10 255) rfl rfl (take_ofW HT_.out HW_.out (by kernel_rfl)) (fun _ _ _ h => h) (Or.inl ⟨by rfl, ?_⟩) hHeld ?_ ?_
             rotate_left
             ·rintro w' ⟨s0, s1, s2, s3, s4, s5, s6, s7⟩
              go_simp
              with_reducible rfl
             rotate_left
             ·simp only [Act.put, zq1, zq2, zq3, i64_w, i32_w]
              rfl
             refine one_ (i := 8) (N := some 105) (ab 10 511) rfl rfl (one_of HT_.out (by kernel_rfl)) (by decide) (fun K hK => ?_)
             refine goes_ Try.func22 (by kernel_rfl) rfl #[.agg #[.int .i64 ((rd_T37 t352 x94_2).f0), .int .i64 ((rd_T37 t352 x94_2).f1), .int .i64 ((rd_T37 t352 x94_2).f2), .int .i64 ((rd_T37 t352 x94_2).f3)]] (by rfl) rfl rfl (by (try simp only [zm1, zm2, zm3]); first | done | rfl) ?_
             with_reducible refine (quat_Unit.calls k2 ((rd_T37 t352 x94_2).f0) ((rd_T37 t352 x94_2).f1) ((rd_T37 t352 x94_2).f2) ((rd_T37 t352 x94_2).f3) t374 t375 t376 t377 _ A42.out).mono ?_
             rintro e w47 ⟨rfl, hb⟩
             have HS0_ := (hb.cell (World.block_lt_of_cell? _ _ (hHeld.1))).trans (hHeld.1)
             have HS1_ := (hb.cell (World.block_lt_of_cell? _ _ (hHeld.2.1))).trans (hHeld.2.1)
             have HS2_ := (hb.cell (World.block_lt_of_cell? _ _ (hHeld.2.2.1))).trans (hHeld.2.2.1)
             have HS3_ := (hb.cell (World.block_lt_of_cell? _ _ (hHeld.2.2.2.1))).trans (hHeld.2.2.2.1)
             have HS4_ := (hb.cell (World.block_lt_of_cell? _ _ (hHeld.2.2.2.2.1))).trans (hHeld.2.2.2.2.1)
             have HS5_ := (hb.cell (World.block_lt_of_cell? _ _ (hHeld.2.2.2.2.2.1))).trans (hHeld.2.2.2.2.2.1)
             have HS6_ := (hb.cell (World.block_lt_of_cell? _ _ (hHeld.2.2.2.2.2.2.1))).trans (hHeld.2.2.2.2.2.2.1)
             have HS7_ := (hb.cell (World.block_lt_of_cell? _ _ (hHeld.2.2.2.2.2.2.2))).trans (hHeld.2.2.2.2.2.2.2)
             refine ⟨_, rfl, ?_⟩
             have n0_ := Aside0.mk (Kd.R_below (by (with_reducible repeat (first | apply Kd.R_alloc | apply Kd.R_drewN | apply Kd.R_drew)); exact HO_10.out) hb)
             have n1_ := Aside0.mk (Kd.R_below (by (with_reducible repeat (first | apply Kd.R_alloc | apply Kd.R_drewN | apply Kd.R_drew)); exact HO_12.out) hb)
             have n2_ := Aside0.mk (Kd.R_below (by (with_reducible repeat (first | apply Kd.R_alloc | apply Kd.R_drewN | apply Kd.R_drew)); exact HO_14.out) hb)
             have n3_ := Aside0.mk (Kd.R_below (by (with_reducible repeat (first | apply Kd.R_alloc | apply Kd.R_drewN | apply Kd.R_drew)); exact HO_16.out) hb)
             have n4_ := Aside0.mk (below_step (by repeat (first | (with_reducible first | exact HB.out | apply below_alloc | apply pw_below_drewN | apply below_drew1) | exact HB.out)) hb)
             clear HO_10
             clear HO_12
             clear HO_14
             clear HO_16
             clear HB
             have HO_10 := n0_
             have HO_12 := n1_
             have HO_14 := n2_
             have HO_16 := n3_
             have HB := n4_
             clear n0_ n1_ n2_ n3_ n4_
             (try clear hb)
             (try clear hb2)
             (try clear hk)
             (try clear hi)
             refine hK.out _ _ ⟨HS0_, HS1_, HS2_, HS3_, HS4_, HS5_, HS6_, HS7_⟩ (fun hHeld => ?_)
             clear hK K
             refine norm_ (a' := ?_) ?_ ?_
             rotate_left
             ·show Act.put _ (some 105) _ = _
              simp only [Act.put, zq1, zq2, zq3, i64_w, i32_w]
              rfl
             refine pure_ (i := 9) (N := some 106) (v := ?_) (a' := ?_) (ab 10 1023) rfl rfl (any_of HT_.out (by kernel_rfl)) (fun _ _ _ h => h) (Or.inl ⟨by rfl, ?_⟩) ?_ ?_
             rotate_left
             ·intro w'
              go_simp
              with_reducible rfl
             rotate_left
             ·simp only [Act.put, zq1, zq2, zq3, i64_w, i32_w]
              rfl
             refine done_ (done_of HT_.out (by kernel_rfl)) ?_
             try go_wp2
             have n0_ := Aside0.mk (Kd.R_drew HO_10.out)
             have n1_ := Aside0.mk (Kd.R_drew HO_12.out)
             have n2_ := Aside0.mk (Kd.R_drew HO_14.out)
             have n3_ := Aside0.mk (Kd.R_drew HO_16.out)
             have n4_ := Aside0.mk (below_drew1 HB.out)
             clear HO_10
             clear HO_12
             clear HO_14
             clear HO_16
             clear HB
             have HO_10 := n0_
             have HO_12 := n1_
             have HO_14 := n2_
             have HO_16 := n3_
             have HB := n4_
             clear n0_ n1_ n2_ n3_ n4_
             obtain ⟨Ao49, co49, eo49⟩ := Kd.R_slice HO_16.out
             (first | subst eo49 | (injection eo49 with f1_ f2_ f3_; have f4_ := f1_.symm; have f5_ := f3_.symm; clear f1_ f2_ f3_; subst f4_; subst f5_))
             have p378 : 0 ≤ (x94_2 : Int) := of_decide_eq_true (by first | (with_reducible assumption) | assumption)
             have q378 : x94_2 < (t368.length : Int) := of_decide_eq_true (by first | (with_reducible assumption) | assumption)
             obtain ⟨ad378, e378, hx378_0, hx378_1, hx378_2, hx378_3⟩ := at_T37 (Kd.R_reads' HO_16.out).2.2 x94_2 p378 q378
             cases e378
             replace p378 := eq_true p378
             replace q378 := eq_true q378
             have p379 : 0 ≤ (x94_2 : Int) := of_decide_eq_true (by first | (with_reducible assumption) | assumption)
             have q379 : x94_2 < (t368.length : Int) := of_decide_eq_true (by first | (with_reducible assumption) | assumption)
             obtain ⟨ad379, e379, hx379_0, hx379_1, hx379_2, hx379_3⟩ := at_T37 (Kd.R_reads' HO_16.out).2.2 x94_2 p379 q379
             obtain rfl : ad378 = ad379 := (by injection e379)
             replace p379 := eq_true p379
             replace q379 := eq_true q379
             have p380 : 0 ≤ (x94_2 : Int) := of_decide_eq_true (by first | (with_reducible assumption) | assumption)
             have q380 : x94_2 < (t368.length : Int) := of_decide_eq_true (by first | (with_reducible assumption) | assumption)
             obtain ⟨ad380, e380, hx380_0, hx380_1, hx380_2, hx380_3⟩ := at_T37 (Kd.R_reads' HO_16.out).2.2 x94_2 p380 q380
             obtain rfl : ad378 = ad380 := (by injection e380)
             replace p380 := eq_true p380
             replace q380 := eq_true q380
             have p381 : 0 ≤ (x94_2 : Int) := of_decide_eq_true (by first | (with_reducible assumption) | assumption)
             have q381 : x94_2 < (t368.length : Int) := of_decide_eq_true (by first | (with_reducible assumption) | assumption)
             obtain ⟨ad381, e381, hx381_0, hx381_1, hx381_2, hx381_3⟩ := at_T37 (Kd.R_reads' HO_16.out).2.2 x94_2 p381 q381
             obtain rfl : ad378 = ad381 := (by injection e381)
             replace p381 := eq_true p381
             replace q381 := eq_true q381
             refine start_ (n := 23) (S := fun w' => w'.cell? (ad378.add ((x94_2).toNat * 4)) = some (.int .i64 ((rd_T37 t368 x94_2).f0)) ∧ w'.cell? ⟨(ad378.add ((x94_2).toNat * 4)).block, (ad378.add ((x94_2).toNat * 4)).off + 1, none⟩ = some (.int .i64 ((rd_T37 t368 x94_2).f1)) ∧ w'.cell? ⟨(ad378.add ((x94_2).toNat * 4)).block, (ad378.add ((x94_2).toNat * 4)).off + 2, none⟩ = some (.int .i64 ((rd_T37 t368 x94_2).f2)) ∧ w'.cell? ⟨(ad378.add ((x94_2).toNat * 4)).block, (ad378.add ((x94_2).toNat * 4)).off + 3, none⟩ = some (.int .i64 ((rd_T37 t368 x94_2).f3)) ∧ w'.cell? (ad378.add ((x94_2).toNat * 4)) = some (.int .i64 ((rd_T37 t368 x94_2).f0)) ∧ w'.cell? ⟨(ad378.add ((x94_2).toNat * 4)).block, (ad378.add ((x94_2).toNat * 4)).off + 1, none⟩ = some (.int .i64 ((rd_T37 t368 x94_2).f1)) ∧ w'.cell? ⟨(ad378.add ((x94_2).toNat * 4)).block, (ad378.add ((x94_2).toNat * 4)).off + 2, none⟩ = some (.int .i64 ((rd_T37 t368 x94_2).f2)) ∧ w'.cell? ⟨(ad378.add ((x94_2).toNat * 4)).block, (ad378.add ((x94_2).toNat * 4)).off + 3, none⟩ = some (.int .i64 ((rd_T37 t368 x94_2).f3)) ∧ w'.cell? (ad378.add ((x94_2).toNat * 4)) = some (.int .i64 ((rd_T37 t368 x94_2).f0)) ∧ w'.cell? ⟨(ad378.add ((x94_2).toNat * 4)).block, (ad378.add ((x94_2).toNat * 4)).off + 1, none⟩ = some (.int .i64 ((rd_T37 t368 x94_2).f1)) ∧ w'.cell? ⟨(ad378.add ((x94_2).toNat * 4)).block, (ad378.add ((x94_2).toNat * 4)).off + 2, none⟩ = some (.int .i64 ((rd_T37 t368 x94_2).f2)) ∧ w'.cell? ⟨(ad378.add ((x94_2).toNat * 4)).block, (ad378.add ((x94_2).toNat * 4)).off + 3, none⟩ = some (.int .i64 ((rd_T37 t368 x94_2).f3)) ∧ w'.cell? (ad378.add ((x94_2).toNat * 4)) = some (.int .i64 ((rd_T37 t368 x94_2).f0)) ∧ w'.cell? ⟨(ad378.add ((x94_2).toNat * 4)).block, (ad378.add ((x94_2).toNat * 4)).off + 1, none⟩ = some (.int .i64 ((rd_T37 t368 x94_2).f1)) ∧ w'.cell? ⟨(ad378.add ((x94_2).toNat * 4)).block, (ad378.add ((x94_2).toNat * 4)).off + 2, none⟩ = some (.int .i64 ((rd_T37 t368 x94_2).f2)) ∧ w'.cell? ⟨(ad378.add ((x94_2).toNat * 4)).block, (ad378.add ((x94_2).toNat * 4)).off + 3, none⟩ = some (.int .i64 ((rd_T37 t368 x94_2).f3))) (ds := []) (ab 23 0) (by kernel_rfl) rfl rfl ⟨hx378_0, hx378_1, hx378_2, hx378_3, hx379_0, hx379_1, hx379_2, hx379_3, hx380_0, hx380_1, hx380_2, hx380_3, hx381_0, hx381_1, hx381_2, hx381_3⟩ (fun hHeld => ?_); refine with_tabW tourkeep5_BonesBlend.tab16 tourkeep5_BonesBlend.bits16 (fun HT_ HW_ => ?_)
             generalize w47.drew = w48 at HO_10 HO_12 HO_14 HO_16 HB hx378_0 hx378_1 hx378_2 hx378_3 hx379_0 hx379_1 hx379_2 hx379_3 hx380_0 hx380_1 hx380_2 hx380_3 hx381_0 hx381_1 hx381_2 hx381_3 hHeld ⊢
             refine pure_ (i := 0) (N := some 107) (v := ?_) (a' := ?_) (ab 23 1) rfl rfl (any_of HT_.out (by kernel_rfl)) (fun _ _ _ h => h) (Or.inl ⟨by rfl, ?_⟩) ?_ ?_
             rotate_left
             ·intro w'
              go_simp
              with_reducible rfl
             rotate_left
             ·simp only [Act.put, zq1, zq2, zq3, i64_w, i32_w]
              rfl
             refine pure_ (i := 1) (N := some 108) (v := ?_) (a' := ?_) (ab 23 3) rfl rfl (any_of HT_.out (by kernel_rfl)) (fun _ _ _ h => h) (Or.inl ⟨by rfl, ?_⟩) ?_ ?_
             rotate_left
             ·intro w'
              go_simp
              with_reducible rfl
             rotate_left
             ·simp only [Act.put, zq1, zq2, zq3, i64_w, i32_w]
              rfl
             refine pure_ (i := 2) (N := some 109) (v := ?_) (a' := ?_) (ab 23 7) rfl rfl (any_of HT_.out (by kernel_rfl)) (fun _ _ _ h => h) (Or.inl ⟨by rfl, ?_⟩) ?_ ?_
             rotate_left
             ·intro w'
              go_simp
              with_reducible rfl
             rotate_left
             ·simp only [Act.put, zq1, zq2, zq3, i64_w, i32_w]
              rfl
             refine pure_ (i := 3) (N := some 110) (v := ?_) (a' := ?_) (ab 23 15) rfl rfl (any_of HT_.out (by kernel_rfl)) (fun _ _ _ h => h) (Or.inl ⟨by rfl, ?_⟩) ?_ ?_
             rotate_left
             ·intro w'
              go_simp
              with_reducible rfl
             rotate_left
             ·simp only [Act.put, zq1, zq2, zq3, i64_w, i32_w]
              rfl
             refine pure_ (i := 5) (N := some 112) (v := ?_) (a' := ?_) (ab 23 47) rfl rfl (any_of HT_.out (by kernel_rfl)) (fun _ _ _ h => h) (Or.inl ⟨by rfl, ?_⟩) ?_ ?_
             rotate_left
             ·intro w'
              go_simp
              with_reducible rfl
             rotate_left
             ·simp only [Act.put, zq1, zq2, zq3, i64_w, i32_w]
              rfl
             refine pure_ (i := 6) (N := some 113) (v := ?_) (a' := ?_) (ab 23 111) rfl rfl (any_of HT_.out (by kernel_rfl)) (fun _ _ _ h => h) (Or.inl ⟨by rfl, ?_⟩) ?_ ?_
             rotate_left
             ·intro w'
              go_simp
              with_reducible rfl
             rotate_left
             ·simp only [Act.put, zq1, zq2, zq3, i64_w, i32_w]
              rfl
             refine pure_ (i := 7) (N := some 114) (v := ?_) (a' := ?_) (ab 23 239) rfl rfl (any_of HT_.out (by kernel_rfl)) (fun _ _ _ h => h) (Or.inl ⟨by rfl, ?_⟩) ?_ ?_
             rotate_left
             ·intro w'
              go_simp
              with_reducible rfl
             rotate_left
             ·simp only [Act.put, zq1, zq2, zq3, i64_w, i32_w]
              rfl
             refine pure_ (i := 8) (N := some 115) (v := ?_) (a' := ?_) (ab 23 495) rfl rfl (any_of HT_.out (by kernel_rfl)) (fun _ _ _ h => h) (Or.inl ⟨by rfl, ?_⟩) ?_ ?_
             rotate_left
             ·intro w'
              go_simp
              with_reducible rfl
             rotate_left
             ·simp only [Act.put, zq1, zq2, zq3, i64_w, i32_w]
              rfl
             refine pure_ (i := 10) (N := some 117) (v := ?_) (a' := ?_) (ab 23 1519) rfl rfl (any_of HT_.out (by kernel_rfl)) (fun _ _ _ h => h) (Or.inl ⟨by rfl, ?_⟩) ?_ ?_
             rotate_left
             ·intro w'
              go_simp
              with_reducible rfl
             rotate_left
             ·simp only [Act.put, zq1, zq2, zq3, i64_w, i32_w]
              rfl
             refine pure_ (i := 11) (N := some 118) (v := ?_) (a' := ?_) (ab 23 3567) rfl rfl (any_of HT_.out (by kernel_rfl)) (fun _ _ _ h => h) (Or.inl ⟨by rfl, ?_⟩) ?_ ?_
             rotate_left
             ·intro w'
              go_simp
              with_reducible rfl
             rotate_left
             ·simp only [Act.put, zq1, zq2, zq3, i64_w, i32_w]
              rfl
             refine pure_ (i := 12) (N := some 119) (v := ?_) (a' := ?_) (ab 23 7663) rfl rfl (any_of HT_.out (by kernel_rfl)) (fun _ _ _ h => h) (Or.inl ⟨by rfl, ?_⟩) ?_ ?_
             rotate_left
             ·intro w'
              go_simp
              with_reducible rfl
             rotate_left
             ·simp only [Act.put, zq1, zq2, zq3, i64_w, i32_w]
              rfl
             refine pure_ (i := 13) (N := some 120) (v := ?_) (a' := ?_) (ab 23 15855) rfl rfl (any_of HT_.out (by kernel_rfl)) (fun _ _ _ h => h) (Or.inl ⟨by rfl, ?_⟩) ?_ ?_
             rotate_left
             ·intro w'
              go_simp
              with_reducible rfl
             rotate_left
             ·simp only [Act.put, zq1, zq2, zq3, i64_w, i32_w]
              rfl
             refine pure_ (i := 15) (N := some 122) (v := ?_) (a' := ?_) (ab 23 48623) rfl rfl (any_of HT_.out (by kernel_rfl)) (fun _ _ _ h => h) (Or.inl ⟨by rfl, ?_⟩) ?_ ?_
             rotate_left
             ·intro w'
              go_simp
              with_reducible rfl
             rotate_left
             ·simp only [Act.put, zq1, zq2, zq3, i64_w, i32_w]
              rfl
             refine pure_ (i := 16) (N := some 123) (v := ?_) (a' := ?_) (ab 23 114159) rfl rfl (any_of HT_.out (by kernel_rfl)) (fun _ _ _ h => h) (Or.inl ⟨by rfl, ?_⟩) ?_ ?_
             rotate_left
             ·intro w'
              go_simp
              with_reducible rfl
             rotate_left
             ·simp only [Act.put, zq1, zq2, zq3, i64_w, i32_w]
              rfl
             refine pure_ (i := 17) (N := some 124) (v := ?_) (a' := ?_) (ab 23 245231) rfl rfl (any_of HT_.out (by kernel_rfl)) (fun _ _ _ h => h) (Or.inl ⟨by rfl, ?_⟩) ?_ ?_
             rotate_left
             ·intro w'
              go_simp
              with_reducible rfl
             rotate_left
             ·simp only [Act.put, zq1, zq2, zq3, i64_w, i32_w]
              rfl
             refine pure_ (i := 18) (N := some 125) (v := ?_) (a' := ?_) (ab 23 507375) rfl rfl (any_of HT_.out (by kernel_rfl)) (fun _ _ _ h => h) (Or.inl ⟨by rfl, ?_⟩) ?_ ?_
             rotate_left
             ·intro w'
              go_simp
              with_reducible rfl
             rotate_left
             ·simp only [Act.put, zq1, zq2, zq3, i64_w, i32_w]
              rfl
             refine pure_ (i := 22) (N := some 129) (v := ?_) (a' := ?_) (ab 23 4701679) rfl rfl (any_of HT_.out (by kernel_rfl)) (fun _ _ _ h => h) (Or.inl ⟨by rfl, ?_⟩) ?_ ?_
             rotate_left
             ·intro w'
              go_simp
              with_reducible rfl
             rotate_left
             ·simp only [Act.put, zq1, zq2, zq3, i64_w, i32_w]
              rfl
             refine take_ (i := 4) (N := some 111) (v := ?_) (a' := ?_) (ab 23 4701695) rfl rfl (take_ofW HT_.out HW_.out (by kernel_rfl)) (fun _ _ _ h => h) (Or.inl ⟨by rfl, ?_⟩) hHeld ?_ ?_
             rotate_left
             ·rintro w' ⟨s0, s1, s2, s3, s4, s5, s6, s7, s8, s9, s10, s11, s12, s13, s14, s15⟩
              go_simp
              with_reducible rfl
             rotate_left
             ·simp only [Act.put, zq1, zq2, zq3, i64_w, i32_w]
              rfl
             refine take_ (i := 9) (N := some 116) (v := ?_) (a' := ?_) (ab 23 4702207) rfl rfl (take_ofW HT_.out HW_.out (by kernel_rfl)) (fun _ _ _ h => h) (Or.inl ⟨by rfl, ?_⟩) hHeld ?_ ?_
             rotate_left
             ·rintro w' ⟨s0, s1, s2, s3, s4, s5, s6, s7, s8, s9, s10, s11, s12, s13, s14, s15⟩
              go_simp
              with_reducible rfl
             rotate_left
             ·simp only [Act.put, zq1, zq2, zq3, i64_w, i32_w]
              rfl
             refine take_ (i := 14) (N := some 121) (v := ?_) (a' := ?_) (ab 23 4718591) rfl rfl (take_ofW HT_.out HW_.out (by kernel_rfl)) (fun _ _ _ h => h) (Or.inl ⟨by rfl, ?_⟩) hHeld ?_ ?_
             rotate_left
             ·rintro w' ⟨s0, s1, s2, s3, s4, s5, s6, s7, s8, s9, s10, s11, s12, s13, s14, s15⟩
              go_simp
              with_reducible rfl
             rotate_left
             ·simp only [Act.put, zq1, zq2, zq3, i64_w, i32_w]
              rfl
             refine take_ (i := 19) (N := some 126) (v := ?_) (a' := ?_) (ab 23 5242879) rfl rfl (take_ofW HT_.out HW_.out (by kernel_rfl)) (fun _ _ _ h => h) (Or.inl ⟨by rfl, ?_⟩) hHeld ?_ ?_
             rotate_left
             ·rintro w' ⟨s0, s1, s2, s3, s4, s5, s6, s7, s8, s9, s10, s11, s12, s13, s14, s15⟩
              go_simp
              with_reducible rfl
             rotate_left
             ·simp only [Act.put, zq1, zq2, zq3, i64_w, i32_w]
              rfl
             refine one_ (i := 20) (N := some 127) (ab 23 6291455) rfl rfl (one_of HT_.out (by kernel_rfl)) (by decide) (fun K hK => ?_)
             refine Kd.R_lit_step (Kd.int .i64) _ 3 ?hg (N := 127) ?hd (xs := ([(rd_T37 t368 x94_2).f0, (rd_T37 t368 x94_2).f1, (rd_T37 t368 x94_2).f2, (rd_T37 t368 x94_2).f3] : List Int)) (inner := [.int .i64 ((rd_T37 t368 x94_2).f0), .int .i64 ((rd_T37 t368 x94_2).f1), .int .i64 ((rd_T37 t368 x94_2).f2), .int .i64 ((rd_T37 t368 x94_2).f3)]) (ok := fun _ => True) (okp := fun _ => True) ?hr ?hp (fun _ hk => hk) trivial (Below.refl _ _) (Nat.le_refl _) (by simp) ?_; (case hd => rfl); (case hg => rfl); (case hr => first | (go_simp; done) | (go_simp; rfl)); (case hp => exact (Reps.one (show Kd.M (Kd.int .i64) _ _ _ ((rd_T37 t368 x94_2).f0) [.int .i64 ((rd_T37 t368 x94_2).f0)] from rfl) (Reps.one (show Kd.M (Kd.int .i64) _ _ _ ((rd_T37 t368 x94_2).f1) [.int .i64 ((rd_T37 t368 x94_2).f1)] from rfl) (Reps.one (show Kd.M (Kd.int .i64) _ _ _ ((rd_T37 t368 x94_2).f2) [.int .i64 ((rd_T37 t368 x94_2).f2)] from rfl) (Reps.one (show Kd.M (Kd.int .i64) _ _ _ ((rd_T37 t368 x94_2).f3) [.int .i64 ((rd_T37 t368 x94_2).f3)] from rfl) (Reps.none _ _))))))
             intro v383 w50 ho51 hb hg_ hnew_
             have HS0_ := (hb.cell (World.block_lt_of_cell? _ _ (hHeld.1))).trans (hHeld.1)
             have HS1_ := (hb.cell (World.block_lt_of_cell? _ _ (hHeld.2.1))).trans (hHeld.2.1)
             have HS2_ := (hb.cell (World.block_lt_of_cell? _ _ (hHeld.2.2.1))).trans (hHeld.2.2.1)
             have HS3_ := (hb.cell (World.block_lt_of_cell? _ _ (hHeld.2.2.2.1))).trans (hHeld.2.2.2.1)
             have HS4_ := (hb.cell (World.block_lt_of_cell? _ _ (hHeld.2.2.2.2.1))).trans (hHeld.2.2.2.2.1)
             have HS5_ := (hb.cell (World.block_lt_of_cell? _ _ (hHeld.2.2.2.2.2.1))).trans (hHeld.2.2.2.2.2.1)
             have HS6_ := (hb.cell (World.block_lt_of_cell? _ _ (hHeld.2.2.2.2.2.2.1))).trans (hHeld.2.2.2.2.2.2.1)
             have HS7_ := (hb.cell (World.block_lt_of_cell? _ _ (hHeld.2.2.2.2.2.2.2.1))).trans (hHeld.2.2.2.2.2.2.2.1)
             have HS8_ := (hb.cell (World.block_lt_of_cell? _ _ (hHeld.2.2.2.2.2.2.2.2.1))).trans (hHeld.2.2.2.2.2.2.2.2.1)
             have HS9_ := (hb.cell (World.block_lt_of_cell? _ _ (hHeld.2.2.2.2.2.2.2.2.2.1))).trans (hHeld.2.2.2.2.2.2.2.2.2.1)
             have HS10_ := (hb.cell (World.block_lt_of_cell? _ _ (hHeld.2.2.2.2.2.2.2.2.2.2.1))).trans (hHeld.2.2.2.2.2.2.2.2.2.2.1)
             have HS11_ := (hb.cell (World.block_lt_of_cell? _ _ (hHeld.2.2.2.2.2.2.2.2.2.2.2.1))).trans (hHeld.2.2.2.2.2.2.2.2.2.2.2.1)
             have HS12_ := (hb.cell (World.block_lt_of_cell? _ _ (hHeld.2.2.2.2.2.2.2.2.2.2.2.2.1))).trans (hHeld.2.2.2.2.2.2.2.2.2.2.2.2.1)
             have HS13_ := (hb.cell (World.block_lt_of_cell? _ _ (hHeld.2.2.2.2.2.2.2.2.2.2.2.2.2.1))).trans (hHeld.2.2.2.2.2.2.2.2.2.2.2.2.2.1)
             have HS14_ := (hb.cell (World.block_lt_of_cell? _ _ (hHeld.2.2.2.2.2.2.2.2.2.2.2.2.2.2.1))).trans (hHeld.2.2.2.2.2.2.2.2.2.2.2.2.2.2.1)
             have HS15_ := (hb.cell (World.block_lt_of_cell? _ _ (hHeld.2.2.2.2.2.2.2.2.2.2.2.2.2.2.2))).trans (hHeld.2.2.2.2.2.2.2.2.2.2.2.2.2.2.2)
             clear hg_ hnew_
             (first | rw [← Ny382.out] at ho51 | (simp only [Int.reduceToNat] at ho51; rw [← Ny382.out] at ho51))
             have n0_ := Aside0.mk (Kd.R_below (by (with_reducible repeat (first | apply Kd.R_alloc | apply Kd.R_drewN | apply Kd.R_drew)); exact HO_10.out) hb)
             have n1_ := Aside0.mk (Kd.R_below (by (with_reducible repeat (first | apply Kd.R_alloc | apply Kd.R_drewN | apply Kd.R_drew)); exact HO_12.out) hb)
             have n2_ := Aside0.mk (Kd.R_below (by (with_reducible repeat (first | apply Kd.R_alloc | apply Kd.R_drewN | apply Kd.R_drew)); exact HO_14.out) hb)
             have n3_ := Aside0.mk (Kd.R_below (by (with_reducible repeat (first | apply Kd.R_alloc | apply Kd.R_drewN | apply Kd.R_drew)); exact HO_16.out) hb)
             have n4_ := Aside0.mk (Kd.R_lower ho51 (below_size (by repeat (first | (with_reducible first | exact HB.out | apply below_alloc | apply pw_below_drewN | apply below_drew1) | exact HB.out))))
             have n5_ := Aside0.mk (below_step (by repeat (first | (with_reducible first | exact HB.out | apply below_alloc | apply pw_below_drewN | apply below_drew1) | exact HB.out)) hb)
             clear HO_10
             clear HO_12
             clear HO_14
             clear HO_16
             clear HB
             have HO_10 := n0_
             have HO_12 := n1_
             have HO_14 := n2_
             have HO_16 := n3_
             have HO384 := n4_
             have HB := n5_
             clear n0_ n1_ n2_ n3_ n4_ n5_
             clear hb ho51
             obtain ⟨Ao52, co52, eo52⟩ := Kd.R_slice HO384.out
             (first | subst eo52 | (injection eo52 with f1_ f2_ f3_; have f4_ := f1_.symm; have f5_ := f3_.symm; clear f1_ f2_ f3_; subst f4_; subst f5_))
             refine hK.out _ _ ⟨HS0_, HS1_, HS2_, HS3_, HS4_, HS5_, HS6_, HS7_, HS8_, HS9_, HS10_, HS11_, HS12_, HS13_, HS14_, HS15_⟩ (fun hHeld => ?_)
             clear hK K
             refine norm_ (a' := ?_) ?_ ?_
             rotate_left
             ·show Act.put _ (some 127) _ = _
              simp only [Act.put, zq1, zq2, zq3, i64_w, i32_w]
              rfl
             refine pure_ (i := 21) (N := some 128) (v := ?_) (a' := ?_) (ab 23 8388607) rfl rfl (any_of HT_.out (by kernel_rfl)) (fun _ _ _ h => h) (Or.inl ⟨by rfl, ?_⟩) ?_ ?_
             rotate_left
             ·intro w'
              go_simp
              with_reducible rfl
             rotate_left
             ·simp only [Act.put, zq1, zq2, zq3, i64_w, i32_w]
              rfl
             refine done_ (done_of HT_.out (by kernel_rfl)) ?_
             try go_wp2
             go_loopg [19, 129] k2 (fun kq v19 v129 w' => ∃ (x19_3 : Int) (x129_3 : Int), v19 = .int .i64 x19_3 ∧ v129 = .int .i64 x129_3 ∧ Aside0 (tourkeep5_BonesBlend.l1 kq t352 t358 t363 t368 x94_2 x19_3 (t349.length : Int) x94_2 y382 (y382.length : Int) x129_3 = some r) ∧ Aside0 (kq ≤ k2) ∧ Aside0 (Kd.R k37 37 w' w.heap.size (fun k_ => some k_ ≠ ((.slice (some ad372) t358.length co46) : Value).ownBlock ∧ some k_ ≠ (v365 : Value).ownBlock ∧ some k_ ≠ ((.slice (some ad378) t368.length co49) : Value).ownBlock) (.slice (some ad373) t352.length co21) t352) ∧ Aside0 (Kd.R k37 37 w' w.heap.size (fun k_ => some k_ ≠ ((.slice (some ad373) t352.length co21) : Value).ownBlock ∧ some k_ ≠ (v365 : Value).ownBlock ∧ some k_ ≠ ((.slice (some ad378) t368.length co49) : Value).ownBlock) (.slice (some ad372) t358.length co46) t358) ∧ Aside0 (Kd.R k37 37 w' w.heap.size (fun k_ => some k_ ≠ ((.slice (some ad373) t352.length co21) : Value).ownBlock ∧ some k_ ≠ ((.slice (some ad372) t358.length co46) : Value).ownBlock ∧ some k_ ≠ ((.slice (some ad378) t368.length co49) : Value).ownBlock) v365 t363) ∧ Aside0 (Kd.R k37 37 w' w.heap.size (fun k_ => some k_ ≠ ((.slice (some ad373) t352.length co21) : Value).ownBlock ∧ some k_ ≠ ((.slice (some ad372) t358.length co46) : Value).ownBlock ∧ some k_ ≠ (v365 : Value).ownBlock) (.slice (some ad378) t368.length co49) t368) ∧ Aside0 (Kd.R (Kd.int .i64) 3 w' w.heap.size (fun _ => True) (.slice Ao52 y382.length co52) y382) ∧ Aside0 (Below w.heap.size w w'))
             case atStart => exact ⟨(0), (0), (by first | rfl | (simp; done) | (simp [*]; done)), (by first | rfl | (simp; done) | (simp [*]; done)), H', ⟨Nat.le_refl _⟩, ⟨by (with_reducible repeat (first | apply Kd.R_alloc | apply Kd.R_drewN | apply Kd.R_drew)); exact HO_10.out⟩, ⟨by (with_reducible repeat (first | apply Kd.R_alloc | apply Kd.R_drewN | apply Kd.R_drew)); exact HO_12.out⟩, ⟨by (with_reducible repeat (first | apply Kd.R_alloc | apply Kd.R_drewN | apply Kd.R_drew)); exact HO_14.out⟩, ⟨by (with_reducible repeat (first | apply Kd.R_alloc | apply Kd.R_drewN | apply Kd.R_drew)); exact HO_16.out⟩, ⟨by (with_reducible repeat (first | apply Kd.R_alloc | apply Kd.R_drewN | apply Kd.R_drew)); exact HO384.out⟩, ⟨by repeat (first | (with_reducible first | exact HB.out | apply below_alloc | apply pw_below_drewN | apply below_drew1) | exact HB.out)⟩⟩
             case round =>
              clear H'
              try clear c1; try clear c2; try clear p2; try clear c3; try clear p3; try clear q3; try clear hx3; try clear c4
              try clear p5; try clear c6; try clear c7; try clear c8; try clear c9; try clear c18; try clear c19; try clear c21
              try clear c22; try clear c26; try clear c26b0; try clear c26b1; try clear c27; try clear c27b0; try clear c27b1; try clear c28
              try clear c28b0; try clear c28b1; try clear c29; try clear c29b0; try clear c29b1; try clear c29b2; try clear c30; try clear c30b0
              try clear c30b1; try clear c30b2; try clear c37; try clear p37; try clear q37; try clear hx37; try clear c38; try clear c38b0
              try clear p38; try clear q38; try clear hx38; try clear c39; try clear c39b0; try clear c40; try clear c40b0; try clear c41
              try clear c41b0; try clear c43; try clear c43b0; try clear c44; try clear c44b0; try clear hx372_0; try clear hx372_1; try clear hx372_2
              try clear hx372_3; try clear hx373_0; try clear hx373_1; try clear hx373_2; try clear hx373_3; try clear hx378_0; try clear hx378_1; try clear hx378_2
              try clear hx378_3; try clear hx379_0; try clear hx379_1; try clear hx379_2; try clear hx379_3; try clear hx380_0; try clear hx380_1; try clear hx380_2
              try clear hx380_3; try clear hx381_0; try clear hx381_1; try clear hx381_2; try clear hx381_3; try clear p2; try clear p372; try clear p373
              try clear p378; try clear p379; try clear p380; try clear p381; try clear p5; try clear q372; try clear q373; try clear q378
              try clear q379; try clear q380; try clear q381
              obtain ⟨x19_3, x129_3, rfl, rfl, HA, HK3, HO_10, HO_12, HO_14, HO_16, HO_127, HB⟩ := hrel
              cases gk with
              | zero => exact absurd HA.out (by simp [tourkeep5_BonesBlend.l1])
              | succ k3 =>
               have H := HA.out
               clear HA
               simp only [tourkeep5_BonesBlend.l1] at H
               by_cases c53 : x129_3 < (y382.length : Int)
               ·rw [if_pos c53] at H
                have c53b0 : decide (x129_3 < (y382.length : Int)) = true := decide_eq_true c53
                clear c53
                by_cases c54 : 0 ≤ x129_3
                ·rw [if_pos c54] at H
                 have c54b0 : decide (0 ≤ x129_3) = true := decide_eq_true c54
                 clear c54
                 by_cases c55 : x129_3 < (y382.length : Int)
                 ·rw [if_pos c55] at H
                  have c55b0 : decide (x129_3 < (y382.length : Int)) = true := decide_eq_true c55
                  clear c55
                  replace H := Option.bind_eq_some_iff.mp H
                  obtain ⟨t386, A560, H⟩ := H
                  replace H : ((fix_Add.f x19_3 t386).bind fun t387 => (tourkeep5_BonesBlend.l1 k3 t352 t358 t363 t368 x94_2 t387 (t349.length : Int) x94_2 y382 (y382.length : Int) (wrap64 (x129_3 + 1)))) = some r := H
                  have A56 := Aside0.mk A560
                  clear A560
                  replace H := Option.bind_eq_some_iff.mp H
                  obtain ⟨t387, A570, H⟩ := H
                  replace H : (tourkeep5_BonesBlend.l1 k3 t352 t358 t363 t368 x94_2 t387 (t349.length : Int) x94_2 y382 (y382.length : Int) (wrap64 (x129_3 + 1))) = some r := H
                  have A57 := Aside0.mk A570
                  clear A570
                  have H' := Aside0.mk H
                  clear H
                  have p385 : 0 ≤ (x129_3 : Int) := of_decide_eq_true (by first | (with_reducible assumption) | assumption)
                  have q385 : x129_3 < (y382.length : Int) := of_decide_eq_true (by first | (with_reducible assumption) | assumption)
                  obtain ⟨ad385, e385, hx385_0⟩ := Kd.at_int (Kd.R_reads' HO_127.out).2.2 x129_3 p385 q385
                  cases e385
                  replace p385 := eq_true p385
                  replace q385 := eq_true q385
                  go_wp2_with (first | ((with_reducible refine gate_callee (f := 24) rfl ?_); refine goesL_ (some 136) rfl rfl Try.func24 (by kernel_rfl) rfl #[.int .i64 (rd y382 x129_3), .int .i64 (rd y382 x129_3)] rfl (by (try simp only [zm1, zm2, zm3]); first | done | rfl) ?_; (with_reducible refine (fix_Mul.calls k3 (rd y382 x129_3) (rd y382 x129_3) t386 _ A56.out).mono ?_); rintro e w58 ⟨rfl, hb⟩; refine ⟨_, rfl, ?_⟩; have n0_ := Aside0.mk (Kd.R_below (by (with_reducible repeat (first | apply Kd.R_alloc | apply Kd.R_drewN | apply Kd.R_drew)); exact HO_10.out) hb); have n1_ := Aside0.mk (Kd.R_below (by (with_reducible repeat (first | apply Kd.R_alloc | apply Kd.R_drewN | apply Kd.R_drew)); exact HO_12.out) hb); have n2_ := Aside0.mk (Kd.R_below (by (with_reducible repeat (first | apply Kd.R_alloc | apply Kd.R_drewN | apply Kd.R_drew)); exact HO_14.out) hb); have n3_ := Aside0.mk (Kd.R_below (by (with_reducible repeat (first | apply Kd.R_alloc | apply Kd.R_drewN | apply Kd.R_drew)); exact HO_16.out) hb); have n4_ := Aside0.mk (Kd.R_below (by (with_reducible repeat (first | apply Kd.R_alloc | apply Kd.R_drewN | apply Kd.R_drew)); exact HO_127.out) hb); have n5_ := Aside0.mk (below_step (by repeat (first | (with_reducible first | exact HB.out | apply below_alloc | apply pw_below_drewN | apply below_drew1) | exact HB.out)) hb); clear HO_10; clear HO_12; clear HO_14; clear HO_16; clear HO_127; clear HB; have HO_10 := n0_; have HO_12 := n1_; have HO_14 := n2_; have HO_16 := n3_; have HO_127 := n4_; have HB := n5_; clear n0_ n1_ n2_ n3_ n4_ n5_; (try clear hb); (try clear hb2); (try clear hk); (try clear hi)) | ((with_reducible refine gate_callee (f := 23) rfl ?_); refine goesL_ (some 137) rfl rfl Try.func23 (by kernel_rfl) rfl #[.int .i64 x19_3, .int .i64 t386] rfl (by (try simp only [zm1, zm2, zm3]); first | done | rfl) ?_; (with_reducible refine (fix_Add.calls x19_3 t386 t387 _ A57.out).mono ?_); rintro e w59 ⟨rfl, hb⟩; refine ⟨_, rfl, ?_⟩; have n0_ := Aside0.mk (Kd.R_below (by (with_reducible repeat (first | apply Kd.R_alloc | apply Kd.R_drewN | apply Kd.R_drew)); exact HO_10.out) hb); have n1_ := Aside0.mk (Kd.R_below (by (with_reducible repeat (first | apply Kd.R_alloc | apply Kd.R_drewN | apply Kd.R_drew)); exact HO_12.out) hb); have n2_ := Aside0.mk (Kd.R_below (by (with_reducible repeat (first | apply Kd.R_alloc | apply Kd.R_drewN | apply Kd.R_drew)); exact HO_14.out) hb); have n3_ := Aside0.mk (Kd.R_below (by (with_reducible repeat (first | apply Kd.R_alloc | apply Kd.R_drewN | apply Kd.R_drew)); exact HO_16.out) hb); have n4_ := Aside0.mk (Kd.R_below (by (with_reducible repeat (first | apply Kd.R_alloc | apply Kd.R_drewN | apply Kd.R_drew)); exact HO_127.out) hb); have n5_ := Aside0.mk (below_step (by repeat (first | (with_reducible first | exact HB.out | apply below_alloc | apply pw_below_drewN | apply below_drew1) | exact HB.out)) hb); clear HO_10; clear HO_12; clear HO_14; clear HO_16; clear HO_127; clear HB; have HO_10 := n0_; have HO_12 := n1_; have HO_14 := n2_; have HO_16 := n3_; have HO_127 := n4_; have HB := n5_; clear n0_ n1_ n2_ n3_ n4_ n5_; (try clear hb); (try clear hb2); (try clear hk); (try clear hi)))
                  go_roundg k3
                  case measure => have := HJ14.out; have := HK2.out; have := HK3.out; omega
                  case rel => exact ⟨(t387), (wrap64 (x129_3 + 1)), (by first | rfl | (simp; done) | (simp [*]; done)), (by first | rfl | (simp; done) | (simp [*]; done)), H', ⟨by have := HJ14.out; have := HK2.out; have := HK3.out; omega⟩, ⟨by (with_reducible repeat (first | apply Kd.R_alloc | apply Kd.R_drewN | apply Kd.R_drew)); exact HO_10.out⟩, ⟨by (with_reducible repeat (first | apply Kd.R_alloc | apply Kd.R_drewN | apply Kd.R_drew)); exact HO_12.out⟩, ⟨by (with_reducible repeat (first | apply Kd.R_alloc | apply Kd.R_drewN | apply Kd.R_drew)); exact HO_14.out⟩, ⟨by (with_reducible repeat (first | apply Kd.R_alloc | apply Kd.R_drewN | apply Kd.R_drew)); exact HO_16.out⟩, ⟨by (with_reducible repeat (first | apply Kd.R_alloc | apply Kd.R_drewN | apply Kd.R_drew)); exact HO_127.out⟩, ⟨by repeat (first | (with_reducible first | exact HB.out | apply below_alloc | apply pw_below_drewN | apply below_drew1) | exact HB.out)⟩⟩
                 ·rw [if_neg c55] at H
                  exact absurd H (by simp)
                ·rw [if_neg c54] at H
                 exact absurd H (by simp)
               ·rw [if_neg c53] at H
                have c53b0 : decide (x129_3 < (y382.length : Int)) = false := decide_eq_false c53
                clear c53
                have HC60 := Aside0.mk H
                clear H
                go_upto_region 21 with (fail)
                go_cut [144] (fun v144 wc => ∃ (kq : Nat) (x144_59 : Bool), v144 = .bool x144_59 ∧ Aside0 (tourkeep5_BonesBlend.j3 kq t352 t358 t363 t368 x94_2 (t349.length : Int) x94_2 x144_59 = some r) ∧ Aside0 (kq ≤ k3) ∧ Aside0 (Kd.R k37 37 wc w.heap.size (fun k_ => some k_ ≠ ((.slice (some ad372) t358.length co46) : Value).ownBlock ∧ some k_ ≠ (v365 : Value).ownBlock ∧ some k_ ≠ ((.slice (some ad378) t368.length co49) : Value).ownBlock) (.slice (some ad373) t352.length co21) t352) ∧ Aside0 (Kd.R k37 37 wc w.heap.size (fun k_ => some k_ ≠ ((.slice (some ad373) t352.length co21) : Value).ownBlock ∧ some k_ ≠ (v365 : Value).ownBlock ∧ some k_ ≠ ((.slice (some ad378) t368.length co49) : Value).ownBlock) (.slice (some ad372) t358.length co46) t358) ∧ Aside0 (Kd.R k37 37 wc w.heap.size (fun k_ => some k_ ≠ ((.slice (some ad373) t352.length co21) : Value).ownBlock ∧ some k_ ≠ ((.slice (some ad372) t358.length co46) : Value).ownBlock ∧ some k_ ≠ ((.slice (some ad378) t368.length co49) : Value).ownBlock) v365 t363) ∧ Aside0 (Kd.R k37 37 wc w.heap.size (fun k_ => some k_ ≠ ((.slice (some ad373) t352.length co21) : Value).ownBlock ∧ some k_ ≠ ((.slice (some ad372) t358.length co46) : Value).ownBlock ∧ some k_ ≠ (v365 : Value).ownBlock) (.slice (some ad378) t368.length co49) t368) ∧ Aside0 (Below w.heap.size w wc))
                case first =>
                 have H := HC60.out
                 clear HC60
                 by_cases c61 : x19_3 < 65520
                 ·rw [if_pos c61] at H
                  have c61b0 : decide (x19_3 < 65520) = true := decide_eq_true c61
                  clear c61
                  (first | rw [c61b0] | (simp only [i64_w, i32_w]; rw [c61b0]) | skip)
                  have H' := Aside0.mk H
                  clear H
                  go_wp2
                  go_meet
                  case rel => exact ⟨_, (true), (by first | rfl | (simp; done) | (simp [*]; done)), H', ⟨by have := HJ14.out; have := HK2.out; have := HK3.out; first | omega | exact Nat.le_refl _⟩, ⟨by (with_reducible repeat (first | apply Kd.R_alloc | apply Kd.R_drewN | apply Kd.R_drew)); exact HO_10.out⟩, ⟨by (with_reducible repeat (first | apply Kd.R_alloc | apply Kd.R_drewN | apply Kd.R_drew)); exact HO_12.out⟩, ⟨by (with_reducible repeat (first | apply Kd.R_alloc | apply Kd.R_drewN | apply Kd.R_drew)); exact HO_14.out⟩, ⟨by (with_reducible repeat (first | apply Kd.R_alloc | apply Kd.R_drewN | apply Kd.R_drew)); exact HO_16.out⟩, ⟨by repeat (first | (with_reducible first | exact HB.out | apply below_alloc | apply pw_below_drewN | apply below_drew1) | exact HB.out)⟩⟩
                 ·rw [if_neg c61] at H
                  have c61b0 : decide (x19_3 < 65520) = false := decide_eq_false c61
                  clear c61
                  (first | rw [c61b0] | (simp only [i64_w, i32_w]; rw [c61b0]) | skip)
                  have H' := Aside0.mk H
                  clear H
                  go_wp2
                  go_meet
                  case rel => exact ⟨_, (decide (x19_3 > 65552)), (by first | rfl | (simp; done) | (simp [*]; done)), H', ⟨by have := HJ14.out; have := HK2.out; have := HK3.out; first | omega | exact Nat.le_refl _⟩, ⟨by (with_reducible repeat (first | apply Kd.R_alloc | apply Kd.R_drewN | apply Kd.R_drew)); exact HO_10.out⟩, ⟨by (with_reducible repeat (first | apply Kd.R_alloc | apply Kd.R_drewN | apply Kd.R_drew)); exact HO_12.out⟩, ⟨by (with_reducible repeat (first | apply Kd.R_alloc | apply Kd.R_drewN | apply Kd.R_drew)); exact HO_14.out⟩, ⟨by (with_reducible repeat (first | apply Kd.R_alloc | apply Kd.R_drewN | apply Kd.R_drew)); exact HO_16.out⟩, ⟨by repeat (first | (with_reducible first | exact HB.out | apply below_alloc | apply pw_below_drewN | apply below_drew1) | exact HB.out)⟩⟩
                case rest =>
                 clear HC60
                 try clear c1; try clear c2; try clear p2; try clear c3; try clear p3; try clear q3; try clear hx3; try clear c4
                 try clear c5; try clear p5; try clear c6; try clear p6; try clear c7; try clear c8; try clear c9; try clear c18
                 try clear c19; try clear c21; try clear c22; try clear c23; try clear c24; try clear c26; try clear c26b0; try clear c26b1
                 try clear c27; try clear c27b0; try clear c27b1; try clear c28; try clear c28b0; try clear c28b1; try clear c29; try clear c29b0
                 try clear c29b1; try clear c29b2; try clear c30; try clear c30b0; try clear c30b1; try clear c30b2; try clear c37; try clear p37
                 try clear q37; try clear hx37; try clear c38; try clear c38b0; try clear p38; try clear q38; try clear hx38; try clear c39
                 try clear c39b0; try clear c40; try clear c40b0; try clear c41; try clear c41b0; try clear c43; try clear c43b0; try clear c44
                 try clear c44b0; try clear c53; try clear c53b0; try clear c54; try clear c54b0; try clear c55; try clear c55b0; try clear c61
                 try clear c61b0; try clear hx372_0; try clear hx372_1; try clear hx372_2; try clear hx372_3; try clear hx373_0; try clear hx373_1; try clear hx373_2
                 try clear hx373_3; try clear hx378_0; try clear hx378_1; try clear hx378_2; try clear hx378_3; try clear hx379_0; try clear hx379_1; try clear hx379_2
                 try clear hx379_3; try clear hx380_0; try clear hx380_1; try clear hx380_2; try clear hx380_3; try clear hx381_0; try clear hx381_1; try clear hx381_2
                 try clear hx381_3; try clear hx385_0; try clear p2; try clear p3; try clear p37; try clear p372; try clear p373; try clear p378
                 try clear p379; try clear p38; try clear p380; try clear p381; try clear p385; try clear p5; try clear q3; try clear q37
                 try clear q372; try clear q373; try clear q378; try clear q379; try clear q38; try clear q380; try clear q381; try clear q385
                 obtain ⟨kq, x144_59, rfl, HA, HJ59, HO_10, HO_12, HO_14, HO_16, HB⟩ := hcut
                 cases kq with
                 | zero => exact absurd HA.out (by simp [tourkeep5_BonesBlend.j3])
                 | succ kj59 =>
                  have H := HA.out
                  clear HA
                  simp only [tourkeep5_BonesBlend.j3] at H
                  by_cases c62 : x144_59 = true
                  ·subst c62
                   have H1 : (none) = some r := by rw [if_pos rfl] at H; exact H
                   clear H
                   have H := H1
                   clear H1
                   exact absurd H (by simp)
                  ·replace c62 := Bool.eq_false_iff.mpr c62
                   subst c62
                   have H1 : (if 0 ≤ x94_2 then (if x94_2 < (t363.length : Int) then (if x94_2 < (t358.length : Int) then ((some (([wrap64 (((rd_T37 t363 x94_2).f0) - ((rd_T37 t358 x94_2).f0)), wrap64 (((rd_T37 t363 x94_2).f1) - ((rd_T37 t358 x94_2).f1)), wrap64 (((rd_T37 t363 x94_2).f2) - ((rd_T37 t358 x94_2).f2)), wrap64 (((rd_T37 t363 x94_2).f3) - ((rd_T37 t358 x94_2).f3))] : List Int) : List Int)).bind fun y396 => (tourkeep5_BonesBlend.l2 kj59 t352 t358 t363 t368 (t349.length : Int) x94_2 y396 (y396.length : Int) 0)) else (none)) else (none)) else (none)) = some r := by rw [if_neg (show ¬ (false = true) by decide)] at H; exact H
                   clear H
                   have H := H1
                   clear H1
                   by_cases c63 : 0 ≤ x94_2
                   ·rw [if_pos c63] at H
                    have c63b0 : decide (0 ≤ x94_2) = true := decide_eq_true c63
                    clear c63
                    by_cases c64 : x94_2 < (t363.length : Int)
                    ·rw [if_pos c64] at H
                     have c64b0 : decide (x94_2 < (t363.length : Int)) = true := decide_eq_true c64
                     clear c64
                     by_cases c65 : x94_2 < (t358.length : Int)
                     ·rw [if_pos c65] at H
                      have c65b0 : decide (x94_2 < (t358.length : Int)) = true := decide_eq_true c65
                      clear c65
                      obtain ⟨y396, hy396⟩ : ∃ y_ : List Int, y_ = (([wrap64 (((rd_T37 t363 x94_2).f0) - ((rd_T37 t358 x94_2).f0)), wrap64 (((rd_T37 t363 x94_2).f1) - ((rd_T37 t358 x94_2).f1)), wrap64 (((rd_T37 t363 x94_2).f2) - ((rd_T37 t358 x94_2).f2)), wrap64 (((rd_T37 t363 x94_2).f3) - ((rd_T37 t358 x94_2).f3))] : List Int)) := ⟨_, rfl⟩
                      replace H : (tourkeep5_BonesBlend.l2 kj59 t352 t358 t363 t368 (t349.length : Int) x94_2 y396 (y396.length : Int) 0) = some r := by first | (rw [hy396]; with_reducible exact H) | (have H2_ := (Option.bind_some _ _).symm.trans H; rw [hy396]; with_reducible exact H2_) | (have H2_ := (Option.bind_some _ _).symm.trans H; with_reducible exact H2_) | with_reducible exact H | (rw [hy396]; exact H) | exact H
                      have Ny396 := Aside0.mk hy396
                      clear hy396
                      have H' := Aside0.mk H
                      clear H
                      try go_wp2
                      have n0_ := Aside0.mk (Kd.R_drew HO_10.out)
                      have n1_ := Aside0.mk (Kd.R_drew HO_12.out)
                      have n2_ := Aside0.mk (Kd.R_drew HO_14.out)
                      have n3_ := Aside0.mk (Kd.R_drew HO_16.out)
                      have n4_ := Aside0.mk (below_drew1 HB.out)
                      clear HO_10
                      clear HO_12
                      clear HO_14
                      clear HO_16
                      clear HB
                      have HO_10 := n0_
                      have HO_12 := n1_
                      have HO_14 := n2_
                      have HO_16 := n3_
                      have HB := n4_
                      clear n0_ n1_ n2_ n3_ n4_
                      obtain ⟨Ao67, co67, eo67⟩ := Kd.R_slice HO_14.out
                      (first | subst eo67 | (injection eo67 with f1_ f2_ f3_; have f4_ := f1_.symm; have f5_ := f3_.symm; clear f1_ f2_ f3_; subst f4_; subst f5_))
                      have p388 : 0 ≤ (x94_2 : Int) := of_decide_eq_true (by first | (with_reducible assumption) | assumption)
                      have q388 : x94_2 < (t363.length : Int) := of_decide_eq_true (by first | (with_reducible assumption) | assumption)
                      obtain ⟨ad388, e388, hx388_0, hx388_1, hx388_2, hx388_3⟩ := at_T37 (Kd.R_reads' HO_14.out).2.2 x94_2 p388 q388
                      cases e388
                      replace p388 := eq_true p388
                      replace q388 := eq_true q388
                      have p389 : 0 ≤ (x94_2 : Int) := of_decide_eq_true (by first | (with_reducible assumption) | assumption)
                      have q389 : x94_2 < (t358.length : Int) := of_decide_eq_true (by first | (with_reducible assumption) | assumption)
                      obtain ⟨ad389, e389, hx389_0, hx389_1, hx389_2, hx389_3⟩ := at_T37 (Kd.R_reads' HO_12.out).2.2 x94_2 p389 q389
                      obtain rfl : ad372 = ad389 := (by injection e389)
                      replace p389 := eq_true p389
                      replace q389 := eq_true q389
                      have p390 : 0 ≤ (x94_2 : Int) := of_decide_eq_true (by first | (with_reducible assumption) | assumption)
                      have q390 : x94_2 < (t363.length : Int) := of_decide_eq_true (by first | (with_reducible assumption) | assumption)
                      obtain ⟨ad390, e390, hx390_0, hx390_1, hx390_2, hx390_3⟩ := at_T37 (Kd.R_reads' HO_14.out).2.2 x94_2 p390 q390
                      obtain rfl : ad388 = ad390 := (by injection e390)
                      replace p390 := eq_true p390
                      replace q390 := eq_true q390
                      have p391 : 0 ≤ (x94_2 : Int) := of_decide_eq_true (by first | (with_reducible assumption) | assumption)
                      have q391 : x94_2 < (t358.length : Int) := of_decide_eq_true (by first | (with_reducible assumption) | assumption)
                      obtain ⟨ad391, e391, hx391_0, hx391_1, hx391_2, hx391_3⟩ := at_T37 (Kd.R_reads' HO_12.out).2.2 x94_2 p391 q391
                      obtain rfl : ad372 = ad391 := (by injection e391)
                      replace p391 := eq_true p391
                      replace q391 := eq_true q391
                      have p392 : 0 ≤ (x94_2 : Int) := of_decide_eq_true (by first | (with_reducible assumption) | assumption)
                      have q392 : x94_2 < (t363.length : Int) := of_decide_eq_true (by first | (with_reducible assumption) | assumption)
                      obtain ⟨ad392, e392, hx392_0, hx392_1, hx392_2, hx392_3⟩ := at_T37 (Kd.R_reads' HO_14.out).2.2 x94_2 p392 q392
                      obtain rfl : ad388 = ad392 := (by injection e392)
                      replace p392 := eq_true p392
                      replace q392 := eq_true q392
                      have p393 : 0 ≤ (x94_2 : Int) := of_decide_eq_true (by first | (with_reducible assumption) | assumption)
                      have q393 : x94_2 < (t358.length : Int) := of_decide_eq_true (by first | (with_reducible assumption) | assumption)
                      obtain ⟨ad393, e393, hx393_0, hx393_1, hx393_2, hx393_3⟩ := at_T37 (Kd.R_reads' HO_12.out).2.2 x94_2 p393 q393
                      obtain rfl : ad372 = ad393 := (by injection e393)
                      replace p393 := eq_true p393
                      replace q393 := eq_true q393
                      have p394 : 0 ≤ (x94_2 : Int) := of_decide_eq_true (by first | (with_reducible assumption) | assumption)
                      have q394 : x94_2 < (t363.length : Int) := of_decide_eq_true (by first | (with_reducible assumption) | assumption)
                      obtain ⟨ad394, e394, hx394_0, hx394_1, hx394_2, hx394_3⟩ := at_T37 (Kd.R_reads' HO_14.out).2.2 x94_2 p394 q394
                      obtain rfl : ad388 = ad394 := (by injection e394)
                      replace p394 := eq_true p394
                      replace q394 := eq_true q394
                      have p395 : 0 ≤ (x94_2 : Int) := of_decide_eq_true (by first | (with_reducible assumption) | assumption)
                      have q395 : x94_2 < (t358.length : Int) := of_decide_eq_true (by first | (with_reducible assumption) | assumption)
                      obtain ⟨ad395, e395, hx395_0, hx395_1, hx395_2, hx395_3⟩ := at_T37 (Kd.R_reads' HO_12.out).2.2 x94_2 p395 q395
                      obtain rfl : ad372 = ad395 := (by injection e395)
                      replace p395 := eq_true p395
                      replace q395 := eq_true q395
                      refine start_ (n := 47) (S := fun w' => w'.cell? (ad388.add ((x94_2).toNat * 4)) = some (.int .i64 ((rd_T37 t363 x94_2).f0)) ∧ w'.cell? ⟨(ad388.add ((x94_2).toNat * 4)).block, (ad388.add ((x94_2).toNat * 4)).off + 1, none⟩ = some (.int .i64 ((rd_T37 t363 x94_2).f1)) ∧ w'.cell? ⟨(ad388.add ((x94_2).toNat * 4)).block, (ad388.add ((x94_2).toNat * 4)).off + 2, none⟩ = some (.int .i64 ((rd_T37 t363 x94_2).f2)) ∧ w'.cell? ⟨(ad388.add ((x94_2).toNat * 4)).block, (ad388.add ((x94_2).toNat * 4)).off + 3, none⟩ = some (.int .i64 ((rd_T37 t363 x94_2).f3)) ∧ w'.cell? (ad372.add ((x94_2).toNat * 4)) = some (.int .i64 ((rd_T37 t358 x94_2).f0)) ∧ w'.cell? ⟨(ad372.add ((x94_2).toNat * 4)).block, (ad372.add ((x94_2).toNat * 4)).off + 1, none⟩ = some (.int .i64 ((rd_T37 t358 x94_2).f1)) ∧ w'.cell? ⟨(ad372.add ((x94_2).toNat * 4)).block, (ad372.add ((x94_2).toNat * 4)).off + 2, none⟩ = some (.int .i64 ((rd_T37 t358 x94_2).f2)) ∧ w'.cell? ⟨(ad372.add ((x94_2).toNat * 4)).block, (ad372.add ((x94_2).toNat * 4)).off + 3, none⟩ = some (.int .i64 ((rd_T37 t358 x94_2).f3)) ∧ w'.cell? (ad388.add ((x94_2).toNat * 4)) = some (.int .i64 ((rd_T37 t363 x94_2).f0)) ∧ w'.cell? ⟨(ad388.add ((x94_2).toNat * 4)).block, (ad388.add ((x94_2).toNat * 4)).off + 1, none⟩ = some (.int .i64 ((rd_T37 t363 x94_2).f1)) ∧ w'.cell? ⟨(ad388.add ((x94_2).toNat * 4)).block, (ad388.add ((x94_2).toNat * 4)).off + 2, none⟩ = some (.int .i64 ((rd_T37 t363 x94_2).f2)) ∧ w'.cell? ⟨(ad388.add ((x94_2).toNat * 4)).block, (ad388.add ((x94_2).toNat * 4)).off + 3, none⟩ = some (.int .i64 ((rd_T37 t363 x94_2).f3)) ∧ w'.cell? (ad372.add ((x94_2).toNat * 4)) = some (.int .i64 ((rd_T37 t358 x94_2).f0)) ∧ w'.cell? ⟨(ad372.add ((x94_2).toNat * 4)).block, (ad372.add ((x94_2).toNat * 4)).off + 1, none⟩ = some (.int .i64 ((rd_T37 t358 x94_2).f1)) ∧ w'.cell? ⟨(ad372.add ((x94_2).toNat * 4)).block, (ad372.add ((x94_2).toNat * 4)).off + 2, none⟩ = some (.int .i64 ((rd_T37 t358 x94_2).f2)) ∧ w'.cell? ⟨(ad372.add ((x94_2).toNat * 4)).block, (ad372.add ((x94_2).toNat * 4)).off + 3, none⟩ = some (.int .i64 ((rd_T37 t358 x94_2).f3)) ∧ w'.cell? (ad388.add ((x94_2).toNat * 4)) = some (.int .i64 ((rd_T37 t363 x94_2).f0)) ∧ w'.cell? ⟨(ad388.add ((x94_2).toNat * 4)).block, (ad388.add ((x94_2).toNat * 4)).off + 1, none⟩ = some (.int .i64 ((rd_T37 t363 x94_2).f1)) ∧ w'.cell? ⟨(ad388.add ((x94_2).toNat * 4)).block, (ad388.add ((x94_2).toNat * 4)).off + 2, none⟩ = some (.int .i64 ((rd_T37 t363 x94_2).f2)) ∧ w'.cell? ⟨(ad388.add ((x94_2).toNat * 4)).block, (ad388.add ((x94_2).toNat * 4)).off + 3, none⟩ = some (.int .i64 ((rd_T37 t363 x94_2).f3)) ∧ w'.cell? (ad372.add ((x94_2).toNat * 4)) = some (.int .i64 ((rd_T37 t358 x94_2).f0)) ∧ w'.cell? ⟨(ad372.add ((x94_2).toNat * 4)).block, (ad372.add ((x94_2).toNat * 4)).off + 1, none⟩ = some (.int .i64 ((rd_T37 t358 x94_2).f1)) ∧ w'.cell? ⟨(ad372.add ((x94_2).toNat * 4)).block, (ad372.add ((x94_2).toNat * 4)).off + 2, none⟩ = some (.int .i64 ((rd_T37 t358 x94_2).f2)) ∧ w'.cell? ⟨(ad372.add ((x94_2).toNat * 4)).block, (ad372.add ((x94_2).toNat * 4)).off + 3, none⟩ = some (.int .i64 ((rd_T37 t358 x94_2).f3)) ∧ w'.cell? (ad388.add ((x94_2).toNat * 4)) = some (.int .i64 ((rd_T37 t363 x94_2).f0)) ∧ w'.cell? ⟨(ad388.add ((x94_2).toNat * 4)).block, (ad388.add ((x94_2).toNat * 4)).off + 1, none⟩ = some (.int .i64 ((rd_T37 t363 x94_2).f1)) ∧ w'.cell? ⟨(ad388.add ((x94_2).toNat * 4)).block, (ad388.add ((x94_2).toNat * 4)).off + 2, none⟩ = some (.int .i64 ((rd_T37 t363 x94_2).f2)) ∧ w'.cell? ⟨(ad388.add ((x94_2).toNat * 4)).block, (ad388.add ((x94_2).toNat * 4)).off + 3, none⟩ = some (.int .i64 ((rd_T37 t363 x94_2).f3)) ∧ w'.cell? (ad372.add ((x94_2).toNat * 4)) = some (.int .i64 ((rd_T37 t358 x94_2).f0)) ∧ w'.cell? ⟨(ad372.add ((x94_2).toNat * 4)).block, (ad372.add ((x94_2).toNat * 4)).off + 1, none⟩ = some (.int .i64 ((rd_T37 t358 x94_2).f1)) ∧ w'.cell? ⟨(ad372.add ((x94_2).toNat * 4)).block, (ad372.add ((x94_2).toNat * 4)).off + 2, none⟩ = some (.int .i64 ((rd_T37 t358 x94_2).f2)) ∧ w'.cell? ⟨(ad372.add ((x94_2).toNat * 4)).block, (ad372.add ((x94_2).toNat * 4)).off + 3, none⟩ = some (.int .i64 ((rd_T37 t358 x94_2).f3))) (ds := []) (ab 47 0) (by kernel_rfl) rfl rfl ⟨hx388_0, hx388_1, hx388_2, hx388_3, hx389_0, hx389_1, hx389_2, hx389_3, hx390_0, hx390_1, hx390_2, hx390_3, hx391_0, hx391_1, hx391_2, hx391_3, hx392_0, hx392_1, hx392_2, hx392_3, hx393_0, hx393_1, hx393_2, hx393_3, hx394_0, hx394_1, hx394_2, hx394_3, hx395_0, hx395_1, hx395_2, hx395_3⟩ (fun hHeld => ?_); refine with_tabW tourkeep5_BonesBlend.tab23 tourkeep5_BonesBlend.bits23 (fun HT_ HW_ => ?_)
                      generalize wc.drew = w66 at HO_10 HO_12 HO_14 HO_16 HB hx388_0 hx388_1 hx388_2 hx388_3 hx389_0 hx389_1 hx389_2 hx389_3 hx390_0 hx390_1 hx390_2 hx390_3 hx391_0 hx391_1 hx391_2 hx391_3 hx392_0 hx392_1 hx392_2 hx392_3 hx393_0 hx393_1 hx393_2 hx393_3 hx394_0 hx394_1 hx394_2 hx394_3 hx395_0 hx395_1 hx395_2 hx395_3 hHeld ⊢
                      refine pure_ (i := 0) (N := some 145) (v := ?_) (a' := ?_) (ab 47 1) rfl rfl (any_of HT_.out (by kernel_rfl)) (fun _ _ _ h => h) (Or.inl ⟨by rfl, ?_⟩) ?_ ?_
                      rotate_left
                      ·intro w'
                       go_simp
                       with_reducible rfl
                      rotate_left
                      ·simp only [Act.put, zq1, zq2, zq3, i64_w, i32_w]
                       rfl
                      refine pure_ (i := 1) (N := some 146) (v := ?_) (a' := ?_) (ab 47 3) rfl rfl (any_of HT_.out (by kernel_rfl)) (fun _ _ _ h => h) (Or.inl ⟨by rfl, ?_⟩) ?_ ?_
                      rotate_left
                      ·intro w'
                       go_simp
                       with_reducible rfl
                      rotate_left
                      ·simp only [Act.put, zq1, zq2, zq3, i64_w, i32_w]
                       rfl
                      refine pure_ (i := 2) (N := some 147) (v := ?_) (a' := ?_) (ab 47 7) rfl rfl (any_of HT_.out (by kernel_rfl)) (fun _ _ _ h => h) (Or.inl ⟨by rfl, ?_⟩) ?_ ?_
                      rotate_left
                      ·intro w'
                       go_simp
                       with_reducible rfl
                      rotate_left
                      ·simp only [Act.put, zq1, zq2, zq3, i64_w, i32_w]
                       rfl
                      refine pure_ (i := 3) (N := some 148) (v := ?_) (a' := ?_) (ab 47 15) rfl rfl (any_of HT_.out (by kernel_rfl)) (fun _ _ _ h => h) (Or.inl ⟨by rfl, ?_⟩) ?_ ?_
                      rotate_left
                      ·intro w'
                       go_simp
                       with_reducible rfl
                      rotate_left
                      ·simp only [Act.put, zq1, zq2, zq3, i64_w, i32_w]
                       rfl
                      refine pure_ (i := 5) (N := some 150) (v := ?_) (a' := ?_) (ab 47 47) rfl rfl (any_of HT_.out (by kernel_rfl)) (fun _ _ _ h => h) (Or.inl ⟨by rfl, ?_⟩) ?_ ?_
                      rotate_left
                      ·intro w'
                       go_simp
                       with_reducible rfl
                      rotate_left
                      ·simp only [Act.put, zq1, zq2, zq3, i64_w, i32_w]
                       rfl
                      refine pure_ (i := 6) (N := some 151) (v := ?_) (a' := ?_) (ab 47 111) rfl rfl (any_of HT_.out (by kernel_rfl)) (fun _ _ _ h => h) (Or.inl ⟨by rfl, ?_⟩) ?_ ?_
                      rotate_left
                      ·intro w'
                       go_simp
                       with_reducible rfl
                      rotate_left
                      ·simp only [Act.put, zq1, zq2, zq3, i64_w, i32_w]
                       rfl
                      refine pure_ (i := 7) (N := some 152) (v := ?_) (a' := ?_) (ab 47 239) rfl rfl (any_of HT_.out (by kernel_rfl)) (fun _ _ _ h => h) (Or.inl ⟨by rfl, ?_⟩) ?_ ?_
                      rotate_left
                      ·intro w'
                       go_simp
                       with_reducible rfl
                      rotate_left
                      ·simp only [Act.put, zq1, zq2, zq3, i64_w, i32_w]
                       rfl
                      refine pure_ (i := 8) (N := some 153) (v := ?_) (a' := ?_) (ab 47 495) rfl rfl (any_of HT_.out (by kernel_rfl)) (fun _ _ _ h => h) (Or.inl ⟨by rfl, ?_⟩) ?_ ?_
                      rotate_left
                      ·intro w'
                       go_simp
                       with_reducible rfl
                      rotate_left
                      ·simp only [Act.put, zq1, zq2, zq3, i64_w, i32_w]
                       rfl
                      refine pure_ (i := 11) (N := some 156) (v := ?_) (a' := ?_) (ab 47 2543) rfl rfl (any_of HT_.out (by kernel_rfl)) (fun _ _ _ h => h) (Or.inl ⟨by rfl, ?_⟩) ?_ ?_
                      rotate_left
                      ·intro w'
                       go_simp
                       with_reducible rfl
                      rotate_left
                      ·simp only [Act.put, zq1, zq2, zq3, i64_w, i32_w]
                       rfl
                      refine pure_ (i := 12) (N := some 157) (v := ?_) (a' := ?_) (ab 47 6639) rfl rfl (any_of HT_.out (by kernel_rfl)) (fun _ _ _ h => h) (Or.inl ⟨by rfl, ?_⟩) ?_ ?_
                      rotate_left
                      ·intro w'
                       go_simp
                       with_reducible rfl
                      rotate_left
                      ·simp only [Act.put, zq1, zq2, zq3, i64_w, i32_w]
                       rfl
                      refine pure_ (i := 13) (N := some 158) (v := ?_) (a' := ?_) (ab 47 14831) rfl rfl (any_of HT_.out (by kernel_rfl)) (fun _ _ _ h => h) (Or.inl ⟨by rfl, ?_⟩) ?_ ?_
                      rotate_left
                      ·intro w'
                       go_simp
                       with_reducible rfl
                      rotate_left
                      ·simp only [Act.put, zq1, zq2, zq3, i64_w, i32_w]
                       rfl
                      refine pure_ (i := 14) (N := some 159) (v := ?_) (a' := ?_) (ab 47 31215) rfl rfl (any_of HT_.out (by kernel_rfl)) (fun _ _ _ h => h) (Or.inl ⟨by rfl, ?_⟩) ?_ ?_
                      rotate_left
                      ·intro w'
                       go_simp
                       with_reducible rfl
                      rotate_left
                      ·simp only [Act.put, zq1, zq2, zq3, i64_w, i32_w]
                       rfl
                      refine pure_ (i := 16) (N := some 161) (v := ?_) (a' := ?_) (ab 47 96751) rfl rfl (any_of HT_.out (by kernel_rfl)) (fun _ _ _ h => h) (Or.inl ⟨by rfl, ?_⟩) ?_ ?_
                      rotate_left
                      ·intro w'
                       go_simp
                       with_reducible rfl
                      rotate_left
                      ·simp only [Act.put, zq1, zq2, zq3, i64_w, i32_w]
                       rfl
                      refine pure_ (i := 17) (N := some 162) (v := ?_) (a' := ?_) (ab 47 227823) rfl rfl (any_of HT_.out (by kernel_rfl)) (fun _ _ _ h => h) (Or.inl ⟨by rfl, ?_⟩) ?_ ?_
                      rotate_left
                      ·intro w'
                       go_simp
                       with_reducible rfl
                      rotate_left
                      ·simp only [Act.put, zq1, zq2, zq3, i64_w, i32_w]
                       rfl
                      refine pure_ (i := 18) (N := some 163) (v := ?_) (a' := ?_) (ab 47 489967) rfl rfl (any_of HT_.out (by kernel_rfl)) (fun _ _ _ h => h) (Or.inl ⟨by rfl, ?_⟩) ?_ ?_
                      rotate_left
                      ·intro w'
                       go_simp
                       with_reducible rfl
                      rotate_left
                      ·simp only [Act.put, zq1, zq2, zq3, i64_w, i32_w]
                       rfl
                      refine pure_ (i := 19) (N := some 164) (v := ?_) (a' := ?_) (ab 47 1014255) rfl rfl (any_of HT_.out (by kernel_rfl)) (fun _ _ _ h => h) (Or.inl ⟨by rfl, ?_⟩) ?_ ?_
                      rotate_left
                      ·intro w'
                       go_simp
                       with_reducible rfl
                      rotate_left
                      ·simp only [Act.put, zq1, zq2, zq3, i64_w, i32_w]
                       rfl
                      refine pure_ (i := 22) (N := some 167) (v := ?_) (a' := ?_) (ab 47 5208559) rfl rfl (any_of HT_.out (by kernel_rfl)) (fun _ _ _ h => h) (Or.inl ⟨by rfl, ?_⟩) ?_ ?_
                      rotate_left
                      ·intro w'
                       go_simp
                       with_reducible rfl
                      rotate_left
                      ·simp only [Act.put, zq1, zq2, zq3, i64_w, i32_w]
                       rfl
                      refine pure_ (i := 23) (N := some 168) (v := ?_) (a' := ?_) (ab 47 13597167) rfl rfl (any_of HT_.out (by kernel_rfl)) (fun _ _ _ h => h) (Or.inl ⟨by rfl, ?_⟩) ?_ ?_
                      rotate_left
                      ·intro w'
                       go_simp
                       with_reducible rfl
                      rotate_left
                      ·simp only [Act.put, zq1, zq2, zq3, i64_w, i32_w]
                       rfl
                      refine pure_ (i := 24) (N := some 169) (v := ?_) (a' := ?_) (ab 47 30374383) rfl rfl (any_of HT_.out (by kernel_rfl)) (fun _ _ _ h => h) (Or.inl ⟨by rfl, ?_⟩) ?_ ?_
                      rotate_left
                      ·intro w'
                       go_simp
                       with_reducible rfl
                      rotate_left
                      ·simp only [Act.put, zq1, zq2, zq3, i64_w, i32_w]
                       rfl
                      refine pure_ (i := 25) (N := some 170) (v := ?_) (a' := ?_) (ab 47 63928815) rfl rfl (any_of HT_.out (by kernel_rfl)) (fun _ _ _ h => h) (Or.inl ⟨by rfl, ?_⟩) ?_ ?_
                      rotate_left
                      ·intro w'
                       go_simp
                       with_reducible rfl
                      rotate_left
                      ·simp only [Act.put, zq1, zq2, zq3, i64_w, i32_w]
                       rfl
                      refine pure_ (i := 27) (N := some 172) (v := ?_) (a' := ?_) (ab 47 198146543) rfl rfl (any_of HT_.out (by kernel_rfl)) (fun _ _ _ h => h) (Or.inl ⟨by rfl, ?_⟩) ?_ ?_
                      rotate_left
                      ·intro w'
                       go_simp
                       with_reducible rfl
                      rotate_left
                      ·simp only [Act.put, zq1, zq2, zq3, i64_w, i32_w]
                       rfl
                      refine pure_ (i := 28) (N := some 173) (v := ?_) (a' := ?_) (ab 47 466581999) rfl rfl (any_of HT_.out (by kernel_rfl)) (fun _ _ _ h => h) (Or.inl ⟨by rfl, ?_⟩) ?_ ?_
                      rotate_left
                      ·intro w'
                       go_simp
                       with_reducible rfl
                      rotate_left
                      ·simp only [Act.put, zq1, zq2, zq3, i64_w, i32_w]
                       rfl
                      refine pure_ (i := 29) (N := some 174) (v := ?_) (a' := ?_) (ab 47 1003452911) rfl rfl (any_of HT_.out (by kernel_rfl)) (fun _ _ _ h => h) (Or.inl ⟨by rfl, ?_⟩) ?_ ?_
                      rotate_left
                      ·intro w'
                       go_simp
                       with_reducible rfl
                      rotate_left
                      ·simp only [Act.put, zq1, zq2, zq3, i64_w, i32_w]
                       rfl
                      refine pure_ (i := 30) (N := some 175) (v := ?_) (a' := ?_) (ab 47 2077194735) rfl rfl (any_of HT_.out (by kernel_rfl)) (fun _ _ _ h => h) (Or.inl ⟨by rfl, ?_⟩) ?_ ?_
                      rotate_left
                      ·intro w'
                       go_simp
                       with_reducible rfl
                      rotate_left
                      ·simp only [Act.put, zq1, zq2, zq3, i64_w, i32_w]
                       rfl
                      refine pure_ (i := 33) (N := some 178) (v := ?_) (a' := ?_) (ab 47 10667129327) rfl rfl (any_of HT_.out (by kernel_rfl)) (fun _ _ _ h => h) (Or.inl ⟨by rfl, ?_⟩) ?_ ?_
                      rotate_left
                      ·intro w'
                       go_simp
                       with_reducible rfl
                      rotate_left
                      ·simp only [Act.put, zq1, zq2, zq3, i64_w, i32_w]
                       rfl
                      refine pure_ (i := 34) (N := some 179) (v := ?_) (a' := ?_) (ab 47 27846998511) rfl rfl (any_of HT_.out (by kernel_rfl)) (fun _ _ _ h => h) (Or.inl ⟨by rfl, ?_⟩) ?_ ?_
                      rotate_left
                      ·intro w'
                       go_simp
                       with_reducible rfl
                      rotate_left
                      ·simp only [Act.put, zq1, zq2, zq3, i64_w, i32_w]
                       rfl
                      refine pure_ (i := 35) (N := some 180) (v := ?_) (a' := ?_) (ab 47 62206736879) rfl rfl (any_of HT_.out (by kernel_rfl)) (fun _ _ _ h => h) (Or.inl ⟨by rfl, ?_⟩) ?_ ?_
                      rotate_left
                      ·intro w'
                       go_simp
                       with_reducible rfl
                      rotate_left
                      ·simp only [Act.put, zq1, zq2, zq3, i64_w, i32_w]
                       rfl
                      refine pure_ (i := 36) (N := some 181) (v := ?_) (a' := ?_) (ab 47 130926213615) rfl rfl (any_of HT_.out (by kernel_rfl)) (fun _ _ _ h => h) (Or.inl ⟨by rfl, ?_⟩) ?_ ?_
                      rotate_left
                      ·intro w'
                       go_simp
                       with_reducible rfl
                      rotate_left
                      ·simp only [Act.put, zq1, zq2, zq3, i64_w, i32_w]
                       rfl
                      refine pure_ (i := 38) (N := some 183) (v := ?_) (a' := ?_) (ab 47 405804120559) rfl rfl (any_of HT_.out (by kernel_rfl)) (fun _ _ _ h => h) (Or.inl ⟨by rfl, ?_⟩) ?_ ?_
                      rotate_left
                      ·intro w'
                       go_simp
                       with_reducible rfl
                      rotate_left
                      ·simp only [Act.put, zq1, zq2, zq3, i64_w, i32_w]
                       rfl
                      refine pure_ (i := 39) (N := some 184) (v := ?_) (a' := ?_) (ab 47 955559934447) rfl rfl (any_of HT_.out (by kernel_rfl)) (fun _ _ _ h => h) (Or.inl ⟨by rfl, ?_⟩) ?_ ?_
                      rotate_left
                      ·intro w'
                       go_simp
                       with_reducible rfl
                      rotate_left
                      ·simp only [Act.put, zq1, zq2, zq3, i64_w, i32_w]
                       rfl
                      refine pure_ (i := 40) (N := some 185) (v := ?_) (a' := ?_) (ab 47 2055071562223) rfl rfl (any_of HT_.out (by kernel_rfl)) (fun _ _ _ h => h) (Or.inl ⟨by rfl, ?_⟩) ?_ ?_
                      rotate_left
                      ·intro w'
                       go_simp
                       with_reducible rfl
                      rotate_left
                      ·simp only [Act.put, zq1, zq2, zq3, i64_w, i32_w]
                       rfl
                      refine pure_ (i := 41) (N := some 186) (v := ?_) (a' := ?_) (ab 47 4254094817775) rfl rfl (any_of HT_.out (by kernel_rfl)) (fun _ _ _ h => h) (Or.inl ⟨by rfl, ?_⟩) ?_ ?_
                      rotate_left
                      ·intro w'
                       go_simp
                       with_reducible rfl
                      rotate_left
                      ·simp only [Act.put, zq1, zq2, zq3, i64_w, i32_w]
                       rfl
                      refine pure_ (i := 46) (N := some 191) (v := ?_) (a' := ?_) (ab 47 74622838995439) rfl rfl (any_of HT_.out (by kernel_rfl)) (fun _ _ _ h => h) (Or.inl ⟨by rfl, ?_⟩) ?_ ?_
                      rotate_left
                      ·intro w'
                       go_simp
                       with_reducible rfl
                      rotate_left
                      ·simp only [Act.put, zq1, zq2, zq3, i64_w, i32_w]
                       rfl
                      refine take_ (i := 4) (N := some 149) (v := ?_) (a' := ?_) (ab 47 74622838995455) rfl rfl (take_ofW HT_.out HW_.out (by kernel_rfl)) (fun _ _ _ h => h) (Or.inl ⟨by rfl, ?_⟩) hHeld ?_ ?_
                      rotate_left
                      ·rintro w' ⟨s0, s1, s2, s3, s4, s5, s6, s7, s8, s9, s10, s11, s12, s13, s14, s15, s16, s17, s18, s19, s20, s21, s22, s23, s24, s25, s26, s27, s28, s29, s30, s31⟩
                       go_simp
                       with_reducible rfl
                      rotate_left
                      ·simp only [Act.put, zq1, zq2, zq3, i64_w, i32_w]
                       rfl
                      refine take_ (i := 9) (N := some 154) (v := ?_) (a' := ?_) (ab 47 74622838995967) rfl rfl (take_ofW HT_.out HW_.out (by kernel_rfl)) (fun _ _ _ h => h) (Or.inl ⟨by rfl, ?_⟩) hHeld ?_ ?_
                      rotate_left
                      ·rintro w' ⟨s0, s1, s2, s3, s4, s5, s6, s7, s8, s9, s10, s11, s12, s13, s14, s15, s16, s17, s18, s19, s20, s21, s22, s23, s24, s25, s26, s27, s28, s29, s30, s31⟩
                       go_simp
                       with_reducible rfl
                      rotate_left
                      ·simp only [Act.put, zq1, zq2, zq3, i64_w, i32_w]
                       rfl
                      refine pure_ (i := 10) (N := some 155) (v := ?_) (a' := ?_) (ab 47 74622838996991) rfl rfl (any_of HT_.out (by kernel_rfl)) (fun _ _ _ h => h) (Or.inl ⟨by rfl, ?_⟩) ?_ ?_
                      rotate_left
                      ·intro w'
                       go_simp
                       with_reducible rfl
                      rotate_left
                      ·simp only [Act.put, zq1, zq2, zq3, i64_w, i32_w]
                       rfl
                      refine take_ (i := 15) (N := some 160) (v := ?_) (a' := ?_) (ab 47 74622839029759) rfl rfl (take_ofW HT_.out HW_.out (by kernel_rfl)) (fun _ _ _ h => h) (Or.inl ⟨by rfl, ?_⟩) hHeld ?_ ?_
                      rotate_left
                      ·rintro w' ⟨s0, s1, s2, s3, s4, s5, s6, s7, s8, s9, s10, s11, s12, s13, s14, s15, s16, s17, s18, s19, s20, s21, s22, s23, s24, s25, s26, s27, s28, s29, s30, s31⟩
                       go_simp
                       with_reducible rfl
                      rotate_left
                      ·simp only [Act.put, zq1, zq2, zq3, i64_w, i32_w]
                       rfl
                      refine take_ (i := 20) (N := some 165) (v := ?_) (a' := ?_) (ab 47 74622840078335) rfl rfl (take_ofW HT_.out HW_.out (by kernel_rfl)) (fun _ _ _ h => h) (Or.inl ⟨by rfl, ?_⟩) hHeld ?_ ?_
                      rotate_left
                      ·rintro w' ⟨s0, s1, s2, s3, s4, s5, s6, s7, s8, s9, s10, s11, s12, s13, s14, s15, s16, s17, s18, s19, s20, s21, s22, s23, s24, s25, s26, s27, s28, s29, s30, s31⟩
                       go_simp
                       with_reducible rfl
                      rotate_left
                      ·simp only [Act.put, zq1, zq2, zq3, i64_w, i32_w]
                       rfl
                      refine pure_ (i := 21) (N := some 166) (v := ?_) (a' := ?_) (ab 47 74622842175487) rfl rfl (any_of HT_.out (by kernel_rfl)) (fun _ _ _ h => h) (Or.inl ⟨by rfl, ?_⟩) ?_ ?_
                      rotate_left
                      ·intro w'
                       go_simp
                       with_reducible rfl
                      rotate_left
                      ·simp only [Act.put, zq1, zq2, zq3, i64_w, i32_w]
                       rfl
                      refine take_ (i := 26) (N := some 171) (v := ?_) (a' := ?_) (ab 47 74622909284351) rfl rfl (take_ofW HT_.out HW_.out (by kernel_rfl)) (fun _ _ _ h => h) (Or.inl ⟨by rfl, ?_⟩) hHeld ?_ ?_
                      rotate_left
                      ·rintro w' ⟨s0, s1, s2, s3, s4, s5, s6, s7, s8, s9, s10, s11, s12, s13, s14, s15, s16, s17, s18, s19, s20, s21, s22, s23, s24, s25, s26, s27, s28, s29, s30, s31⟩
                       go_simp
                       with_reducible rfl
                      rotate_left
                      ·simp only [Act.put, zq1, zq2, zq3, i64_w, i32_w]
                       rfl
                      refine take_ (i := 31) (N := some 176) (v := ?_) (a' := ?_) (ab 47 74625056767999) rfl rfl (take_ofW HT_.out HW_.out (by kernel_rfl)) (fun _ _ _ h => h) (Or.inl ⟨by rfl, ?_⟩) hHeld ?_ ?_
                      rotate_left
                      ·rintro w' ⟨s0, s1, s2, s3, s4, s5, s6, s7, s8, s9, s10, s11, s12, s13, s14, s15, s16, s17, s18, s19, s20, s21, s22, s23, s24, s25, s26, s27, s28, s29, s30, s31⟩
                       go_simp
                       with_reducible rfl
                      rotate_left
                      ·simp only [Act.put, zq1, zq2, zq3, i64_w, i32_w]
                       rfl
                      refine pure_ (i := 32) (N := some 177) (v := ?_) (a' := ?_) (ab 47 74629351735295) rfl rfl (any_of HT_.out (by kernel_rfl)) (fun _ _ _ h => h) (Or.inl ⟨by rfl, ?_⟩) ?_ ?_
                      rotate_left
                      ·intro w'
                       go_simp
                       with_reducible rfl
                      rotate_left
                      ·simp only [Act.put, zq1, zq2, zq3, i64_w, i32_w]
                       rfl
                      refine take_ (i := 37) (N := some 182) (v := ?_) (a' := ?_) (ab 47 74766790688767) rfl rfl (take_ofW HT_.out HW_.out (by kernel_rfl)) (fun _ _ _ h => h) (Or.inl ⟨by rfl, ?_⟩) hHeld ?_ ?_
                      rotate_left
                      ·rintro w' ⟨s0, s1, s2, s3, s4, s5, s6, s7, s8, s9, s10, s11, s12, s13, s14, s15, s16, s17, s18, s19, s20, s21, s22, s23, s24, s25, s26, s27, s28, s29, s30, s31⟩
                       go_simp
                       with_reducible rfl
                      rotate_left
                      ·simp only [Act.put, zq1, zq2, zq3, i64_w, i32_w]
                       rfl
                      refine take_ (i := 42) (N := some 187) (v := ?_) (a' := ?_) (ab 47 79164837199871) rfl rfl (take_ofW HT_.out HW_.out (by kernel_rfl)) (fun _ _ _ h => h) (Or.inl ⟨by rfl, ?_⟩) hHeld ?_ ?_
                      rotate_left
                      ·rintro w' ⟨s0, s1, s2, s3, s4, s5, s6, s7, s8, s9, s10, s11, s12, s13, s14, s15, s16, s17, s18, s19, s20, s21, s22, s23, s24, s25, s26, s27, s28, s29, s30, s31⟩
                       go_simp
                       with_reducible rfl
                      rotate_left
                      ·simp only [Act.put, zq1, zq2, zq3, i64_w, i32_w]
                       rfl
                      refine pure_ (i := 43) (N := some 188) (v := ?_) (a' := ?_) (ab 47 87960930222079) rfl rfl (any_of HT_.out (by kernel_rfl)) (fun _ _ _ h => h) (Or.inl ⟨by rfl, ?_⟩) ?_ ?_
                      rotate_left
                      ·intro w'
                       go_simp
                       with_reducible rfl
                      rotate_left
                      ·simp only [Act.put, zq1, zq2, zq3, i64_w, i32_w]
                       rfl
                      refine one_ (i := 44) (N := some 189) (ab 47 105553116266495) rfl rfl (one_of HT_.out (by kernel_rfl)) (by decide) (fun K hK => ?_)
                      refine Kd.R_lit_step (Kd.int .i64) _ 3 ?hg (N := 189) ?hd (xs := ([wrap64 (((rd_T37 t363 x94_2).f0) - ((rd_T37 t358 x94_2).f0)), wrap64 (((rd_T37 t363 x94_2).f1) - ((rd_T37 t358 x94_2).f1)), wrap64 (((rd_T37 t363 x94_2).f2) - ((rd_T37 t358 x94_2).f2)), wrap64 (((rd_T37 t363 x94_2).f3) - ((rd_T37 t358 x94_2).f3))] : List Int)) (inner := [.int .i64 (wrap64 (((rd_T37 t363 x94_2).f0) - ((rd_T37 t358 x94_2).f0))), .int .i64 (wrap64 (((rd_T37 t363 x94_2).f1) - ((rd_T37 t358 x94_2).f1))), .int .i64 (wrap64 (((rd_T37 t363 x94_2).f2) - ((rd_T37 t358 x94_2).f2))), .int .i64 (wrap64 (((rd_T37 t363 x94_2).f3) - ((rd_T37 t358 x94_2).f3)))]) (ok := fun _ => True) (okp := fun _ => True) ?hr ?hp (fun _ hk => hk) trivial (Below.refl _ _) (Nat.le_refl _) (by simp) ?_; (case hd => rfl); (case hg => rfl); (case hr => first | (go_simp; done) | (go_simp; rfl)); (case hp => exact (Reps.one (show Kd.M (Kd.int .i64) _ _ _ (wrap64 (((rd_T37 t363 x94_2).f0) - ((rd_T37 t358 x94_2).f0))) [.int .i64 (wrap64 (((rd_T37 t363 x94_2).f0) - ((rd_T37 t358 x94_2).f0)))] from rfl) (Reps.one (show Kd.M (Kd.int .i64) _ _ _ (wrap64 (((rd_T37 t363 x94_2).f1) - ((rd_T37 t358 x94_2).f1))) [.int .i64 (wrap64 (((rd_T37 t363 x94_2).f1) - ((rd_T37 t358 x94_2).f1)))] from rfl) (Reps.one (show Kd.M (Kd.int .i64) _ _ _ (wrap64 (((rd_T37 t363 x94_2).f2) - ((rd_T37 t358 x94_2).f2))) [.int .i64 (wrap64 (((rd_T37 t363 x94_2).f2) - ((rd_T37 t358 x94_2).f2)))] from rfl) (Reps.one (show Kd.M (Kd.int .i64) _ _ _ (wrap64 (((rd_T37 t363 x94_2).f3) - ((rd_T37 t358 x94_2).f3))) [.int .i64 (wrap64 (((rd_T37 t363 x94_2).f3) - ((rd_T37 t358 x94_2).f3)))] from rfl) (Reps.none _ _))))))
                      intro v397 w68 ho69 hb hg_ hnew_
                      have HS0_ := (hb.cell (World.block_lt_of_cell? _ _ (hHeld.1))).trans (hHeld.1)
                      have HS1_ := (hb.cell (World.block_lt_of_cell? _ _ (hHeld.2.1))).trans (hHeld.2.1)
                      have HS2_ := (hb.cell (World.block_lt_of_cell? _ _ (hHeld.2.2.1))).trans (hHeld.2.2.1)
                      have HS3_ := (hb.cell (World.block_lt_of_cell? _ _ (hHeld.2.2.2.1))).trans (hHeld.2.2.2.1)
                      have HS4_ := (hb.cell (World.block_lt_of_cell? _ _ (hHeld.2.2.2.2.1))).trans (hHeld.2.2.2.2.1)
                      have HS5_ := (hb.cell (World.block_lt_of_cell? _ _ (hHeld.2.2.2.2.2.1))).trans (hHeld.2.2.2.2.2.1)
                      have HS6_ := (hb.cell (World.block_lt_of_cell? _ _ (hHeld.2.2.2.2.2.2.1))).trans (hHeld.2.2.2.2.2.2.1)
                      have HS7_ := (hb.cell (World.block_lt_of_cell? _ _ (hHeld.2.2.2.2.2.2.2.1))).trans (hHeld.2.2.2.2.2.2.2.1)
                      have HS8_ := (hb.cell (World.block_lt_of_cell? _ _ (hHeld.2.2.2.2.2.2.2.2.1))).trans (hHeld.2.2.2.2.2.2.2.2.1)
                      have HS9_ := (hb.cell (World.block_lt_of_cell? _ _ (hHeld.2.2.2.2.2.2.2.2.2.1))).trans (hHeld.2.2.2.2.2.2.2.2.2.1)
                      have HS10_ := (hb.cell (World.block_lt_of_cell? _ _ (hHeld.2.2.2.2.2.2.2.2.2.2.1))).trans (hHeld.2.2.2.2.2.2.2.2.2.2.1)
                      have HS11_ := (hb.cell (World.block_lt_of_cell? _ _ (hHeld.2.2.2.2.2.2.2.2.2.2.2.1))).trans (hHeld.2.2.2.2.2.2.2.2.2.2.2.1)
                      have HS12_ := (hb.cell (World.block_lt_of_cell? _ _ (hHeld.2.2.2.2.2.2.2.2.2.2.2.2.1))).trans (hHeld.2.2.2.2.2.2.2.2.2.2.2.2.1)
                      have HS13_ := (hb.cell (World.block_lt_of_cell? _ _ (hHeld.2.2.2.2.2.2.2.2.2.2.2.2.2.1))).trans (hHeld.2.2.2.2.2.2.2.2.2.2.2.2.2.1)
                      have HS14_ := (hb.cell (World.block_lt_of_cell? _ _ (hHeld.2.2.2.2.2.2.2.2.2.2.2.2.2.2.1))).trans (hHeld.2.2.2.2.2.2.2.2.2.2.2.2.2.2.1)
                      have HS15_ := (hb.cell (World.block_lt_of_cell? _ _ (hHeld.2.2.2.2.2.2.2.2.2.2.2.2.2.2.2.1))).trans (hHeld.2.2.2.2.2.2.2.2.2.2.2.2.2.2.2.1)
                      have HS16_ := (hb.cell (World.block_lt_of_cell? _ _ (hHeld.2.2.2.2.2.2.2.2.2.2.2.2.2.2.2.2.1))).trans (hHeld.2.2.2.2.2.2.2.2.2.2.2.2.2.2.2.2.1)
                      have HS17_ := (hb.cell (World.block_lt_of_cell? _ _ (hHeld.2.2.2.2.2.2.2.2.2.2.2.2.2.2.2.2.2.1))).trans (hHeld.2.2.2.2.2.2.2.2.2.2.2.2.2.2.2.2.2.1)
                      have HS18_ := (hb.cell (World.block_lt_of_cell? _ _ (hHeld.2.2.2.2.2.2.2.2.2.2.2.2.2.2.2.2.2.2.1))).trans (hHeld.2.2.2.2.2.2.2.2.2.2.2.2.2.2.2.2.2.2.1)
                      have HS19_ := (hb.cell (World.block_lt_of_cell? _ _ (hHeld.2.2.2.2.2.2.2.2.2.2.2.2.2.2.2.2.2.2.2.1))).trans (hHeld.2.2.2.2.2.2.2.2.2.2.2.2.2.2.2.2.2.2.2.1)
                      have HS20_ := (hb.cell (World.block_lt_of_cell? _ _ (hHeld.2.2.2.2.2.2.2.2.2.2.2.2.2.2.2.2.2.2.2.2.1))).trans (hHeld.2.2.2.2.2.2.2.2.2.2.2.2.2.2.2.2.2.2.2.2.1)
                      have HS21_ := (hb.cell (World.block_lt_of_cell? _ _ (hHeld.2.2.2.2.2.2.2.2.2.2.2.2.2.2.2.2.2.2.2.2.2.1))).trans (hHeld.2.2.2.2.2.2.2.2.2.2.2.2.2.2.2.2.2.2.2.2.2.1)
                      have HS22_ := (hb.cell (World.block_lt_of_cell? _ _ (hHeld.2.2.2.2.2.2.2.2.2.2.2.2.2.2.2.2.2.2.2.2.2.2.1))).trans (hHeld.2.2.2.2.2.2.2.2.2.2.2.2.2.2.2.2.2.2.2.2.2.2.1)
                      have HS23_ := (hb.cell (World.block_lt_of_cell? _ _ (hHeld.2.2.2.2.2.2.2.2.2.2.2.2.2.2.2.2.2.2.2.2.2.2.2.1))).trans (hHeld.2.2.2.2.2.2.2.2.2.2.2.2.2.2.2.2.2.2.2.2.2.2.2.1)
                      have HS24_ := (hb.cell (World.block_lt_of_cell? _ _ (hHeld.2.2.2.2.2.2.2.2.2.2.2.2.2.2.2.2.2.2.2.2.2.2.2.2.1))).trans (hHeld.2.2.2.2.2.2.2.2.2.2.2.2.2.2.2.2.2.2.2.2.2.2.2.2.1)
                      have HS25_ := (hb.cell (World.block_lt_of_cell? _ _ (hHeld.2.2.2.2.2.2.2.2.2.2.2.2.2.2.2.2.2.2.2.2.2.2.2.2.2.1))).trans (hHeld.2.2.2.2.2.2.2.2.2.2.2.2.2.2.2.2.2.2.2.2.2.2.2.2.2.1)
                      have HS26_ := (hb.cell (World.block_lt_of_cell? _ _ (hHeld.2.2.2.2.2.2.2.2.2.2.2.2.2.2.2.2.2.2.2.2.2.2.2.2.2.2.1))).trans (hHeld.2.2.2.2.2.2.2.2.2.2.2.2.2.2.2.2.2.2.2.2.2.2.2.2.2.2.1)
                      have HS27_ := (hb.cell (World.block_lt_of_cell? _ _ (hHeld.2.2.2.2.2.2.2.2.2.2.2.2.2.2.2.2.2.2.2.2.2.2.2.2.2.2.2.1))).trans (hHeld.2.2.2.2.2.2.2.2.2.2.2.2.2.2.2.2.2.2.2.2.2.2.2.2.2.2.2.1)
                      have HS28_ := (hb.cell (World.block_lt_of_cell? _ _ (hHeld.2.2.2.2.2.2.2.2.2.2.2.2.2.2.2.2.2.2.2.2.2.2.2.2.2.2.2.2.1))).trans (hHeld.2.2.2.2.2.2.2.2.2.2.2.2.2.2.2.2.2.2.2.2.2.2.2.2.2.2.2.2.1)
                      have HS29_ := (hb.cell (World.block_lt_of_cell? _ _ (hHeld.2.2.2.2.2.2.2.2.2.2.2.2.2.2.2.2.2.2.2.2.2.2.2.2.2.2.2.2.2.1))).trans (hHeld.2.2.2.2.2.2.2.2.2.2.2.2.2.2.2.2.2.2.2.2.2.2.2.2.2.2.2.2.2.1)
                      have HS30_ := (hb.cell (World.block_lt_of_cell? _ _ (hHeld.2.2.2.2.2.2.2.2.2.2.2.2.2.2.2.2.2.2.2.2.2.2.2.2.2.2.2.2.2.2.1))).trans (hHeld.2.2.2.2.2.2.2.2.2.2.2.2.2.2.2.2.2.2.2.2.2.2.2.2.2.2.2.2.2.2.1)
                      have HS31_ := (hb.cell (World.block_lt_of_cell? _ _ (hHeld.2.2.2.2.2.2.2.2.2.2.2.2.2.2.2.2.2.2.2.2.2.2.2.2.2.2.2.2.2.2.2))).trans (hHeld.2.2.2.2.2.2.2.2.2.2.2.2.2.2.2.2.2.2.2.2.2.2.2.2.2.2.2.2.2.2.2)
                      clear hg_ hnew_
                      (first | rw [← Ny396.out] at ho69 | (simp only [Int.reduceToNat] at ho69; rw [← Ny396.out] at ho69))
                      have n0_ := Aside0.mk (Kd.R_below (by (with_reducible repeat (first | apply Kd.R_alloc | apply Kd.R_drewN | apply Kd.R_drew)); exact HO_10.out) hb)
                      have n1_ := Aside0.mk (Kd.R_below (by (with_reducible repeat (first | apply Kd.R_alloc | apply Kd.R_drewN | apply Kd.R_drew)); exact HO_12.out) hb)
                      have n2_ := Aside0.mk (Kd.R_below (by (with_reducible repeat (first | apply Kd.R_alloc | apply Kd.R_drewN | apply Kd.R_drew)); exact HO_14.out) hb)
                      have n3_ := Aside0.mk (Kd.R_below (by (with_reducible repeat (first | apply Kd.R_alloc | apply Kd.R_drewN | apply Kd.R_drew)); exact HO_16.out) hb)
                      have n4_ := Aside0.mk (Kd.R_lower ho69 (below_size (by repeat (first | (with_reducible first | exact HB.out | apply below_alloc | apply pw_below_drewN | apply below_drew1) | exact HB.out))))
                      have n5_ := Aside0.mk (below_step (by repeat (first | (with_reducible first | exact HB.out | apply below_alloc | apply pw_below_drewN | apply below_drew1) | exact HB.out)) hb)
                      clear HO_10
                      clear HO_12
                      clear HO_14
                      clear HO_16
                      clear HB
                      have HO_10 := n0_
                      have HO_12 := n1_
                      have HO_14 := n2_
                      have HO_16 := n3_
                      have HO398 := n4_
                      have HB := n5_
                      clear n0_ n1_ n2_ n3_ n4_ n5_
                      clear hb ho69
                      obtain ⟨Ao70, co70, eo70⟩ := Kd.R_slice HO398.out
                      (first | subst eo70 | (injection eo70 with f1_ f2_ f3_; have f4_ := f1_.symm; have f5_ := f3_.symm; clear f1_ f2_ f3_; subst f4_; subst f5_))
                      refine hK.out _ _ ⟨HS0_, HS1_, HS2_, HS3_, HS4_, HS5_, HS6_, HS7_, HS8_, HS9_, HS10_, HS11_, HS12_, HS13_, HS14_, HS15_, HS16_, HS17_, HS18_, HS19_, HS20_, HS21_, HS22_, HS23_, HS24_, HS25_, HS26_, HS27_, HS28_, HS29_, HS30_, HS31_⟩ (fun hHeld => ?_)
                      clear hK K
                      refine norm_ (a' := ?_) ?_ ?_
                      rotate_left
                      ·show Act.put _ (some 189) _ = _
                       simp only [Act.put, zq1, zq2, zq3, i64_w, i32_w]
                       rfl
                      refine pure_ (i := 45) (N := some 190) (v := ?_) (a' := ?_) (ab 47 140737488355327) rfl rfl (any_of HT_.out (by kernel_rfl)) (fun _ _ _ h => h) (Or.inl ⟨by rfl, ?_⟩) ?_ ?_
                      rotate_left
                      ·intro w'
                       go_simp
                       with_reducible rfl
                      rotate_left
                      ·simp only [Act.put, zq1, zq2, zq3, i64_w, i32_w]
                       rfl
                      refine done_ (done_of HT_.out (by kernel_rfl)) ?_
                      try go_wp2
                      go_loopg [191] kj59 (fun kq v191 w' => ∃ (x191_5 : Int), v191 = .int .i64 x191_5 ∧ Aside0 (tourkeep5_BonesBlend.l2 kq t352 t358 t363 t368 (t349.length : Int) x94_2 y396 (y396.length : Int) x191_5 = some r) ∧ Aside0 (kq ≤ kj59) ∧ Aside0 (Kd.R k37 37 w' w.heap.size (fun k_ => some k_ ≠ ((.slice (some ad372) t358.length co46) : Value).ownBlock ∧ some k_ ≠ ((.slice (some ad388) t363.length co67) : Value).ownBlock ∧ some k_ ≠ ((.slice (some ad378) t368.length co49) : Value).ownBlock) (.slice (some ad373) t352.length co21) t352) ∧ Aside0 (Kd.R k37 37 w' w.heap.size (fun k_ => some k_ ≠ ((.slice (some ad373) t352.length co21) : Value).ownBlock ∧ some k_ ≠ ((.slice (some ad388) t363.length co67) : Value).ownBlock ∧ some k_ ≠ ((.slice (some ad378) t368.length co49) : Value).ownBlock) (.slice (some ad372) t358.length co46) t358) ∧ Aside0 (Kd.R k37 37 w' w.heap.size (fun k_ => some k_ ≠ ((.slice (some ad373) t352.length co21) : Value).ownBlock ∧ some k_ ≠ ((.slice (some ad372) t358.length co46) : Value).ownBlock ∧ some k_ ≠ ((.slice (some ad378) t368.length co49) : Value).ownBlock) (.slice (some ad388) t363.length co67) t363) ∧ Aside0 (Kd.R k37 37 w' w.heap.size (fun k_ => some k_ ≠ ((.slice (some ad373) t352.length co21) : Value).ownBlock ∧ some k_ ≠ ((.slice (some ad372) t358.length co46) : Value).ownBlock ∧ some k_ ≠ ((.slice (some ad388) t363.length co67) : Value).ownBlock) (.slice (some ad378) t368.length co49) t368) ∧ Aside0 (Kd.R (Kd.int .i64) 3 w' w.heap.size (fun _ => True) (.slice Ao70 y396.length co70) y396) ∧ Aside0 (Below w.heap.size w w'))
                      case atStart => exact ⟨(0), (by first | rfl | (simp; done) | (simp [*]; done)), H', ⟨Nat.le_refl _⟩, ⟨by (with_reducible repeat (first | apply Kd.R_alloc | apply Kd.R_drewN | apply Kd.R_drew)); exact HO_10.out⟩, ⟨by (with_reducible repeat (first | apply Kd.R_alloc | apply Kd.R_drewN | apply Kd.R_drew)); exact HO_12.out⟩, ⟨by (with_reducible repeat (first | apply Kd.R_alloc | apply Kd.R_drewN | apply Kd.R_drew)); exact HO_14.out⟩, ⟨by (with_reducible repeat (first | apply Kd.R_alloc | apply Kd.R_drewN | apply Kd.R_drew)); exact HO_16.out⟩, ⟨by (with_reducible repeat (first | apply Kd.R_alloc | apply Kd.R_drewN | apply Kd.R_drew)); exact HO398.out⟩, ⟨by repeat (first | (with_reducible first | exact HB.out | apply below_alloc | apply pw_below_drewN | apply below_drew1) | exact HB.out)⟩⟩
                      case round =>
                       clear H'
                       try clear p2; try clear p3; try clear q3; try clear hx3; try clear c5; try clear p5; try clear c6; try clear p6
                       try clear p37; try clear q37; try clear hx37; try clear p38; try clear q38; try clear hx38; try clear p39; try clear q39
                       try clear hx39; try clear c53; try clear c53b0; try clear c54; try clear c54b0; try clear c55; try clear c55b0; try clear c61
                       try clear c61b0; try clear c62; try clear c63; try clear c63b0; try clear c64; try clear c64b0; try clear p64; try clear c65
                       try clear c65b0; try clear hx372_0; try clear hx372_1; try clear hx372_2; try clear hx372_3; try clear hx373_0; try clear hx373_1; try clear hx373_2
                       try clear hx373_3; try clear hx378_0; try clear hx378_1; try clear hx378_2; try clear hx378_3; try clear hx379_0; try clear hx379_1; try clear hx379_2
                       try clear hx379_3; try clear hx380_0; try clear hx380_1; try clear hx380_2; try clear hx380_3; try clear hx381_0; try clear hx381_1; try clear hx381_2
                       try clear hx381_3; try clear hx385_0; try clear hx388_0; try clear hx388_1; try clear hx388_2; try clear hx388_3; try clear hx389_0; try clear hx389_1
                       try clear hx389_2; try clear hx389_3; try clear hx390_0; try clear hx390_1; try clear hx390_2; try clear hx390_3; try clear hx391_0; try clear hx391_1
                       try clear hx391_2; try clear hx391_3; try clear hx392_0; try clear hx392_1; try clear hx392_2; try clear hx392_3; try clear hx393_0; try clear hx393_1
                       try clear hx393_2; try clear hx393_3; try clear hx394_0; try clear hx394_1; try clear hx394_2; try clear hx394_3; try clear hx395_0; try clear hx395_1
                       try clear hx395_2; try clear hx395_3; try clear p2; try clear p3; try clear p37; try clear p372; try clear p373; try clear p378
                       try clear p379; try clear p38; try clear p380; try clear p381; try clear p385; try clear p388; try clear p389; try clear p390
                       try clear p391; try clear p392; try clear p393; try clear p394; try clear p395; try clear p5; try clear q3; try clear q37
                       try clear q372; try clear q373; try clear q378; try clear q379; try clear q38; try clear q380; try clear q381; try clear q385
                       try clear q388; try clear q389; try clear q390; try clear q391; try clear q392; try clear q393; try clear q394; try clear q395
                       obtain ⟨x191_5, rfl, HA, HK5, HO_10, HO_12, HO_14, HO_16, HO_189, HB⟩ := hrel
                       cases gk with
                       | zero => exact absurd HA.out (by simp [tourkeep5_BonesBlend.l2])
                       | succ k5 =>
                        have H := HA.out
                        clear HA
                        simp only [tourkeep5_BonesBlend.l2] at H
                        by_cases c71 : x191_5 < (y396.length : Int)
                        ·rw [if_pos c71] at H
                         have c71b0 : decide (x191_5 < (y396.length : Int)) = true := decide_eq_true c71
                         clear c71
                         by_cases c72 : 0 ≤ x191_5
                         ·rw [if_pos c72] at H
                          have c72b0 : decide (0 ≤ x191_5) = true := decide_eq_true c72
                          clear c72
                          by_cases c73 : x191_5 < (y396.length : Int)
                          ·rw [if_pos c73] at H
                           have c73b0 : decide (x191_5 < (y396.length : Int)) = true := decide_eq_true c73
                           clear c73
                           by_cases c74 : (rd y396 x191_5) > 4
                           ·rw [if_pos c74] at H
                            exact absurd H (by simp)
                           ·rw [if_neg c74] at H
                            have c74b0 : decide (4 < (rd y396 x191_5)) = false := decide_eq_false c74
                            clear c74
                            by_cases c75 : (rd y396 x191_5) < (-4)
                            ·rw [if_pos c75] at H
                             exact absurd H (by simp)
                            ·rw [if_neg c75] at H
                             have c75b0 : decide ((rd y396 x191_5) < (-4)) = false := decide_eq_false c75
                             clear c75
                             by_cases c76 : x191_5 > 3
                             ·rw [if_pos c76] at H
                              exact absurd H (by simp)
                             ·rw [if_neg c76] at H
                              have c76b0 : decide (3 < x191_5) = false := decide_eq_false c76
                              clear c76
                              have H' := Aside0.mk H
                              clear H
                              have p399 : 0 ≤ (x191_5 : Int) := of_decide_eq_true (by first | (with_reducible assumption) | assumption)
                              have q399 : x191_5 < (y396.length : Int) := of_decide_eq_true (by first | (with_reducible assumption) | assumption)
                              obtain ⟨ad399, e399, hx399_0⟩ := Kd.at_int (Kd.R_reads' HO_189.out).2.2 x191_5 p399 q399
                              cases e399
                              replace p399 := eq_true p399
                              replace q399 := eq_true q399
                              go_wp2
                              go_roundg k5
                              case measure => have := HJ14.out; have := HK2.out; have := HK3.out; have := HJ59.out; have := HK5.out; omega
                              case rel => exact ⟨(wrap64 (x191_5 + 1)), (by first | rfl | (simp; done) | (simp [*]; done)), H', ⟨by have := HJ14.out; have := HK2.out; have := HK3.out; have := HJ59.out; have := HK5.out; omega⟩, ⟨by (with_reducible repeat (first | apply Kd.R_alloc | apply Kd.R_drewN | apply Kd.R_drew)); exact HO_10.out⟩, ⟨by (with_reducible repeat (first | apply Kd.R_alloc | apply Kd.R_drewN | apply Kd.R_drew)); exact HO_12.out⟩, ⟨by (with_reducible repeat (first | apply Kd.R_alloc | apply Kd.R_drewN | apply Kd.R_drew)); exact HO_14.out⟩, ⟨by (with_reducible repeat (first | apply Kd.R_alloc | apply Kd.R_drewN | apply Kd.R_drew)); exact HO_16.out⟩, ⟨by (with_reducible repeat (first | apply Kd.R_alloc | apply Kd.R_drewN | apply Kd.R_drew)); exact HO_189.out⟩, ⟨by repeat (first | (with_reducible first | exact HB.out | apply below_alloc | apply pw_below_drewN | apply below_drew1) | exact HB.out)⟩⟩
                          ·rw [if_neg c73] at H
                           exact absurd H (by simp)
                         ·rw [if_neg c72] at H
                          exact absurd H (by simp)
                        ·rw [if_neg c71] at H
                         have c71b0 : decide (x191_5 < (y396.length : Int)) = false := decide_eq_false c71
                         clear c71
                         have H' := Aside0.mk H
                         clear H
                         go_wp2
                         go_roundg k5
                         case measure => have := HJ14.out; have := HK2.out; have := HK3.out; have := HJ59.out; have := HK5.out; omega
                         case rel => exact ⟨(wrap64 (x94_2 + 1)), (by first | rfl | (simp; done) | (simp [*]; done)), H', ⟨by have := HJ14.out; have := HK2.out; have := HK3.out; have := HJ59.out; have := HK5.out; omega⟩, ⟨by (with_reducible repeat (first | apply Kd.R_alloc | apply Kd.R_drewN | apply Kd.R_drew)); exact HO_10.out⟩, ⟨by (with_reducible repeat (first | apply Kd.R_alloc | apply Kd.R_drewN | apply Kd.R_drew)); exact HO_12.out⟩, ⟨by (with_reducible repeat (first | apply Kd.R_alloc | apply Kd.R_drewN | apply Kd.R_drew)); exact HO_14.out⟩, ⟨by (with_reducible repeat (first | apply Kd.R_alloc | apply Kd.R_drewN | apply Kd.R_drew)); exact HO_16.out⟩, ⟨by repeat (first | (with_reducible first | exact HB.out | apply below_alloc | apply pw_below_drewN | apply below_drew1) | exact HB.out)⟩⟩
                     ·rw [if_neg c65] at H
                      exact absurd H (by simp)
                    ·rw [if_neg c64] at H
                     exact absurd H (by simp)
                   ·rw [if_neg c63] at H
                    exact absurd H (by simp)
            ·rw [if_neg c44] at H
             exact absurd H (by simp)
          ·rw [if_neg c41] at H
           exact absurd H (by simp)
         ·rw [if_neg c40] at H
          exact absurd H (by simp)
        ·rw [if_neg c39] at H
         exact absurd H (by simp)
       ·rw [if_neg c38] at H
        have c38b0 : decide (x94_2 < (t349.length : Int)) = false := decide_eq_false c38
        clear c38
        obtain rfl := Option.some.inj H
        go_wp2
        go_ret
        exact ⟨by first | rfl | (simp [errW_none, errW_some] <;> rfl) | (simp [*, errW_none, errW_some] <;> rfl), by repeat (first | (with_reducible first | exact HB.out | apply below_alloc | apply pw_below_drewN | apply below_drew1) | exact HB.out)⟩
 ·replace c6 := Bool.eq_false_iff.mpr c6
  subst c6
  have H1 : (none) = some r := by rw [if_neg (show ¬ (false = true) by decide)] at H; exact H
  clear H
  have H := H1
  clear H1
  exact absurd H (by simp)

/-- THE ONE PURE STATEMENT of tourkeep5_BonesBlend: yours. -/
def tourkeep5_BonesBlend.Pure : Prop := ∀ (l0 : List Int) (l1 : List Int) (l2 : List Int) (a3 : Int), l0.length ≤ maxLen → l0.length * 8 ≤ 140737488351232 → (∀ x ∈ l0, (Lit.int .i64 x).wf = true) → l1.length ≤ maxLen → l1.length * 8 ≤ 140737488351232 → (∀ x ∈ l1, (Lit.int .i64 x).wf = true) → l2.length ≤ maxLen → l2.length * 8 ≤ 140737488351232 → (∀ x ∈ l2, (Lit.int .i64 x).wf = true) → (Lit.int .i64 a3).wf = true → ∃ k, tourkeep5_BonesBlend.f k l0 l1 l2 a3 = some true
theorem tourkeep5_BonesBlend.walk (P : tourkeep5_BonesBlend.Pure) (a0 : Option Addr) (len0 cap0 : Nat) (z0 : List Int) (a1 : Option Addr) (len1 cap1 : Nat) (z1 : List Int) (a2 : Option Addr) (len2 cap2 : Nat) (z2 : List Int) (a3 : Int) (w : World) (w0 : (a0 = none ∧ len0 = 0 ∧ cap0 = 0 ∧ z0 = []) ∨ ∃ x, a0 = some x ∧ len0 ≤ cap0 ∧ cap0 ≤ maxLen ∧ z0.length = cap0 ∧ (∀ i, i < z0.length → w.cell? (x.add i) = some (.int .i64 (z0.getD i 0))) ∧ ∀ n ∈ z0, (Lit.int .i64 n).wf = true) (y0 : len0 * 8 ≤ 140737488351232) (w1 : (a1 = none ∧ len1 = 0 ∧ cap1 = 0 ∧ z1 = []) ∨ ∃ x, a1 = some x ∧ len1 ≤ cap1 ∧ cap1 ≤ maxLen ∧ z1.length = cap1 ∧ (∀ i, i < z1.length → w.cell? (x.add i) = some (.int .i64 (z1.getD i 0))) ∧ ∀ n ∈ z1, (Lit.int .i64 n).wf = true) (y1 : len1 * 8 ≤ 140737488351232) (w2 : (a2 = none ∧ len2 = 0 ∧ cap2 = 0 ∧ z2 = []) ∨ ∃ x, a2 = some x ∧ len2 ≤ cap2 ∧ cap2 ≤ maxLen ∧ z2.length = cap2 ∧ (∀ i, i < z2.length → w.cell? (x.add i) = some (.int .i64 (z2.getD i 0))) ∧ ∀ n ∈ z2, (Lit.int .i64 n).wf = true) (y2 : len2 * 8 ≤ 140737488351232) (w3 : (Lit.int .i64 a3).wf = true) :
  Calls Try.prog 7 #[.slice a0 len0 cap0, .slice a1 len1 cap1, .slice a2 len2 cap2, .int .i64 a3] w fun e w' => e = .returned (.bool true) ∧ Below w.heap.size w w' := by
 obtain ⟨l0, rfl, hr0, hm0, hw0, hc0⟩ := ReadsInt.ofRowC w0
 obtain ⟨l1, rfl, hr1, hm1, hw1, hc1⟩ := ReadsInt.ofRowC w1
 obtain ⟨l2, rfl, hr2, hm2, hw2, hc2⟩ := ReadsInt.ofRowC w2
 obtain ⟨k, h⟩ := P l0 l1 l2 a3 hm0 y0 hw0 hm1 y1 hw1 hm2 y2 hw2 w3
 refine (tourkeep5_BonesBlend.calls k _ _ l0 _ _ l1 _ _ l2 a3 true w (Kd.C_of_reads (d := (0 : Int)) (h1 := fun _ => rfl) hr0) hc0 (Kd.C_of_reads (d := (0 : Int)) (h1 := fun _ => rfl) hr1) hc1 (Kd.C_of_reads (d := (0 : Int)) (h1 := fun _ => rfl) hr2) hc2 h).mono ?_
 rintro e w' ⟨rfl, hd⟩
 exact ⟨rfl, hd⟩

end Go.Proofs.Ytfallkiaojefnaa.PBonesBlend
