-- Printed by a program: the print with changes of this session (wip/printpatch.py).
import Derived.Test.YtfallkiaojefnaaPBonesPlayx0
import Derived.Test.YtfallkiaojefnaaPBonesPlayx1
import Derived.Test.YtfallkiaojefnaaPBonesPlayx2
import Derived.Test.YtfallkiaojefnaaPBonesPlayx3
import Derived.Test.YtfallkiaojefnaaPBonesPlayx6
import Derived.Test.YtfallkiaojefnaaPBonesPlayx9
import Derived.Test.YtfallkiaojefnaaPBonesPlayx10
namespace Go.Proofs.Ytfallkiaojefnaa.PBonesPlay
open Go.Proofs.Ytfallkiaojefnaa.Fnv Go.Proofs.Ytfallkiaojefnaa.Ary Go.Proofs.Ytfallkiaojefnaa.Ext
open Go.RowKit Go.Proofs.YtfallkiaojefnaaW.PrintWords Go.Proofs.YtfallkiaojefnaaW.PrintLast Go.Proofs.YtfallkiaojefnaaW.PrintMore
attribute [local go_sem] max2_int min2_int max_two min_two max_three min_three max_four min_four   -- for this text's walks alone
set_option linter.unusedVariables false
set_option linter.unusedSimpArgs false

attribute [local go_sem high] eqA37
/-! ### tourlaw5_BonesPlay: function 4 -/
mutual
def tourlaw5_BonesPlay.j0 : Nat → List (S35) → List (S45) → Int → Bool → Option (Bool)
 | 0, _, _, _, _ => none
 | k + 1, x0, x1, x2, x38 => if x38 = true then (none) else (if (x1.length : Int) < 1 then (tourlaw5_BonesPlay.j1 k x0 x1 x2 0 true) else (tourlaw5_BonesPlay.j1 k x0 x1 x2 0 (decide ((x1.length : Int) > 2000))))
def tourlaw5_BonesPlay.j1 : Nat → List (S35) → List (S45) → Int → Int → Bool → Option (Bool)
 | 0, _, _, _, _, _ => none
 | k + 1, x0, x1, x2, x10, x46 => if x46 = true then (tourlaw5_BonesPlay.j2 k x0 x1 x2 2) else (tourlaw5_BonesPlay.j2 k x0 x1 x2 x10)
def tourlaw5_BonesPlay.j2 : Nat → List (S35) → List (S45) → Int → Int → Option (Bool)
 | 0, _, _, _, _ => none
 | k + 1, x0, x1, x2, x10 => tourlaw5_BonesPlay.l0 k x0 x1 x2 x10 (-1) x1 (x1.length : Int) 0
def tourlaw5_BonesPlay.l0 : Nat → List (S35) → List (S45) → Int → Int → Int → List (S45) → Int → Int → Option (Bool)
 | 0, _, _, _, _, _, _, _, _ => none
 | k + 1, x0, x1, x2, x10, x11, x47, x48, x49 => if x49 < x48 then (if 0 ≤ x49 then (if x49 < (x47.length : Int) then (if x10 = 0 then ((tourref5_BonesFault.f k x0 (([(rd_T45 x47 x49).f1] : List (List (S37))))).bind fun t258 => (if t258 = 0 then (if ((rd_T45 x47 x49).f0) ≤ x11 then (tourlaw5_BonesPlay.l0 k x0 x1 x2 9 ((rd_T45 x47 x49).f0) x47 x48 (wrap64 (x49 + 1))) else (if ((rd_T45 x47 x49).f0) > 131072000 then (tourlaw5_BonesPlay.l0 k x0 x1 x2 9 ((rd_T45 x47 x49).f0) x47 x48 (wrap64 (x49 + 1))) else (tourlaw5_BonesPlay.l0 k x0 x1 x2 t258 ((rd_T45 x47 x49).f0) x47 x48 (wrap64 (x49 + 1))))) else (tourlaw5_BonesPlay.l0 k x0 x1 x2 t258 ((rd_T45 x47 x49).f0) x47 x48 (wrap64 (x49 + 1))))) else (tourlaw5_BonesPlay.l0 k x0 x1 x2 x10 x11 x47 x48 (wrap64 (x49 + 1)))) else (none)) else (none)) else ((bones_Play.f k x0 x1 x2).bind fun bt259 => (if x10 = 0 then (tourlaw5_BonesPlay.l1 k x0 x1 x2 bt259.1 bt259.2 0) else (if bt259.2 = x10 then (some ((bt259.1.length : Int) == 0)) else (none))))
def tourlaw5_BonesPlay.j5 : Nat → List (S35) → List (S45) → Int → List (S37) → Int → Int → Option (Bool)
 | 0, _, _, _, _, _, _ => none
 | k + 1, x0, x1, x2, x14, x15, x16 => if 0 ≤ x16 then (if x16 < (x1.length : Int) then (if (wrap64 (x16 + 1)) < (x1.length : Int) then (tourlaw5_BonesPlay.j6 k x0 x1 x2 x14 x15 x16 ((rd_T45 x1 x16).f1) ((rd_T45 x1 x16).f1) 0 (decide (x2 > ((rd_T45 x1 x16).f0)))) else (tourlaw5_BonesPlay.j6 k x0 x1 x2 x14 x15 x16 ((rd_T45 x1 x16).f1) ((rd_T45 x1 x16).f1) 0 false)) else (none)) else (none)
def tourlaw5_BonesPlay.j6 : Nat → List (S35) → List (S45) → Int → List (S37) → Int → Int → List (S37) → List (S37) → Int → Bool → Option (Bool)
 | 0, _, _, _, _, _, _, _, _, _, _ => none
 | k + 1, x0, x1, x2, x14, x15, x16, x17, x18, x19, x133 => if x133 = true then (if 0 ≤ (wrap64 (x16 + 1)) then (if (wrap64 (x16 + 1)) < (x1.length : Int) then (if 0 ≤ x16 then (if x16 < (x1.length : Int) then ((fix_MulDiv.f k (wrap64 (x2 - ((rd_T45 x1 x16).f0))) 65536 (wrap64 (((rd_T45 x1 (wrap64 (x16 + 1))).f0) - ((rd_T45 x1 x16).f0)))).bind fun t271 => (if x15 = 0 then (if (x14.length : Int) = (x0.length : Int) then (tourlaw5_BonesPlay.l2 k x14 x17 ((rd_T45 x1 (wrap64 (x16 + 1))).f1) t271 (x14.length : Int) 0) else (none)) else (none))) else (none)) else (none)) else (none)) else (none)) else (if x15 = 0 then (if (x14.length : Int) = (x0.length : Int) then (tourlaw5_BonesPlay.l1002 k x14 x17 x18 x19 (x14.length : Int) 0) else (none)) else (none))
def tourlaw5_BonesPlay.l2 : Nat → List (S37) → List (S37) → List (S37) → Int → Int → Int → Option (Bool)
 | 0, _, _, _, _, _, _ => none
 | k + 1, x14, x17, x18, x19, x170, x171 => if x171 < x170 then (if 0 ≤ x171 then (if x171 < (x14.length : Int) then (if x171 < (x17.length : Int) then (if x171 < (x18.length : Int) then ((quat_Blend.f k ((rd_T37 x17 x171).f0) ((rd_T37 x17 x171).f1) ((rd_T37 x17 x171).f2) ((rd_T37 x17 x171).f3) ((rd_T37 x18 x171).f0) ((rd_T37 x18 x171).f1) ((rd_T37 x18 x171).f2) ((rd_T37 x18 x171).f3) x19).bind fun bt275 => (if (!(((rd_T37 x14 x171).f0) == bt275.1) || (!(((rd_T37 x14 x171).f1) == bt275.2.1) || (!(((rd_T37 x14 x171).f2) == bt275.2.2.1) || (!(((rd_T37 x14 x171).f3) == bt275.2.2.2))))) = true then (none) else (tourlaw5_BonesPlay.l2 k x14 x17 x18 x19 x170 (wrap64 (x171 + 1))))) else (none)) else (none)) else (none)) else (none)) else (some true)
def tourlaw5_BonesPlay.l1002 : Nat → List (S37) → List (S37) → List (S37) → Int → Int → Int → Option (Bool)
 | 0, _, _, _, _, _, _ => none
 | k + 1, x14, x17, x18, x19, x170, x171 => if x171 < x170 then (if 0 ≤ x171 then (if x171 < (x14.length : Int) then (if x171 < (x17.length : Int) then (if x171 < (x18.length : Int) then ((quat_Blend.f k ((rd_T37 x17 x171).f0) ((rd_T37 x17 x171).f1) ((rd_T37 x17 x171).f2) ((rd_T37 x17 x171).f3) ((rd_T37 x18 x171).f0) ((rd_T37 x18 x171).f1) ((rd_T37 x18 x171).f2) ((rd_T37 x18 x171).f3) x19).bind fun bt282 => (if (!(((rd_T37 x14 x171).f0) == bt282.1) || (!(((rd_T37 x14 x171).f1) == bt282.2.1) || (!(((rd_T37 x14 x171).f2) == bt282.2.2.1) || (!(((rd_T37 x14 x171).f3) == bt282.2.2.2))))) = true then (none) else (tourlaw5_BonesPlay.l1002 k x14 x17 x18 x19 x170 (wrap64 (x171 + 1))))) else (none)) else (none)) else (none)) else (none)) else (some true)
def tourlaw5_BonesPlay.l1 : Nat → List (S35) → List (S45) → Int → List (S37) → Int → Int → Option (Bool)
 | 0, _, _, _, _, _, _ => none
 | k + 1, x0, x1, x2, x14, x15, x16 => if x16 < (wrap64 ((x1.length : Int) - 1)) then (if 0 ≤ (wrap64 (x16 + 1)) then (if (wrap64 (x16 + 1)) < (x1.length : Int) then (if ((rd_T45 x1 (wrap64 (x16 + 1))).f0) ≤ x2 then (tourlaw5_BonesPlay.l1 k x0 x1 x2 x14 x15 (wrap64 (x16 + 1))) else (tourlaw5_BonesPlay.j5 k x0 x1 x2 x14 x15 x16)) else (none)) else (none)) else (tourlaw5_BonesPlay.j5 k x0 x1 x2 x14 x15 x16)
end
def tourlaw5_BonesPlay.f (k : Nat) (l0 : List (S35)) (l1 : List (S45)) (a2 : Int) : Option (Bool) := (some (([(⟨(-1), (⟨0, 0, 0⟩ : S33)⟩ : S35)] : List (S35)) : List (S35))).bind fun y240 => ((bones_Rest.f k y240).bind fun t243 => ((bones_Play.f k y240 (([(⟨0, t243⟩ : S45)] : List (S45))) 5).bind fun bt249 => (if bt249.2 = 0 then (tourlaw5_BonesPlay.j0 k l0 l1 a2 ((bt249.1.length : Int) != 1)) else (tourlaw5_BonesPlay.j0 k l0 l1 a2 true))))
theorem tourlaw5_BonesPlay.mono_l : ∀ k, (∀ y0 y1 y2 y3, LeO (tourlaw5_BonesPlay.j0 k y0 y1 y2 y3) (tourlaw5_BonesPlay.j0 (k + 1) y0 y1 y2 y3)) ∧ (∀ y0 y1 y2 y3 y4, LeO (tourlaw5_BonesPlay.j1 k y0 y1 y2 y3 y4) (tourlaw5_BonesPlay.j1 (k + 1) y0 y1 y2 y3 y4)) ∧ (∀ y0 y1 y2 y3, LeO (tourlaw5_BonesPlay.j2 k y0 y1 y2 y3) (tourlaw5_BonesPlay.j2 (k + 1) y0 y1 y2 y3)) ∧ (∀ y0 y1 y2 y3 y4 y5 y6 y7, LeO (tourlaw5_BonesPlay.l0 k y0 y1 y2 y3 y4 y5 y6 y7) (tourlaw5_BonesPlay.l0 (k + 1) y0 y1 y2 y3 y4 y5 y6 y7)) ∧ (∀ y0 y1 y2 y3 y4 y5, LeO (tourlaw5_BonesPlay.j5 k y0 y1 y2 y3 y4 y5) (tourlaw5_BonesPlay.j5 (k + 1) y0 y1 y2 y3 y4 y5)) ∧ (∀ y0 y1 y2 y3 y4 y5 y6 y7 y8 y9, LeO (tourlaw5_BonesPlay.j6 k y0 y1 y2 y3 y4 y5 y6 y7 y8 y9) (tourlaw5_BonesPlay.j6 (k + 1) y0 y1 y2 y3 y4 y5 y6 y7 y8 y9)) ∧ (∀ y0 y1 y2 y3 y4 y5, LeO (tourlaw5_BonesPlay.l2 k y0 y1 y2 y3 y4 y5) (tourlaw5_BonesPlay.l2 (k + 1) y0 y1 y2 y3 y4 y5)) ∧ (∀ y0 y1 y2 y3 y4 y5, LeO (tourlaw5_BonesPlay.l1002 k y0 y1 y2 y3 y4 y5) (tourlaw5_BonesPlay.l1002 (k + 1) y0 y1 y2 y3 y4 y5)) ∧ (∀ y0 y1 y2 y3 y4 y5, LeO (tourlaw5_BonesPlay.l1 k y0 y1 y2 y3 y4 y5) (tourlaw5_BonesPlay.l1 (k + 1) y0 y1 y2 y3 y4 y5))
 | 0 => ⟨fun _ _ _ _ r h => by simp [tourlaw5_BonesPlay.j0] at h, fun _ _ _ _ _ r h => by simp [tourlaw5_BonesPlay.j1] at h, fun _ _ _ _ r h => by simp [tourlaw5_BonesPlay.j2] at h, fun _ _ _ _ _ _ _ _ r h => by simp [tourlaw5_BonesPlay.l0] at h, fun _ _ _ _ _ _ r h => by simp [tourlaw5_BonesPlay.j5] at h, fun _ _ _ _ _ _ _ _ _ _ r h => by simp [tourlaw5_BonesPlay.j6] at h, fun _ _ _ _ _ _ r h => by simp [tourlaw5_BonesPlay.l2] at h, fun _ _ _ _ _ _ r h => by simp [tourlaw5_BonesPlay.l1002] at h, fun _ _ _ _ _ _ r h => by simp [tourlaw5_BonesPlay.l1] at h⟩
 | k + 1 => by
  obtain ⟨ih0, ih1, ih2, ih3, ih4, ih5, ih6, ih7, ih8⟩ := tourlaw5_BonesPlay.mono_l k
  refine ⟨?_, ?_, ?_, ?_, ?_, ?_, ?_, ?_, ?_⟩
  ·intro y0 y1 y2 y3
   unfold tourlaw5_BonesPlay.j0
   repeat' first
   | (with_reducible exact ih0 _ _ _ _)
   | (with_reducible exact ih1 _ _ _ _ _)
   | (with_reducible exact ih2 _ _ _ _)
   | (with_reducible exact ih3 _ _ _ _ _ _ _ _)
   | (with_reducible exact ih4 _ _ _ _ _ _)
   | (with_reducible exact ih5 _ _ _ _ _ _ _ _ _ _)
   | (with_reducible exact ih6 _ _ _ _ _ _)
   | (with_reducible exact ih7 _ _ _ _ _ _)
   | (with_reducible exact ih8 _ _ _ _ _ _)
   | (with_reducible exact bones_Play.mono _ _ _ _)
   | (with_reducible exact bones_Rest.mono _ _)
   | (with_reducible exact fix_MulDiv.mono _ _ _ _)
   | (with_reducible exact quat_Blend.mono _ _ _ _ _ _ _ _ _ _)
   | (with_reducible exact tourref5_BonesFault.mono _ _ _)
   | (with_reducible exact LeO.refl _)
   | (with_reducible exact LeO.none _)
   | (with_reducible refine LeO.ite ?_ ?_)
   | (with_reducible refine LeO.bind ?_ (fun _ => ?_))
   | exact ih0 _ _ _ _
   | exact ih1 _ _ _ _ _
   | exact ih2 _ _ _ _
   | exact ih3 _ _ _ _ _ _ _ _
   | exact ih4 _ _ _ _ _ _
   | exact ih5 _ _ _ _ _ _ _ _ _ _
   | exact ih6 _ _ _ _ _ _
   | exact ih7 _ _ _ _ _ _
   | exact ih8 _ _ _ _ _ _
   | exact bones_Play.mono _ _ _ _
   | exact bones_Rest.mono _ _
   | exact fix_MulDiv.mono _ _ _ _
   | exact quat_Blend.mono _ _ _ _ _ _ _ _ _ _
   | exact tourref5_BonesFault.mono _ _ _
   | exact LeO.none _
   | refine LeO.ite ?_ ?_
   | refine LeO.bind ?_ (fun _ => ?_)
  ·intro y0 y1 y2 y3 y4
   unfold tourlaw5_BonesPlay.j1
   repeat' first
   | (with_reducible exact ih0 _ _ _ _)
   | (with_reducible exact ih1 _ _ _ _ _)
   | (with_reducible exact ih2 _ _ _ _)
   | (with_reducible exact ih3 _ _ _ _ _ _ _ _)
   | (with_reducible exact ih4 _ _ _ _ _ _)
   | (with_reducible exact ih5 _ _ _ _ _ _ _ _ _ _)
   | (with_reducible exact ih6 _ _ _ _ _ _)
   | (with_reducible exact ih7 _ _ _ _ _ _)
   | (with_reducible exact ih8 _ _ _ _ _ _)
   | (with_reducible exact bones_Play.mono _ _ _ _)
   | (with_reducible exact bones_Rest.mono _ _)
   | (with_reducible exact fix_MulDiv.mono _ _ _ _)
   | (with_reducible exact quat_Blend.mono _ _ _ _ _ _ _ _ _ _)
   | (with_reducible exact tourref5_BonesFault.mono _ _ _)
   | (with_reducible exact LeO.refl _)
   | (with_reducible exact LeO.none _)
   | (with_reducible refine LeO.ite ?_ ?_)
   | (with_reducible refine LeO.bind ?_ (fun _ => ?_))
   | exact ih0 _ _ _ _
   | exact ih1 _ _ _ _ _
   | exact ih2 _ _ _ _
   | exact ih3 _ _ _ _ _ _ _ _
   | exact ih4 _ _ _ _ _ _
   | exact ih5 _ _ _ _ _ _ _ _ _ _
   | exact ih6 _ _ _ _ _ _
   | exact ih7 _ _ _ _ _ _
   | exact ih8 _ _ _ _ _ _
   | exact bones_Play.mono _ _ _ _
   | exact bones_Rest.mono _ _
   | exact fix_MulDiv.mono _ _ _ _
   | exact quat_Blend.mono _ _ _ _ _ _ _ _ _ _
   | exact tourref5_BonesFault.mono _ _ _
   | exact LeO.none _
   | refine LeO.ite ?_ ?_
   | refine LeO.bind ?_ (fun _ => ?_)
  ·intro y0 y1 y2 y3
   unfold tourlaw5_BonesPlay.j2
   repeat' first
   | (with_reducible exact ih0 _ _ _ _)
   | (with_reducible exact ih1 _ _ _ _ _)
   | (with_reducible exact ih2 _ _ _ _)
   | (with_reducible exact ih3 _ _ _ _ _ _ _ _)
   | (with_reducible exact ih4 _ _ _ _ _ _)
   | (with_reducible exact ih5 _ _ _ _ _ _ _ _ _ _)
   | (with_reducible exact ih6 _ _ _ _ _ _)
   | (with_reducible exact ih7 _ _ _ _ _ _)
   | (with_reducible exact ih8 _ _ _ _ _ _)
   | (with_reducible exact bones_Play.mono _ _ _ _)
   | (with_reducible exact bones_Rest.mono _ _)
   | (with_reducible exact fix_MulDiv.mono _ _ _ _)
   | (with_reducible exact quat_Blend.mono _ _ _ _ _ _ _ _ _ _)
   | (with_reducible exact tourref5_BonesFault.mono _ _ _)
   | (with_reducible exact LeO.refl _)
   | (with_reducible exact LeO.none _)
   | (with_reducible refine LeO.ite ?_ ?_)
   | (with_reducible refine LeO.bind ?_ (fun _ => ?_))
   | exact ih0 _ _ _ _
   | exact ih1 _ _ _ _ _
   | exact ih2 _ _ _ _
   | exact ih3 _ _ _ _ _ _ _ _
   | exact ih4 _ _ _ _ _ _
   | exact ih5 _ _ _ _ _ _ _ _ _ _
   | exact ih6 _ _ _ _ _ _
   | exact ih7 _ _ _ _ _ _
   | exact ih8 _ _ _ _ _ _
   | exact bones_Play.mono _ _ _ _
   | exact bones_Rest.mono _ _
   | exact fix_MulDiv.mono _ _ _ _
   | exact quat_Blend.mono _ _ _ _ _ _ _ _ _ _
   | exact tourref5_BonesFault.mono _ _ _
   | exact LeO.none _
   | refine LeO.ite ?_ ?_
   | refine LeO.bind ?_ (fun _ => ?_)
  ·intro y0 y1 y2 y3 y4 y5 y6 y7
   unfold tourlaw5_BonesPlay.l0
   repeat' first
   | (with_reducible exact ih0 _ _ _ _)
   | (with_reducible exact ih1 _ _ _ _ _)
   | (with_reducible exact ih2 _ _ _ _)
   | (with_reducible exact ih3 _ _ _ _ _ _ _ _)
   | (with_reducible exact ih4 _ _ _ _ _ _)
   | (with_reducible exact ih5 _ _ _ _ _ _ _ _ _ _)
   | (with_reducible exact ih6 _ _ _ _ _ _)
   | (with_reducible exact ih7 _ _ _ _ _ _)
   | (with_reducible exact ih8 _ _ _ _ _ _)
   | (with_reducible exact bones_Play.mono _ _ _ _)
   | (with_reducible exact bones_Rest.mono _ _)
   | (with_reducible exact fix_MulDiv.mono _ _ _ _)
   | (with_reducible exact quat_Blend.mono _ _ _ _ _ _ _ _ _ _)
   | (with_reducible exact tourref5_BonesFault.mono _ _ _)
   | (with_reducible exact LeO.refl _)
   | (with_reducible exact LeO.none _)
   | (with_reducible refine LeO.ite ?_ ?_)
   | (with_reducible refine LeO.bind ?_ (fun _ => ?_))
   | exact ih0 _ _ _ _
   | exact ih1 _ _ _ _ _
   | exact ih2 _ _ _ _
   | exact ih3 _ _ _ _ _ _ _ _
   | exact ih4 _ _ _ _ _ _
   | exact ih5 _ _ _ _ _ _ _ _ _ _
   | exact ih6 _ _ _ _ _ _
   | exact ih7 _ _ _ _ _ _
   | exact ih8 _ _ _ _ _ _
   | exact bones_Play.mono _ _ _ _
   | exact bones_Rest.mono _ _
   | exact fix_MulDiv.mono _ _ _ _
   | exact quat_Blend.mono _ _ _ _ _ _ _ _ _ _
   | exact tourref5_BonesFault.mono _ _ _
   | exact LeO.none _
   | refine LeO.ite ?_ ?_
   | refine LeO.bind ?_ (fun _ => ?_)
  ·intro y0 y1 y2 y3 y4 y5
   unfold tourlaw5_BonesPlay.j5
   repeat' first
   | (with_reducible exact ih0 _ _ _ _)
   | (with_reducible exact ih1 _ _ _ _ _)
   | (with_reducible exact ih2 _ _ _ _)
   | (with_reducible exact ih3 _ _ _ _ _ _ _ _)
   | (with_reducible exact ih4 _ _ _ _ _ _)
   | (with_reducible exact ih5 _ _ _ _ _ _ _ _ _ _)
   | (with_reducible exact ih6 _ _ _ _ _ _)
   | (with_reducible exact ih7 _ _ _ _ _ _)
   | (with_reducible exact ih8 _ _ _ _ _ _)
   | (with_reducible exact bones_Play.mono _ _ _ _)
   | (with_reducible exact bones_Rest.mono _ _)
   | (with_reducible exact fix_MulDiv.mono _ _ _ _)
   | (with_reducible exact quat_Blend.mono _ _ _ _ _ _ _ _ _ _)
   | (with_reducible exact tourref5_BonesFault.mono _ _ _)
   | (with_reducible exact LeO.refl _)
   | (with_reducible exact LeO.none _)
   | (with_reducible refine LeO.ite ?_ ?_)
   | (with_reducible refine LeO.bind ?_ (fun _ => ?_))
   | exact ih0 _ _ _ _
   | exact ih1 _ _ _ _ _
   | exact ih2 _ _ _ _
   | exact ih3 _ _ _ _ _ _ _ _
   | exact ih4 _ _ _ _ _ _
   | exact ih5 _ _ _ _ _ _ _ _ _ _
   | exact ih6 _ _ _ _ _ _
   | exact ih7 _ _ _ _ _ _
   | exact ih8 _ _ _ _ _ _
   | exact bones_Play.mono _ _ _ _
   | exact bones_Rest.mono _ _
   | exact fix_MulDiv.mono _ _ _ _
   | exact quat_Blend.mono _ _ _ _ _ _ _ _ _ _
   | exact tourref5_BonesFault.mono _ _ _
   | exact LeO.none _
   | refine LeO.ite ?_ ?_
   | refine LeO.bind ?_ (fun _ => ?_)
  ·intro y0 y1 y2 y3 y4 y5 y6 y7 y8 y9
   unfold tourlaw5_BonesPlay.j6
   repeat' first
   | (with_reducible exact ih0 _ _ _ _)
   | (with_reducible exact ih1 _ _ _ _ _)
   | (with_reducible exact ih2 _ _ _ _)
   | (with_reducible exact ih3 _ _ _ _ _ _ _ _)
   | (with_reducible exact ih4 _ _ _ _ _ _)
   | (with_reducible exact ih5 _ _ _ _ _ _ _ _ _ _)
   | (with_reducible exact ih6 _ _ _ _ _ _)
   | (with_reducible exact ih7 _ _ _ _ _ _)
   | (with_reducible exact ih8 _ _ _ _ _ _)
   | (with_reducible exact bones_Play.mono _ _ _ _)
   | (with_reducible exact bones_Rest.mono _ _)
   | (with_reducible exact fix_MulDiv.mono _ _ _ _)
   | (with_reducible exact quat_Blend.mono _ _ _ _ _ _ _ _ _ _)
   | (with_reducible exact tourref5_BonesFault.mono _ _ _)
   | (with_reducible exact LeO.refl _)
   | (with_reducible exact LeO.none _)
   | (with_reducible refine LeO.ite ?_ ?_)
   | (with_reducible refine LeO.bind ?_ (fun _ => ?_))
   | exact ih0 _ _ _ _
   | exact ih1 _ _ _ _ _
   | exact ih2 _ _ _ _
   | exact ih3 _ _ _ _ _ _ _ _
   | exact ih4 _ _ _ _ _ _
   | exact ih5 _ _ _ _ _ _ _ _ _ _
   | exact ih6 _ _ _ _ _ _
   | exact ih7 _ _ _ _ _ _
   | exact ih8 _ _ _ _ _ _
   | exact bones_Play.mono _ _ _ _
   | exact bones_Rest.mono _ _
   | exact fix_MulDiv.mono _ _ _ _
   | exact quat_Blend.mono _ _ _ _ _ _ _ _ _ _
   | exact tourref5_BonesFault.mono _ _ _
   | exact LeO.none _
   | refine LeO.ite ?_ ?_
   | refine LeO.bind ?_ (fun _ => ?_)
  ·intro y0 y1 y2 y3 y4 y5
   unfold tourlaw5_BonesPlay.l2
   repeat' first
   | (with_reducible exact ih0 _ _ _ _)
   | (with_reducible exact ih1 _ _ _ _ _)
   | (with_reducible exact ih2 _ _ _ _)
   | (with_reducible exact ih3 _ _ _ _ _ _ _ _)
   | (with_reducible exact ih4 _ _ _ _ _ _)
   | (with_reducible exact ih5 _ _ _ _ _ _ _ _ _ _)
   | (with_reducible exact ih6 _ _ _ _ _ _)
   | (with_reducible exact ih7 _ _ _ _ _ _)
   | (with_reducible exact ih8 _ _ _ _ _ _)
   | (with_reducible exact bones_Play.mono _ _ _ _)
   | (with_reducible exact bones_Rest.mono _ _)
   | (with_reducible exact fix_MulDiv.mono _ _ _ _)
   | (with_reducible exact quat_Blend.mono _ _ _ _ _ _ _ _ _ _)
   | (with_reducible exact tourref5_BonesFault.mono _ _ _)
   | (with_reducible exact LeO.refl _)
   | (with_reducible exact LeO.none _)
   | (with_reducible refine LeO.ite ?_ ?_)
   | (with_reducible refine LeO.bind ?_ (fun _ => ?_))
   | exact ih0 _ _ _ _
   | exact ih1 _ _ _ _ _
   | exact ih2 _ _ _ _
   | exact ih3 _ _ _ _ _ _ _ _
   | exact ih4 _ _ _ _ _ _
   | exact ih5 _ _ _ _ _ _ _ _ _ _
   | exact ih6 _ _ _ _ _ _
   | exact ih7 _ _ _ _ _ _
   | exact ih8 _ _ _ _ _ _
   | exact bones_Play.mono _ _ _ _
   | exact bones_Rest.mono _ _
   | exact fix_MulDiv.mono _ _ _ _
   | exact quat_Blend.mono _ _ _ _ _ _ _ _ _ _
   | exact tourref5_BonesFault.mono _ _ _
   | exact LeO.none _
   | refine LeO.ite ?_ ?_
   | refine LeO.bind ?_ (fun _ => ?_)
  ·intro y0 y1 y2 y3 y4 y5
   unfold tourlaw5_BonesPlay.l1002
   repeat' first
   | (with_reducible exact ih0 _ _ _ _)
   | (with_reducible exact ih1 _ _ _ _ _)
   | (with_reducible exact ih2 _ _ _ _)
   | (with_reducible exact ih3 _ _ _ _ _ _ _ _)
   | (with_reducible exact ih4 _ _ _ _ _ _)
   | (with_reducible exact ih5 _ _ _ _ _ _ _ _ _ _)
   | (with_reducible exact ih6 _ _ _ _ _ _)
   | (with_reducible exact ih7 _ _ _ _ _ _)
   | (with_reducible exact ih8 _ _ _ _ _ _)
   | (with_reducible exact bones_Play.mono _ _ _ _)
   | (with_reducible exact bones_Rest.mono _ _)
   | (with_reducible exact fix_MulDiv.mono _ _ _ _)
   | (with_reducible exact quat_Blend.mono _ _ _ _ _ _ _ _ _ _)
   | (with_reducible exact tourref5_BonesFault.mono _ _ _)
   | (with_reducible exact LeO.refl _)
   | (with_reducible exact LeO.none _)
   | (with_reducible refine LeO.ite ?_ ?_)
   | (with_reducible refine LeO.bind ?_ (fun _ => ?_))
   | exact ih0 _ _ _ _
   | exact ih1 _ _ _ _ _
   | exact ih2 _ _ _ _
   | exact ih3 _ _ _ _ _ _ _ _
   | exact ih4 _ _ _ _ _ _
   | exact ih5 _ _ _ _ _ _ _ _ _ _
   | exact ih6 _ _ _ _ _ _
   | exact ih7 _ _ _ _ _ _
   | exact ih8 _ _ _ _ _ _
   | exact bones_Play.mono _ _ _ _
   | exact bones_Rest.mono _ _
   | exact fix_MulDiv.mono _ _ _ _
   | exact quat_Blend.mono _ _ _ _ _ _ _ _ _ _
   | exact tourref5_BonesFault.mono _ _ _
   | exact LeO.none _
   | refine LeO.ite ?_ ?_
   | refine LeO.bind ?_ (fun _ => ?_)
  ·intro y0 y1 y2 y3 y4 y5
   unfold tourlaw5_BonesPlay.l1
   repeat' first
   | (with_reducible exact ih0 _ _ _ _)
   | (with_reducible exact ih1 _ _ _ _ _)
   | (with_reducible exact ih2 _ _ _ _)
   | (with_reducible exact ih3 _ _ _ _ _ _ _ _)
   | (with_reducible exact ih4 _ _ _ _ _ _)
   | (with_reducible exact ih5 _ _ _ _ _ _ _ _ _ _)
   | (with_reducible exact ih6 _ _ _ _ _ _)
   | (with_reducible exact ih7 _ _ _ _ _ _)
   | (with_reducible exact ih8 _ _ _ _ _ _)
   | (with_reducible exact bones_Play.mono _ _ _ _)
   | (with_reducible exact bones_Rest.mono _ _)
   | (with_reducible exact fix_MulDiv.mono _ _ _ _)
   | (with_reducible exact quat_Blend.mono _ _ _ _ _ _ _ _ _ _)
   | (with_reducible exact tourref5_BonesFault.mono _ _ _)
   | (with_reducible exact LeO.refl _)
   | (with_reducible exact LeO.none _)
   | (with_reducible refine LeO.ite ?_ ?_)
   | (with_reducible refine LeO.bind ?_ (fun _ => ?_))
   | exact ih0 _ _ _ _
   | exact ih1 _ _ _ _ _
   | exact ih2 _ _ _ _
   | exact ih3 _ _ _ _ _ _ _ _
   | exact ih4 _ _ _ _ _ _
   | exact ih5 _ _ _ _ _ _ _ _ _ _
   | exact ih6 _ _ _ _ _ _
   | exact ih7 _ _ _ _ _ _
   | exact ih8 _ _ _ _ _ _
   | exact bones_Play.mono _ _ _ _
   | exact bones_Rest.mono _ _
   | exact fix_MulDiv.mono _ _ _ _
   | exact quat_Blend.mono _ _ _ _ _ _ _ _ _ _
   | exact tourref5_BonesFault.mono _ _ _
   | exact LeO.none _
   | refine LeO.ite ?_ ?_
   | refine LeO.bind ?_ (fun _ => ?_)
theorem tourlaw5_BonesPlay.mono : ∀ a0 a1 a2 k, LeO (tourlaw5_BonesPlay.f k a0 a1 a2) (tourlaw5_BonesPlay.f (k + 1) a0 a1 a2) := by
 intro a0 a1 a2 k
 obtain ⟨ih0, ih1, ih2, ih3, ih4, ih5, ih6, ih7, ih8⟩ := tourlaw5_BonesPlay.mono_l k
 unfold tourlaw5_BonesPlay.f
 repeat' first
   | (with_reducible exact ih0 _ _ _ _)
   | (with_reducible exact ih1 _ _ _ _ _)
   | (with_reducible exact ih2 _ _ _ _)
   | (with_reducible exact ih3 _ _ _ _ _ _ _ _)
   | (with_reducible exact ih4 _ _ _ _ _ _)
   | (with_reducible exact ih5 _ _ _ _ _ _ _ _ _ _)
   | (with_reducible exact ih6 _ _ _ _ _ _)
   | (with_reducible exact ih7 _ _ _ _ _ _)
   | (with_reducible exact ih8 _ _ _ _ _ _)
   | (with_reducible exact bones_Play.mono _ _ _ _)
   | (with_reducible exact bones_Rest.mono _ _)
   | (with_reducible exact fix_MulDiv.mono _ _ _ _)
   | (with_reducible exact quat_Blend.mono _ _ _ _ _ _ _ _ _ _)
   | (with_reducible exact tourref5_BonesFault.mono _ _ _)
   | (with_reducible exact LeO.refl _)
   | (with_reducible exact LeO.none _)
   | (with_reducible refine LeO.ite ?_ ?_)
   | (with_reducible refine LeO.bind ?_ (fun _ => ?_))
   | exact ih0 _ _ _ _
   | exact ih1 _ _ _ _ _
   | exact ih2 _ _ _ _
   | exact ih3 _ _ _ _ _ _ _ _
   | exact ih4 _ _ _ _ _ _
   | exact ih5 _ _ _ _ _ _ _ _ _ _
   | exact ih6 _ _ _ _ _ _
   | exact ih7 _ _ _ _ _ _
   | exact ih8 _ _ _ _ _ _
   | exact bones_Play.mono _ _ _ _
   | exact bones_Rest.mono _ _
   | exact fix_MulDiv.mono _ _ _ _
   | exact quat_Blend.mono _ _ _ _ _ _ _ _ _ _
   | exact tourref5_BonesFault.mono _ _ _
   | exact LeO.none _
   | refine LeO.ite ?_ ?_
   | refine LeO.bind ?_ (fun _ => ?_)
def tourlaw5_BonesPlay.T24 : Bool × List (List Nat × List Nat) := (true, [([], []), ([], []), ([0, 1], [0, 1]), ([2], [2]), ([3], [3]), ([], []), ([], []), ([5, 6], [5, 6]), ([7], [7]), ([8], [8]), ([4, 0, 1, 2, 3, 4], [4]), ([9, 10, 0, 1, 2, 3, 4, 5, 6, 7, 8, 9, 10], [9]), ([11, 0, 1, 2, 3, 4, 5, 6, 7, 8, 9, 10, 11], [])])
def tourlaw5_BonesPlay.B24 : List Nat := [0, 0, 3, 7, 15, 0, 0, 96, 224, 480, 31, 2047, 4095]
theorem tourlaw5_BonesPlay.tab24 : rtab .any (opsOf Try.f4 24) = tourlaw5_BonesPlay.T24 := by kernel_rfl
theorem tourlaw5_BonesPlay.bits24 : waitsOk tourlaw5_BonesPlay.T24.2 tourlaw5_BonesPlay.B24 = true := by kernel_rfl
def tourlaw5_BonesPlay.T26 : Bool × List (List Nat × List Nat) := (true, [([], []), ([], []), ([1], [1]), ([0, 2], [0, 2]), ([3], [3]), ([4], [4]), ([], []), ([], []), ([], []), ([7, 8], [7, 8]), ([9], [9]), ([10], [10]), ([6, 11], [6, 11]), ([], []), ([], []), ([14], [14]), ([13, 15], [13, 15]), ([16], [16]), ([17], [17]), ([], []), ([], []), ([19, 20], [19, 20]), ([21], [21]), ([22], [22]), ([18, 23], [18, 23]), ([12, 24], [12, 24]), ([5, 25, 0, 1, 2, 3, 4, 5], [5]), ([25, 26, 0, 1, 2, 3, 4, 5, 6, 7, 8, 9, 10, 11, 12, 13, 14, 15, 16, 17, 18, 19, 20, 21, 22, 23, 24, 25, 26], [25])])
def tourlaw5_BonesPlay.B26 : List Nat := [0, 0, 2, 7, 15, 31, 0, 0, 0, 384, 896, 1920, 4032, 0, 0, 16384, 57344, 122880, 253952, 0, 0, 1572864, 3670016, 7864320, 16769024, 33554368, 67108863, 134217727]
theorem tourlaw5_BonesPlay.tab26 : rtab .any (opsOf Try.f4 26) = tourlaw5_BonesPlay.T26 := by kernel_rfl
theorem tourlaw5_BonesPlay.bits26 : waitsOk tourlaw5_BonesPlay.T26.2 tourlaw5_BonesPlay.B26 = true := by kernel_rfl
def tourlaw5_BonesPlay.T32 : Bool × List (List Nat × List Nat) := (true, [([], []), ([], []), ([0, 1], [0, 1]), ([2], [2]), ([], []), ([], []), ([4, 5], [4, 5]), ([6], [6]), ([], []), ([], []), ([8, 9], [8, 9]), ([10], [10]), ([], []), ([7, 11, 12], [7, 11, 12]), ([3, 13], [3, 13])])
def tourlaw5_BonesPlay.B32 : List Nat := [0, 0, 3, 7, 0, 0, 48, 112, 0, 0, 768, 1792, 0, 8176, 16383]
theorem tourlaw5_BonesPlay.tab32 : rtab .any (opsOf Try.f4 32) = tourlaw5_BonesPlay.T32 := by kernel_rfl
theorem tourlaw5_BonesPlay.bits32 : waitsOk tourlaw5_BonesPlay.T32.2 tourlaw5_BonesPlay.B32 = true := by kernel_rfl
set_option maxHeartbeats 8000000 in
set_option maxRecDepth 100000 in
theorem tourlaw5_BonesPlay.calls (k : Nat) (A0 : Option Addr) (c0 : Nat) (l0 : List (S35)) (P1_ : Nat → Prop) (A1 : Option Addr) (c1 : Nat) (l1 : List (S45)) (a2 : Int) (r : Bool) (w : World) (hr0 : Kd.C k35 w A0 l0.length l0) (hc0 : l0.length ≤ c0) (hs1 : Kd.V k45 45 w w.heap.size (fun k_ => P1_ k_) (.slice A1 l1.length c1) l1) (h : tourlaw5_BonesPlay.f k l0 l1 a2 = some r) :
  Calls Try.prog 4 #[.slice A0 l0.length c0, .slice A1 l1.length c1, .int .i64 a2] w fun e w' => e = .returned (.bool r) ∧ Below w.heap.size w w' := by
 have hu35 := Try.underlying35
 have hu45 := Try.underlying45
 have hu37 := Try.underlying37
 have HR0 := Aside0.mk hr0
 have HC0 := Aside0.mk hc0
 clear hr0 hc0
 have HO1 := Aside0.mk (show Kd.V k45 45 w w.heap.size (fun k_ => (P1_ k_ ∨ w.heap.size ≤ k_)) (.slice A1 l1.length c1) l1 from Kd.V_mono hs1 (fun k_ hk => .inl hk))
 have HB := Aside0.mk (Below.refl w.heap.size w)
 have H : ((some (([(⟨(-1), (⟨0, 0, 0⟩ : S33)⟩ : S35)] : List (S35)) : List (S35))).bind fun y240 => ((bones_Rest.f k y240).bind fun t243 => ((bones_Play.f k y240 (([(⟨0, t243⟩ : S45)] : List (S45))) 5).bind fun bt249 => (if bt249.2 = 0 then (tourlaw5_BonesPlay.j0 k l0 l1 a2 ((bt249.1.length : Int) != 1)) else (tourlaw5_BonesPlay.j0 k l0 l1 a2 true))))) = some r := h
 clear h
 obtain ⟨y240, hy240⟩ : ∃ y_ : List (S35), y_ = (([(⟨(-1), (⟨0, 0, 0⟩ : S33)⟩ : S35)] : List (S35))) := ⟨_, rfl⟩
 replace H : ((bones_Rest.f k y240).bind fun t243 => ((bones_Play.f k y240 (([(⟨0, t243⟩ : S45)] : List (S45))) 5).bind fun bt249 => (if bt249.2 = 0 then (tourlaw5_BonesPlay.j0 k l0 l1 a2 ((bt249.1.length : Int) != 1)) else (tourlaw5_BonesPlay.j0 k l0 l1 a2 true)))) = some r := by first | (rw [hy240]; with_reducible exact H) | (have H2_ := (Option.bind_some _ _).symm.trans H; rw [hy240]; with_reducible exact H2_) | (have H2_ := (Option.bind_some _ _).symm.trans H; with_reducible exact H2_) | with_reducible exact H | (rw [hy240]; exact H) | exact H
 have Ny240 := Aside0.mk hy240
 clear hy240
 replace H := Option.bind_eq_some_iff.mp H
 obtain ⟨t243, A40, H⟩ := H
 replace H : ((bones_Play.f k y240 (([(⟨0, t243⟩ : S45)] : List (S45))) 5).bind fun bt249 => (if bt249.2 = 0 then (tourlaw5_BonesPlay.j0 k l0 l1 a2 ((bt249.1.length : Int) != 1)) else (tourlaw5_BonesPlay.j0 k l0 l1 a2 true))) = some r := H
 have A4 := Aside0.mk A40
 clear A40
 obtain ⟨y246, hy246⟩ : ∃ y_ : List (S45), y_ = (([(⟨0, t243⟩ : S45)] : List (S45))) := ⟨_, rfl⟩
 replace H : ((bones_Play.f k y240 y246 5).bind fun bt249 => (if bt249.2 = 0 then (tourlaw5_BonesPlay.j0 k l0 l1 a2 ((bt249.1.length : Int) != 1)) else (tourlaw5_BonesPlay.j0 k l0 l1 a2 true))) = some r := by first | (rw [hy246]; with_reducible exact H) | (have H2_ := (Option.bind_some _ _).symm.trans H; rw [hy246]; with_reducible exact H2_) | (have H2_ := (Option.bind_some _ _).symm.trans H; with_reducible exact H2_) | with_reducible exact H | (rw [hy246]; exact H) | exact H
 have Ny246 := Aside0.mk hy246
 clear hy246
 replace H := Option.bind_eq_some_iff.mp H
 obtain ⟨⟨t249, t250⟩, A50, H⟩ := H
 replace H : (if t250 = 0 then (tourlaw5_BonesPlay.j0 k l0 l1 a2 ((t249.length : Int) != 1)) else (tourlaw5_BonesPlay.j0 k l0 l1 a2 true)) = some r := H
 have A5 := Aside0.mk A50
 clear A50
 have HC6 := Aside0.mk H
 clear H
 go_enter Try.func4, Try.ntmps4
 go_upto_region 3 with (first | ((with_reducible refine gate_dst (N := 22) rfl ?_); (try (refine gate_guard (by rfl) ?_; dsimp only)); refine Kd.R_lit k35 _ 35 ?hg (N := 22) ?hd (xs := ([(⟨(-1), (⟨0, 0, 0⟩ : S33)⟩ : S35)] : List (S35))) (inner := [.int .i64 (-1), .int .i64 0, .int .i64 0, .int .i64 0]) (ok := fun _ => True) (okp := fun _ => True) ?hr ?hp (fun _ hk => hk) trivial (Below.refl _ _) (Nat.le_refl _) (by simp) ?_; (case hd => rfl); (case hg => rfl); (case hr => first | (go_simp; done) | (go_simp; rfl)); (case hp => exact (Reps.c4 (show Kd.M k35 _ _ _ (⟨(-1), (⟨0, 0, 0⟩ : S33)⟩ : S35) [.int .i64 (-1), .int .i64 0, .int .i64 0, .int .i64 0] from (k35_mkM _ _ _ (⟨(-1), (⟨0, 0, 0⟩ : S33)⟩ : S35) )) (Reps.none _ _))); intro v241 w7 ho8 hb hg_ hnew_; clear hg_ hnew_; (first | rw [← Ny240.out] at ho8 | (simp only [Int.reduceToNat] at ho8; rw [← Ny240.out] at ho8)); have n0_ := Aside0.mk (Kd.V_elder' (by (with_reducible repeat (first | apply Kd.V_alloc | apply Kd.V_drewN | apply Kd.V_drew)); exact HO1.out) (Kd.R_base ho8) hb); have n1_ := Aside0.mk (Kd.R_lower (Kd.R_newM (M := fun k_ => (w.heap.size ≤ k_)) ho8 (below_size (by repeat (first | (with_reducible first | exact HB.out | apply below_alloc | apply pw_below_drewN | apply below_drew1) | exact HB.out))) (fun k_ h_ => h_)) (below_size (by repeat (first | (with_reducible first | exact HB.out | apply below_alloc | apply pw_below_drewN | apply below_drew1) | exact HB.out)))); have n2_ := Aside0.mk (below_step (by repeat (first | (with_reducible first | exact HB.out | apply below_alloc | apply pw_below_drewN | apply below_drew1) | exact HB.out)) hb); clear HO1; clear HB; have HO1 := n0_; have HO242 := n1_; have HB := n2_; clear n0_ n1_ n2_; clear hb ho8; obtain ⟨Ao9, co9, eo9⟩ := Kd.R_slice HO242.out; subst eo9) | ((with_reducible refine gate_callee (f := 11) rfl ?_); refine goesL_ (some 26) rfl rfl Try.func11 (by kernel_rfl) rfl #[.slice Ao9 y240.length co9] rfl (by (try simp only [List.map_toArray, List.map_cons, List.map_nil]); first | done | rfl | (simp only [List.length_drop, List.length_take]; rfl)) ?_; (with_reducible refine (bones_Rest.calls k _ _ y240 t243 _ ?side1 ?side2 A4.out).mono ?_); (case side1 => repeat (first | exact (Kd.R_reads' HO242.out).2.2 | (with_reducible refine Kd.C_alloc ?_ _) | (with_reducible refine Kd.C_drewN ?_ _) | (with_reducible refine Kd.C_drew ?_))); (case side2 => exact (Kd.R_reads' HO242.out).2.1); rintro e w10 ⟨v244, rfl, ho0, hb⟩; refine ⟨_, rfl, ?_⟩; have n0_ := Aside0.mk (Kd.V_elder' (by (with_reducible repeat (first | apply Kd.V_alloc | apply Kd.V_drewN | apply Kd.V_drew)); exact HO1.out) (Kd.R_base ho0) hb); have n1_ := Aside0.mk (Kd.R_below (by (with_reducible repeat (first | apply Kd.R_alloc | apply Kd.R_drewN | apply Kd.R_drew)); exact HO242.out) hb); have n2_ := Aside0.mk (Kd.R_lower (Kd.R_newM (M := fun k_ => (w.heap.size ≤ k_)) ho0 (below_size (by repeat (first | (with_reducible first | exact HB.out | apply below_alloc | apply pw_below_drewN | apply below_drew1) | exact HB.out))) (fun k_ h_ => h_)) (below_size (by repeat (first | (with_reducible first | exact HB.out | apply below_alloc | apply pw_below_drewN | apply below_drew1) | exact HB.out)))); have n3_ := Aside0.mk (below_step (by repeat (first | (with_reducible first | exact HB.out | apply below_alloc | apply pw_below_drewN | apply below_drew1) | exact HB.out)) hb); clear HO1; clear HO242; clear HB; have HO1 := n0_; have HO242 := n1_; have HO245 := n2_; have HB := n3_; clear n0_ n1_ n2_ n3_; (try clear hb); (try clear hb2); (try clear hk); (try clear hi); (try clear ho0); obtain ⟨Ao11, co11, eo11⟩ := Kd.R_slice HO245.out; subst eo11) | ((with_reducible refine gate_dst (N := 28) rfl ?_); (try (refine gate_guard (by rfl) ?_; dsimp only)); refine Kd.N_lit k45 _ 45 ?hg (N' := 28) ?hd (xs := ([(⟨0, t243⟩ : S45)] : List (S45))) (inner := [.int .i64 0, .slice Ao11 t243.length co11]) (ok := (fun k_ => (P1_ k_ ∨ w.heap.size ≤ k_) ∧ some k_ ≠ (.slice Ao9 y240.length co9 : Value).ownBlock)) (okp := (fun k_ => (P1_ k_ ∨ w.heap.size ≤ k_) ∧ some k_ ≠ (.slice Ao9 y240.length co9 : Value).ownBlock)) ?hr ?hp (fun _ hk => hk) ((show ∀ k_, w10.heap.size ≤ k_ → (fun k_ => (P1_ k_ ∨ w.heap.size ≤ k_) ∧ some k_ ≠ (.slice Ao9 y240.length co9 : Value).ownBlock) k_ from fun k_ hk => ⟨(.inr (Nat.le_trans (below_size (by repeat (first | (with_reducible first | exact HB.out | apply below_alloc | apply pw_below_drewN | apply below_drew1) | exact HB.out))) hk)), Kd.fresh' (Kd.R_lt (by (with_reducible repeat (first | apply Kd.R_alloc | apply Kd.R_drewN | apply Kd.R_drew)); exact HO242.out)) k_ hk⟩) _ (Nat.le_refl _)) (Below.refl _ _) (Nat.le_refl _) (by simp) ?_; (case hd => rfl); (case hg => rfl); (case hr => first | (go_simp; done) | (go_simp; rfl)); (case hp => exact (Reps.c2 (show Kd.FK k45 _ _ (⟨0, t243⟩ : S45) [.int .i64 0, .slice Ao11 t243.length co11] from (k45_mkF _ _ (⟨0, t243⟩ : S45) (Kd.R_reads' (Kd.R_mono (ok' := (fun k_ => (P1_ k_ ∨ w.heap.size ≤ k_) ∧ some k_ ≠ (.slice Ao9 y240.length co9 : Value).ownBlock)) (Kd.R_apart' (HO245.out) (Kd.R_typed HO242.out) (by decide)) (fun k_ hk => ⟨(.inr (hk.1.1)), hk.2⟩))).2.1 (Kd.R_F (Kd.R_mono (ok' := (fun k_ => (P1_ k_ ∨ w.heap.size ≤ k_) ∧ some k_ ≠ (.slice Ao9 y240.length co9 : Value).ownBlock)) (Kd.R_apart' (HO245.out) (Kd.R_typed HO242.out) (by decide)) (fun k_ hk => ⟨(.inr (hk.1.1)), hk.2⟩))))) (Reps.none _ _))); intro v247 w12 ho13 hb hg_ hnew_; clear hg_ hnew_; (first | rw [← Ny246.out] at ho13 | (simp only [Int.reduceToNat] at ho13; rw [← Ny246.out] at ho13)); have n0_ := Aside0.mk (Kd.V_elder' (by (with_reducible repeat (first | apply Kd.V_alloc | apply Kd.V_drewN | apply Kd.V_drew)); exact HO1.out) (Kd.N_base ho13) hb); have n1_ := Aside0.mk (Kd.R_below (by (with_reducible repeat (first | apply Kd.R_alloc | apply Kd.R_drewN | apply Kd.R_drew)); exact HO242.out) hb); have n2_ := Aside0.mk (Kd.N_lower ho13 (below_size (by repeat (first | (with_reducible first | exact HB.out | apply below_alloc | apply pw_below_drewN | apply below_drew1) | exact HB.out)))); have n3_ := Aside0.mk (below_step (by repeat (first | (with_reducible first | exact HB.out | apply below_alloc | apply pw_below_drewN | apply below_drew1) | exact HB.out)) hb); clear HO1; clear HO242; clear HB; clear HO245; have HO1 := n0_; have HO242 := n1_; have HO248 := n2_; have HB := n3_; clear n0_ n1_ n2_ n3_; clear hb ho13; obtain ⟨Ao14, co14, eo14⟩ := Kd.N_slice HO248.out; subst eo14) | ((with_reducible refine gate_callee (f := 12) rfl ?_); refine goesL_ (some 29) rfl rfl Try.func12 (by kernel_rfl) rfl #[.slice Ao9 y240.length co9, .slice Ao14 y246.length co14, .int .i64 5] rfl (by (try simp only [List.map_toArray, List.map_cons, List.map_nil]); first | done | rfl | (simp only [List.length_drop, List.length_take]; rfl)) ?_; (with_reducible refine (bones_Play.calls k _ _ y240 _ _ y246 5 t249 t250 _ ?side1 ?side2 ?side3 ?side4 A5.out).mono ?_); (case side1 => repeat (first | exact (Kd.R_reads' HO242.out).2.2 | (with_reducible refine Kd.C_alloc ?_ _) | (with_reducible refine Kd.C_drewN ?_ _) | (with_reducible refine Kd.C_drew ?_))); (case side2 => exact (Kd.R_reads' HO242.out).2.1); (case side3 => repeat (first | exact (Kd.N_reads' HO248.out).2.2 | (with_reducible refine Kd.C_alloc ?_ _) | (with_reducible refine Kd.C_drewN ?_ _) | (with_reducible refine Kd.C_drew ?_))); (case side4 => exact (Kd.N_reads' HO248.out).2.1); rintro e w15 ⟨v251, rfl, ho0, hb⟩; refine ⟨_, rfl, ?_⟩; have n0_ := Aside0.mk (Kd.V_elder' (by (with_reducible repeat (first | apply Kd.V_alloc | apply Kd.V_drewN | apply Kd.V_drew)); exact HO1.out) (Kd.R_base ho0) hb); have n1_ := Aside0.mk (Kd.R_below (by (with_reducible repeat (first | apply Kd.R_alloc | apply Kd.R_drewN | apply Kd.R_drew)); exact HO242.out) hb); have n2_ := Aside0.mk (Kd.N_elder' (by (with_reducible repeat (first | apply Kd.N_alloc | apply Kd.N_drewN | apply Kd.N_drew)); exact HO248.out) (Kd.R_base ho0) hb); have n3_ := Aside0.mk (Kd.R_lower (Kd.R_newM (M := fun k_ => (w.heap.size ≤ k_)) ho0 (below_size (by repeat (first | (with_reducible first | exact HB.out | apply below_alloc | apply pw_below_drewN | apply below_drew1) | exact HB.out))) (fun k_ h_ => h_)) (below_size (by repeat (first | (with_reducible first | exact HB.out | apply below_alloc | apply pw_below_drewN | apply below_drew1) | exact HB.out)))); have n4_ := Aside0.mk (below_step (by repeat (first | (with_reducible first | exact HB.out | apply below_alloc | apply pw_below_drewN | apply below_drew1) | exact HB.out)) hb); clear HO1; clear HO242; clear HO248; clear HB; have HO1 := n0_; have HO242 := n1_; have HO248 := n2_; have HO252 := n3_; have HB := n4_; clear n0_ n1_ n2_ n3_ n4_; (try clear hb); (try clear hb2); (try clear hk); (try clear hi); (try clear ho0)))
 (try simp only [Act.put, List.setIfInBounds_toArray, List.set_cons_zero, List.set_cons_succ])
 go_cut [38] (fun v38 wc => ∃ (kq : Nat) (x38_5 : Bool), v38 = .bool x38_5 ∧ Aside0 (tourlaw5_BonesPlay.j0 kq l0 l1 a2 x38_5 = some r) ∧ Aside0 (kq ≤ k) ∧ Aside0 (Kd.V k45 45 wc w.heap.size (fun k_ => (P1_ k_ ∨ w.heap.size ≤ k_)) (.slice A1 l1.length c1) l1) ∧ Aside0 (Below w.heap.size w wc))
 case first =>
  have H := HC6.out
  clear HC6
  by_cases c16 : t250 = 0
  ·rw [if_pos c16] at H
   have c16b0 : (t250 == 0) = true := beq_iff_eq.mpr c16
   have c16b1 : (t250 != 0) = false := bne_eq_false_iff_eq.mpr c16
   clear c16
   (first | rw [c16b0] | (simp only [i64_w, i32_w]; rw [c16b0]) | skip)
   have H' := Aside0.mk H
   clear H
   obtain ⟨Ao17, co17, eo17⟩ := Kd.R_slice HO252.out
   subst eo17
   go_wp2
   go_meet
   case rel => exact ⟨_, (((t249.length : Int) != 1)), (by first | rfl | (simp; done) | (simp [*]; done)), H', ⟨by first | omega | exact Nat.le_refl _⟩, ⟨by (with_reducible repeat (first | apply Kd.V_alloc | apply Kd.V_drewN | apply Kd.V_drew)); exact Kd.V_mono HO1.out (fun _ hk => hk.1.1.1.1)⟩, ⟨by repeat (first | (with_reducible first | exact HB.out | apply below_alloc | apply pw_below_drewN | apply below_drew1) | exact HB.out)⟩⟩
  ·rw [if_neg c16] at H
   have c16b0 : (t250 == 0) = false := beq_eq_false_iff_ne.mpr c16
   have c16b1 : (t250 != 0) = true := bne_iff_ne.mpr c16
   (first | rw [c16b0] | (simp only [i64_w, i32_w]; rw [c16b0]) | skip)
   have H' := Aside0.mk H
   clear H
   go_wp2
   go_meet
   case rel => exact ⟨_, (true), (by first | rfl | (simp; done) | (simp [*]; done)), H', ⟨by first | omega | exact Nat.le_refl _⟩, ⟨by (with_reducible repeat (first | apply Kd.V_alloc | apply Kd.V_drewN | apply Kd.V_drew)); exact Kd.V_mono HO1.out (fun _ hk => hk.1.1.1.1)⟩, ⟨by repeat (first | (with_reducible first | exact HB.out | apply below_alloc | apply pw_below_drewN | apply below_drew1) | exact HB.out)⟩⟩
 case rest =>
  clear HC6
  try clear c1
  try clear c2
  try clear p2
  try clear c4
  try clear c11
  try clear c12
  try clear c16
  try clear c16b0
  try clear c16b1
  obtain ⟨kq, x38_5, rfl, HA, HJ5, HO_1, HB⟩ := hcut
  cases kq with
  | zero => exact absurd HA.out (by simp [tourlaw5_BonesPlay.j0])
  | succ kj5 =>
   have H := HA.out
   clear HA
   simp only [tourlaw5_BonesPlay.j0] at H
   by_cases c18 : x38_5 = true
   ·subst c18
    have H1 : (none) = some r := by rw [if_pos rfl] at H; exact H
    clear H
    have H := H1
    clear H1
    exact absurd H (by simp)
   ·replace c18 := Bool.eq_false_iff.mpr c18
    subst c18
    have H1 : (if (l1.length : Int) < 1 then (tourlaw5_BonesPlay.j1 kj5 l0 l1 a2 0 true) else (tourlaw5_BonesPlay.j1 kj5 l0 l1 a2 0 (decide ((l1.length : Int) > 2000)))) = some r := by rw [if_neg (show ¬ (false = true) by decide)] at H; exact H
    clear H
    have H := H1
    clear H1
    have HC19 := Aside0.mk H
    clear H
    go_upto_region 6 with (fail)
    go_cut [46] (fun v46 wc => ∃ (kq : Nat) (x46_18 : Bool), v46 = .bool x46_18 ∧ Aside0 (tourlaw5_BonesPlay.j1 kq l0 l1 a2 0 x46_18 = some r) ∧ Aside0 (kq ≤ kj5) ∧ Aside0 (Kd.V k45 45 wc w.heap.size (fun k_ => (P1_ k_ ∨ w.heap.size ≤ k_)) (.slice A1 l1.length c1) l1) ∧ Aside0 (Below w.heap.size w wc))
    case first =>
     have H := HC19.out
     clear HC19
     by_cases c20 : (l1.length : Int) < 1
     ·rw [if_pos c20] at H
      have c20b0 : decide ((l1.length : Int) < 1) = true := decide_eq_true c20
      have c20b1 : decide (l1.length < 1) = true := decide_eq_true (by omega)
      clear c20
      (first | rw [c20b0] | (simp only [i64_w, i32_w]; rw [c20b0]) | skip)
      have H' := Aside0.mk H
      clear H
      go_wp2
      go_meet
      case rel => exact ⟨_, (true), (by first | rfl | (simp; done) | (simp [*]; done)), H', ⟨by have := HJ5.out; first | omega | exact Nat.le_refl _⟩, ⟨by (with_reducible repeat (first | apply Kd.V_alloc | apply Kd.V_drewN | apply Kd.V_drew)); exact HO_1.out⟩, ⟨by repeat (first | (with_reducible first | exact HB.out | apply below_alloc | apply pw_below_drewN | apply below_drew1) | exact HB.out)⟩⟩
     ·rw [if_neg c20] at H
      have c20b0 : decide ((l1.length : Int) < 1) = false := decide_eq_false c20
      have c20b1 : decide (l1.length < 1) = false := decide_eq_false (by omega)
      clear c20
      (first | rw [c20b0] | (simp only [i64_w, i32_w]; rw [c20b0]) | skip)
      have H' := Aside0.mk H
      clear H
      go_wp2
      go_meet
      case rel => exact ⟨_, (decide ((l1.length : Int) > 2000)), (by first | rfl | (simp; done) | (simp [*]; done)), H', ⟨by have := HJ5.out; first | omega | exact Nat.le_refl _⟩, ⟨by (with_reducible repeat (first | apply Kd.V_alloc | apply Kd.V_drewN | apply Kd.V_drew)); exact HO_1.out⟩, ⟨by repeat (first | (with_reducible first | exact HB.out | apply below_alloc | apply pw_below_drewN | apply below_drew1) | exact HB.out)⟩⟩
    case rest =>
     clear HC19
     try clear c1
     try clear c2
     try clear p2
     try clear c4
     try clear c11
     try clear c12
     try clear c16
     try clear c16b0
     try clear c16b1
     try clear c18
     try clear c20
     try clear c20b0
     try clear c20b1
     try clear p2
     obtain ⟨kq, x46_18, rfl, HA, HJ18, HO_1, HB⟩ := hcut
     cases kq with
     | zero => exact absurd HA.out (by simp [tourlaw5_BonesPlay.j1])
     | succ kj18 =>
      have H := HA.out
      clear HA
      simp only [tourlaw5_BonesPlay.j1] at H
      have HC21 := Aside0.mk H
      clear H
      go_upto_if 46 with (fail)
      go_cut [10] (fun v10 wc => ∃ (kq : Nat) (x10_20 : Int), v10 = .int .i64 x10_20 ∧ Aside0 (tourlaw5_BonesPlay.j2 kq l0 l1 a2 x10_20 = some r) ∧ Aside0 (kq ≤ kj18) ∧ Aside0 (Kd.V k45 45 wc w.heap.size (fun k_ => (P1_ k_ ∨ w.heap.size ≤ k_)) (.slice A1 l1.length c1) l1) ∧ Aside0 (Below w.heap.size w wc))
      case first =>
       have H := HC21.out
       clear HC21
       by_cases c22 : x46_18 = true
       ·subst c22
        have H1 : (tourlaw5_BonesPlay.j2 kj18 l0 l1 a2 2) = some r := by rw [if_pos rfl] at H; exact H
        clear H
        have H := H1
        clear H1
        have H' := Aside0.mk H
        clear H
        go_wp2
        go_meet
        case rel => exact ⟨_, (2), (by first | rfl | (simp; done) | (simp [*]; done)), H', ⟨by have := HJ5.out; have := HJ18.out; first | omega | exact Nat.le_refl _⟩, ⟨by (with_reducible repeat (first | apply Kd.V_alloc | apply Kd.V_drewN | apply Kd.V_drew)); exact HO_1.out⟩, ⟨by repeat (first | (with_reducible first | exact HB.out | apply below_alloc | apply pw_below_drewN | apply below_drew1) | exact HB.out)⟩⟩
       ·replace c22 := Bool.eq_false_iff.mpr c22
        subst c22
        have H1 : (tourlaw5_BonesPlay.j2 kj18 l0 l1 a2 0) = some r := by rw [if_neg (show ¬ (false = true) by decide)] at H; exact H
        clear H
        have H := H1
        clear H1
        have H' := Aside0.mk H
        clear H
        go_wp2
        go_meet
        case rel => exact ⟨_, (0), (by first | rfl | (simp; done) | (simp [*]; done)), H', ⟨by have := HJ5.out; have := HJ18.out; first | omega | exact Nat.le_refl _⟩, ⟨by (with_reducible repeat (first | apply Kd.V_alloc | apply Kd.V_drewN | apply Kd.V_drew)); exact HO_1.out⟩, ⟨by repeat (first | (with_reducible first | exact HB.out | apply below_alloc | apply pw_below_drewN | apply below_drew1) | exact HB.out)⟩⟩
      case rest =>
       clear HC21
       try clear c1
       try clear c2
       try clear p2
       try clear c4
       try clear c11
       try clear c12
       try clear c16
       try clear c16b0
       try clear c16b1
       try clear c18
       try clear c20
       try clear c20b0
       try clear c20b1
       try clear c22
       try clear p2
       obtain ⟨kq, x10_20, rfl, HA, HJ20, HO_1, HB⟩ := hcut
       cases kq with
       | zero => exact absurd HA.out (by simp [tourlaw5_BonesPlay.j2])
       | succ kj20 =>
        have H := HA.out
        clear HA
        simp only [tourlaw5_BonesPlay.j2] at H
        have H' := Aside0.mk H
        clear H
        go_wp2
        go_loopg [10, 11, 49] kj20 (fun kq v10 v11 v49 w' => ∃ (x10_4 : Int) (x11_4 : Int) (x49_4 : Int), v10 = .int .i64 x10_4 ∧ v11 = .int .i64 x11_4 ∧ v49 = .int .i64 x49_4 ∧ Aside0 (tourlaw5_BonesPlay.l0 kq l0 l1 a2 x10_4 x11_4 l1 (l1.length : Int) x49_4 = some r) ∧ Aside0 (kq ≤ kj20) ∧ Aside0 (Kd.V k45 45 w' w.heap.size (fun k_ => (P1_ k_ ∨ w.heap.size ≤ k_)) (.slice A1 l1.length c1) l1) ∧ Aside0 (Kd.V k45 45 w' w.heap.size (fun k_ => (P1_ k_ ∨ w.heap.size ≤ k_)) (.slice A1 l1.length c1) l1) ∧ Aside0 (Below w.heap.size w w'))
        case atStart => exact ⟨(x10_20), ((-1)), (0), (by first | rfl | (simp; done) | (simp [*]; done)), (by first | rfl | (simp; done) | (simp [*]; done)), (by first | rfl | (simp; done) | (simp [*]; done)), H', ⟨Nat.le_refl _⟩, ⟨by (with_reducible repeat (first | apply Kd.V_alloc | apply Kd.V_drewN | apply Kd.V_drew)); exact HO_1.out⟩, ⟨by (with_reducible repeat (first | apply Kd.V_alloc | apply Kd.V_drewN | apply Kd.V_drew)); exact HO_1.out⟩, ⟨by repeat (first | (with_reducible first | exact HB.out | apply below_alloc | apply pw_below_drewN | apply below_drew1) | exact HB.out)⟩⟩
        case round =>
         clear H'
         try clear c1
         try clear c2
         try clear p2
         try clear c4
         try clear c11
         try clear c12
         try clear c16
         try clear c16b0
         try clear c16b1
         try clear c18
         try clear c20
         try clear c20b0
         try clear c20b1
         try clear c22
         try clear p2
         obtain ⟨x10_4, x11_4, x49_4, rfl, rfl, rfl, HA, HK4, HO_1, HO_47, HB⟩ := hrel
         cases gk with
         | zero => exact absurd HA.out (by simp [tourlaw5_BonesPlay.l0])
         | succ k4 =>
          have H := HA.out
          clear HA
          simp only [tourlaw5_BonesPlay.l0] at H
          by_cases c23 : x49_4 < (l1.length : Int)
          ·rw [if_pos c23] at H
           have c23b0 : decide (x49_4 < (l1.length : Int)) = true := decide_eq_true c23
           clear c23
           by_cases c24 : 0 ≤ x49_4
           ·rw [if_pos c24] at H
            have c24b0 : decide (0 ≤ x49_4) = true := decide_eq_true c24
            clear c24
            by_cases c25 : x49_4 < (l1.length : Int)
            ·rw [if_pos c25] at H
             have c25b0 : decide (x49_4 < (l1.length : Int)) = true := decide_eq_true c25
             clear c25
             by_cases c26 : x10_4 = 0
             ·rw [if_pos c26] at H
              have c26b0 : (x10_4 == 0) = true := beq_iff_eq.mpr c26
              have c26b1 : (x10_4 != 0) = false := bne_eq_false_iff_eq.mpr c26
              clear c26
              obtain ⟨y255, hy255⟩ : ∃ y_ : List (List (S37)), y_ = (([(rd_T45 l1 x49_4).f1] : List (List (S37)))) := ⟨_, rfl⟩
              replace H : ((tourref5_BonesFault.f k4 l0 y255).bind fun t258 => (if t258 = 0 then (if ((rd_T45 l1 x49_4).f0) ≤ x11_4 then (tourlaw5_BonesPlay.l0 k4 l0 l1 a2 9 ((rd_T45 l1 x49_4).f0) l1 (l1.length : Int) (wrap64 (x49_4 + 1))) else (if ((rd_T45 l1 x49_4).f0) > 131072000 then (tourlaw5_BonesPlay.l0 k4 l0 l1 a2 9 ((rd_T45 l1 x49_4).f0) l1 (l1.length : Int) (wrap64 (x49_4 + 1))) else (tourlaw5_BonesPlay.l0 k4 l0 l1 a2 t258 ((rd_T45 l1 x49_4).f0) l1 (l1.length : Int) (wrap64 (x49_4 + 1))))) else (tourlaw5_BonesPlay.l0 k4 l0 l1 a2 t258 ((rd_T45 l1 x49_4).f0) l1 (l1.length : Int) (wrap64 (x49_4 + 1))))) = some r := by first | (rw [hy255]; with_reducible exact H) | (have H2_ := (Option.bind_some _ _).symm.trans H; rw [hy255]; with_reducible exact H2_) | (have H2_ := (Option.bind_some _ _).symm.trans H; with_reducible exact H2_) | with_reducible exact H | (rw [hy255]; exact H) | exact H
              have Ny255 := Aside0.mk hy255
              clear hy255
              replace H := Option.bind_eq_some_iff.mp H
              obtain ⟨t258, A270, H⟩ := H
              replace H : (if t258 = 0 then (if ((rd_T45 l1 x49_4).f0) ≤ x11_4 then (tourlaw5_BonesPlay.l0 k4 l0 l1 a2 9 ((rd_T45 l1 x49_4).f0) l1 (l1.length : Int) (wrap64 (x49_4 + 1))) else (if ((rd_T45 l1 x49_4).f0) > 131072000 then (tourlaw5_BonesPlay.l0 k4 l0 l1 a2 9 ((rd_T45 l1 x49_4).f0) l1 (l1.length : Int) (wrap64 (x49_4 + 1))) else (tourlaw5_BonesPlay.l0 k4 l0 l1 a2 t258 ((rd_T45 l1 x49_4).f0) l1 (l1.length : Int) (wrap64 (x49_4 + 1))))) else (tourlaw5_BonesPlay.l0 k4 l0 l1 a2 t258 ((rd_T45 l1 x49_4).f0) l1 (l1.length : Int) (wrap64 (x49_4 + 1)))) = some r := H
              have A27 := Aside0.mk A270
              clear A270
              by_cases c28 : t258 = 0
              ·rw [if_pos c28] at H
               have c28b0 : (t258 == 0) = true := beq_iff_eq.mpr c28
               have c28b1 : (t258 != 0) = false := bne_eq_false_iff_eq.mpr c28
               clear c28
               by_cases c29 : ((rd_T45 l1 x49_4).f0) ≤ x11_4
               ·rw [if_pos c29] at H
                have c29b0 : decide (((rd_T45 l1 x49_4).f0) ≤ x11_4) = true := decide_eq_true c29
                clear c29
                have H' := Aside0.mk H
                clear H
                have p253 : 0 ≤ (x49_4 : Int) := of_decide_eq_true (by first | (with_reducible assumption) | assumption)
                have q253 : x49_4 < (l1.length : Int) := of_decide_eq_true (by first | (with_reducible assumption) | assumption)
                obtain ⟨ad253, A253_1, c253_1, e253, hx253_0, hx253_1, hl253_1, hi253_1⟩ := at_T45 (Kd.V_reads' HO_47.out).2.2 x49_4 p253 q253
                cases e253
                obtain ⟨ce253, hce253, hMe253, hcc253⟩ := Kd.V_get HO_47.out z45 x49_4 p253 (by first | exact q253 | exact of_decide_eq_true (by first | (with_reducible assumption) | assumption) | (have e_ := (Kd.V_reads' HO_47.out).1; omega))
                obtain ⟨ua253_1, uc253_1, rfl, ul253_1, ge253_1⟩ := k45_openF hMe253
                have hv253_1 := hcc253 1 _ rfl
                rw [add_field _ _ 1 (by omega)] at hv253_1
                replace hv253_1 := Option.some.inj (hv253_1.symm.trans hx253_1)
                injection hv253_1 with hva_ hvn_ hvc_
                rw [hva_] at ge253_1
                rw [hvc_] at ul253_1
                have HL253_1 := Aside0.mk (show Kd.V k37 37 _ w.heap.size _ _ ((rd_T45 l1 x49_4).f1) from Kd.V_mk ul253_1 ge253_1)
                clear hva_ hvn_ hvc_ ge253_1 ul253_1
                clear hcc253 hce253
                have HR253_1 := Aside0.mk hi253_1
                have HC253_1 := Aside0.mk hl253_1
                clear hi253_1 hl253_1
                replace p253 := eq_true p253
                replace q253 := eq_true q253
                go_wp2_with (first | ((with_reducible refine gate_dst (N := 13) rfl ?_); (try (refine gate_guard (by rfl) ?_; dsimp only)); refine box_event ?hg (N := 13) ?hd (cs := #[.int .i64 0, .slice none 0 0]) (t := 45) ?hr ?_; (case hd => rfl); (case hg => rfl); (case hr => first | (go_simp; done) | (go_simp; rfl)); intro gb254 hg w30 hbox hb; have n0_ := Aside0.mk (Kd.V_below (Kd.V_elderB (by (with_reducible repeat (first | apply Kd.V_alloc | apply Kd.V_drewN | apply Kd.V_drew)); exact HO_1.out) gb254 (Nat.le_of_eq hg.symm)) hb); have n1_ := Aside0.mk (Kd.V_below (Kd.V_elderB (by (with_reducible repeat (first | apply Kd.V_alloc | apply Kd.V_drewN | apply Kd.V_drew)); exact HO_47.out) gb254 (Nat.le_of_eq hg.symm)) hb); have n2_ := Aside0.mk (Kd.V_below (Kd.V_elderB (by (with_reducible repeat (first | apply Kd.V_alloc | apply Kd.V_drewN | apply Kd.V_drew)); exact HL253_1.out) gb254 (Nat.le_of_eq hg.symm)) hb); have n3_ := Aside0.mk (Kd.C_below (by repeat (first | (with_reducible exact HR253_1.out) | (with_reducible refine Kd.C_alloc ?_ _) | (with_reducible refine Kd.C_drewN ?_ _) | (with_reducible refine Kd.C_drew ?_) | exact HR253_1.out)) hb); have n4_ := Aside0.mk (below_step (by repeat (first | (with_reducible first | exact HB.out | apply below_alloc | apply pw_below_drewN | apply below_drew1) | exact HB.out)) hb); have n5_ := Aside0.mk (hbox); have n6_ := Aside0.mk ((by rw [hg]; exact (below_size (by repeat (first | (with_reducible first | exact HB.out | apply below_alloc | apply pw_below_drewN | apply below_drew1) | exact HB.out))) : w.heap.size ≤ gb254)); have n7_ := Aside0.mk ((by rw [hg]; exact (below_size (by repeat (first | (with_reducible first | exact HB.out | apply below_alloc | apply pw_below_drewN | apply below_drew1) | exact HB.out))) : w.heap.size ≤ gb254)); clear HO_1; clear HO_47; clear HL253_1; clear HR253_1; clear HB; have HO_1 := n0_; have HO_47 := n1_; have HL253_1 := n2_; have HR253_1 := n3_; have HB := n4_; have BK254 := n5_; have GW254 := n6_; have GE254 := n7_; clear n0_ n1_ n2_ n3_ n4_ n5_ n6_ n7_; clear hb hbox hg; have hcz31_0 : w30.cell? ⟨gb254, 0, none⟩ = some (.int .i64 0) := (blk_cell BK254.out 0).trans rfl; have hcz31_1 : w30.cell? ⟨gb254, 1, none⟩ = some (.slice none 0 0) := (blk_cell BK254.out 1).trans rfl; have hfz31_0 := blk_frozen BK254.out 0; have hfz31_1 := blk_frozen BK254.out 1) | ((with_reducible refine gate_store (t := 45) (p := 13) rfl ?_); refine store_event (t := 45) (p := 13) (v := ?vo_w32) (w1 := ((w30.setCell ⟨gb254, 0, none⟩ (.int .i64 ((rd_T45 l1 x49_4).f0))).setCell ⟨gb254, 1, none⟩ (.slice A253_1 ((rd_T45 l1 x49_4).f1).length c253_1))) ?hg ?ho ?hn ?hr ?_; (case ho => rfl); (case hg => rfl); (case hn => rfl); (case hr => first | (go_simp; done) | (go_simp; rfl)); intro w32 hw; have n0_ : Aside0 (Kd.V k45 45 w32 w.heap.size (fun k_ => (P1_ k_ ∨ w.heap.size ≤ k_) ∧ k_ ≠ gb254) (.slice (some ad253) l1.length c1) l1) := ⟨(by rw [hw]; exact (by (with_reducible repeat (first | apply Kd.V_alloc | apply Kd.V_drewN | apply Kd.V_drew)); exact Kd.V_mono (Kd.V_far (p := ⟨gb254, 1, none⟩) (Kd.V_far (p := ⟨gb254, 0, none⟩) (Kd.V_mono HO_1.out (fun k_ hk => (⟨hk, hk.2⟩ : _ ∧ k_ ≠ gb254))) (fun _ hk => hk.2) (.int .i64 ((rd_T45 l1 x49_4).f0))) (fun _ hk => hk.2) (.slice A253_1 ((rd_T45 l1 x49_4).f1).length c253_1)) (fun _ hk => ⟨hk.1.1, hk.1.2⟩)))⟩; have n1_ : Aside0 (Kd.V k45 45 w32 w.heap.size (fun k_ => (P1_ k_ ∨ w.heap.size ≤ k_) ∧ k_ ≠ gb254) (.slice (some ad253) l1.length c1) l1) := ⟨(by rw [hw]; exact (by (with_reducible repeat (first | apply Kd.V_alloc | apply Kd.V_drewN | apply Kd.V_drew)); exact Kd.V_mono (Kd.V_far (p := ⟨gb254, 1, none⟩) (Kd.V_far (p := ⟨gb254, 0, none⟩) (Kd.V_mono HO_47.out (fun k_ hk => (⟨hk, hk.2⟩ : _ ∧ k_ ≠ gb254))) (fun _ hk => hk.2) (.int .i64 ((rd_T45 l1 x49_4).f0))) (fun _ hk => hk.2) (.slice A253_1 ((rd_T45 l1 x49_4).f1).length c253_1)) (fun _ hk => ⟨hk.1.1, hk.1.2⟩)))⟩; have n2_ : Aside0 (Kd.V k37 37 w32 w.heap.size (fun k_ => (P1_ k_ ∨ w.heap.size ≤ k_) ∧ k_ ≠ gb254) (.slice A253_1 ((rd_T45 l1 x49_4).f1).length c253_1) ((rd_T45 l1 x49_4).f1)) := ⟨(by rw [hw]; exact (by (with_reducible repeat (first | apply Kd.V_alloc | apply Kd.V_drewN | apply Kd.V_drew)); exact Kd.V_mono (Kd.V_far (p := ⟨gb254, 1, none⟩) (Kd.V_far (p := ⟨gb254, 0, none⟩) (Kd.V_mono HL253_1.out (fun k_ hk => (⟨hk, hk.2⟩ : _ ∧ k_ ≠ gb254))) (fun _ hk => hk.2) (.int .i64 ((rd_T45 l1 x49_4).f0))) (fun _ hk => hk.2) (.slice A253_1 ((rd_T45 l1 x49_4).f1).length c253_1)) (fun _ hk => ⟨hk.1.1, hk.1.2⟩)))⟩; have n3_ : Aside0 (w32.heap[gb254]? = some (.cells #[.int .i64 ((rd_T45 l1 x49_4).f0), .slice A253_1 ((rd_T45 l1 x49_4).f1).length c253_1] 45 (0, 0))) := ⟨(by rw [hw]; exact (by (with_reducible repeat (first | refine blk_drewN ?_ _ | refine blk_drew ?_ | refine blk_alloc ?_ _)); refine blk_put (cs := #[.int .i64 ((rd_T45 l1 x49_4).f0), .slice none 0 0]) ?_ 1 _ rfl; (with_reducible repeat (first | refine blk_drewN ?_ _ | refine blk_drew ?_ | refine blk_alloc ?_ _)); refine blk_put (cs := #[.int .i64 0, .slice none 0 0]) ?_ 0 _ rfl; (with_reducible repeat (first | refine blk_drewN ?_ _ | refine blk_drew ?_ | refine blk_alloc ?_ _)); exact BK254.out))⟩; have n4_ : Aside0 (Below w.heap.size w w32) := ⟨(by rw [hw]; exact (by repeat (first | (with_reducible first | exact HB.out | apply below_alloc | apply pw_below_drewN | apply below_drew1 | refine below_set ?_ GE254.out) | exact HB.out)))⟩; clear hw; clear HO_1; clear HO_47; clear HL253_1; clear BK254; clear HB; have HO_1 := n0_; have HO_47 := n1_; have HL253_1 := n2_; have BK254 := n3_; have HB := n4_; clear n0_ n1_ n2_ n3_ n4_; have hcz33_0 : w32.cell? ⟨gb254, 0, none⟩ = some (.int .i64 ((rd_T45 l1 x49_4).f0)) := (blk_cell BK254.out 0).trans rfl; have hcz33_1 : w32.cell? ⟨gb254, 1, none⟩ = some (.slice A253_1 ((rd_T45 l1 x49_4).f1).length c253_1) := (blk_cell BK254.out 1).trans rfl; have hfz33_0 := blk_frozen BK254.out 0; have hfz33_1 := blk_frozen BK254.out 1) | ((with_reducible refine gate_dst (N := 58) rfl ?_); (try (refine gate_guard (by rfl) ?_; dsimp only)); refine Kd.N_lit (Kd.slice 37 k37) _ 30 ?hg (N' := 58) ?hd (xs := ([(rd_T45 l1 x49_4).f1] : List (List (S37)))) (inner := [.slice A253_1 ((rd_T45 l1 x49_4).f1).length c253_1]) (ok := (fun k_ => (P1_ k_ ∨ w.heap.size ≤ k_) ∧ k_ ≠ gb254)) (okp := (fun k_ => (P1_ k_ ∨ w.heap.size ≤ k_) ∧ k_ ≠ gb254)) ?hr ?hp (fun _ hk => hk) ((show ∀ k_, w32.heap.size ≤ k_ → (fun k_ => (P1_ k_ ∨ w.heap.size ≤ k_) ∧ k_ ≠ gb254) k_ from fun k_ hk => ⟨(.inr (Nat.le_trans (below_size (by repeat (first | (with_reducible first | exact HB.out | apply below_alloc | apply pw_below_drewN | apply below_drew1 | refine below_set ?_ GE254.out) | exact HB.out))) hk)), Kd.freshB (g := gb254) (o := .cells #[.int .i64 ((rd_T45 l1 x49_4).f0), .slice A253_1 ((rd_T45 l1 x49_4).f1).length c253_1] 45 (0, 0)) (by (with_reducible repeat (first | refine blk_drewN ?_ _ | refine blk_drew ?_ | refine blk_alloc ?_ _)); exact BK254.out) k_ hk⟩) _ (Nat.le_refl _)) (Below.refl _ _) (Nat.le_refl _) (by simp) ?_; (case hd => rfl); (case hg => rfl); (case hr => first | (go_simp; done) | (go_simp; rfl)); (case hp => exact (Reps.one (show Kd.FK (Kd.slice 37 k37) _ _ ((rd_T45 l1 x49_4).f1) [.slice A253_1 ((rd_T45 l1 x49_4).f1).length c253_1] from (Kd.FK_slice_mk (Kd.V_reads' (Kd.V_mono (ok' := (fun k_ => (P1_ k_ ∨ w.heap.size ≤ k_) ∧ k_ ≠ gb254)) (HL253_1.out) (fun k_ hk => ⟨hk.1, hk.2⟩))).2.1 (Kd.V_F (Kd.V_mono (ok' := (fun k_ => (P1_ k_ ∨ w.heap.size ≤ k_) ∧ k_ ≠ gb254)) (HL253_1.out) (fun k_ hk => ⟨hk.1, hk.2⟩))))) (Reps.none _ _))); intro v256 w34 ho35 hb hg_ hnew_; clear hg_ hnew_; (first | rw [← Ny255.out] at ho35 | (simp only [Int.reduceToNat] at ho35; rw [← Ny255.out] at ho35)); have n0_ := Aside0.mk (Kd.V_elder' (by (with_reducible repeat (first | apply Kd.V_alloc | apply Kd.V_drewN | apply Kd.V_drew)); exact HO_1.out) (Kd.N_base ho35) hb); have n1_ := Aside0.mk (Kd.V_elder' (by (with_reducible repeat (first | apply Kd.V_alloc | apply Kd.V_drewN | apply Kd.V_drew)); exact HO_47.out) (Kd.N_base ho35) hb); have n2_ := Aside0.mk (Kd.V_elder' (by (with_reducible repeat (first | apply Kd.V_alloc | apply Kd.V_drewN | apply Kd.V_drew)); exact HL253_1.out) (Kd.N_base ho35) hb); have n3_ := Aside0.mk (Kd.N_lower ho35 (below_size (by repeat (first | (with_reducible first | exact HB.out | apply below_alloc | apply pw_below_drewN | apply below_drew1 | refine below_set ?_ GE254.out) | exact HB.out)))); have n4_ := Aside0.mk ((Kd.V_reads' n2_.out).2.2); have n5_ := Aside0.mk (blk_below (g := gb254) (o := .cells #[.int .i64 ((rd_T45 l1 x49_4).f0), .slice A253_1 ((rd_T45 l1 x49_4).f1).length c253_1] 45 (0, 0)) (by (with_reducible repeat (first | refine blk_drewN ?_ _ | refine blk_drew ?_ | refine blk_alloc ?_ _)); exact BK254.out) hb); have n6_ := Aside0.mk (below_step (by repeat (first | (with_reducible first | exact HB.out | apply below_alloc | apply pw_below_drewN | apply below_drew1 | refine below_set ?_ GE254.out) | exact HB.out)) hb); clear HO_1; clear HO_47; clear HL253_1; clear HR253_1; clear BK254; clear HB; have HO_1 := n0_; have HO_47 := n1_; have HL253_1 := n2_; have HO257 := n3_; have HR253_1 := n4_; have BK254 := n5_; have HB := n6_; clear n0_ n1_ n2_ n3_ n4_ n5_ n6_; clear hb ho35; obtain ⟨Ao36, co36, eo36⟩ := Kd.N_slice HO257.out; subst eo36) | ((with_reducible refine gate_callee (f := 13) rfl ?_); refine goesL_ (some 59) rfl rfl Try.func13 (by kernel_rfl) rfl #[.slice A0 l0.length c0, .slice Ao36 y255.length co36] rfl (by (try simp only [List.map_toArray, List.map_cons, List.map_nil]); first | done | rfl | (simp only [List.length_drop, List.length_take]; rfl)) ?_; (with_reducible refine (tourref5_BonesFault.calls k4 _ _ l0 _ _ y255 t258 _ ?side1 ?side2 ?side3 ?side4 A27.out).mono ?_); (case side1 => repeat (first | exact (Kd.C_below HR0.out HB.out) | (with_reducible refine Kd.C_alloc ?_ _) | (with_reducible refine Kd.C_drewN ?_ _) | (with_reducible refine Kd.C_drew ?_))); (case side2 => exact HC0.out); (case side3 => repeat (first | exact (Kd.N_reads' HO257.out).2.2 | (with_reducible refine Kd.C_alloc ?_ _) | (with_reducible refine Kd.C_drewN ?_ _) | (with_reducible refine Kd.C_drew ?_))); (case side4 => exact (Kd.N_reads' HO257.out).2.1); rintro e w37 ⟨rfl, hb⟩; refine ⟨_, rfl, ?_⟩; have n0_ := Aside0.mk (Kd.V_below (by (with_reducible repeat (first | apply Kd.V_alloc | apply Kd.V_drewN | apply Kd.V_drew)); exact HO_1.out) hb); have n1_ := Aside0.mk (Kd.V_below (by (with_reducible repeat (first | apply Kd.V_alloc | apply Kd.V_drewN | apply Kd.V_drew)); exact HO_47.out) hb); have n2_ := Aside0.mk (Kd.V_below (by (with_reducible repeat (first | apply Kd.V_alloc | apply Kd.V_drewN | apply Kd.V_drew)); exact HL253_1.out) hb); have n3_ := Aside0.mk (Kd.N_below (by (with_reducible repeat (first | apply Kd.N_alloc | apply Kd.N_drewN | apply Kd.N_drew)); exact HO257.out) hb); have n4_ := Aside0.mk (Kd.C_below (by repeat (first | (with_reducible exact HR253_1.out) | (with_reducible refine Kd.C_alloc ?_ _) | (with_reducible refine Kd.C_drewN ?_ _) | (with_reducible refine Kd.C_drew ?_) | exact HR253_1.out)) hb); have n5_ := Aside0.mk (blk_below (g := gb254) (o := .cells #[.int .i64 ((rd_T45 l1 x49_4).f0), .slice A253_1 ((rd_T45 l1 x49_4).f1).length c253_1] 45 (0, 0)) (by (with_reducible repeat (first | refine blk_drewN ?_ _ | refine blk_drew ?_ | refine blk_alloc ?_ _)); exact BK254.out) hb); have n6_ := Aside0.mk (below_step (by repeat (first | (with_reducible first | exact HB.out | apply below_alloc | apply pw_below_drewN | apply below_drew1 | refine below_set ?_ GE254.out) | exact HB.out)) hb); clear HO_1; clear HO_47; clear HL253_1; clear HO257; clear HR253_1; clear BK254; clear HB; have HO_1 := n0_; have HO_47 := n1_; have HL253_1 := n2_; have HO257 := n3_; have HR253_1 := n4_; have BK254 := n5_; have HB := n6_; clear n0_ n1_ n2_ n3_ n4_ n5_ n6_; (try clear hb); (try clear hb2); (try clear hk); (try clear hi); have hcz38_0 : w37.cell? ⟨gb254, 0, none⟩ = some (.int .i64 ((rd_T45 l1 x49_4).f0)) := (blk_cell BK254.out 0).trans rfl; have hcz38_1 : w37.cell? ⟨gb254, 1, none⟩ = some (.slice A253_1 ((rd_T45 l1 x49_4).f1).length c253_1) := (blk_cell BK254.out 1).trans rfl; have hfz38_0 := blk_frozen BK254.out 0; have hfz38_1 := blk_frozen BK254.out 1))
                go_roundg k4
                case measure => have := HJ5.out; have := HJ18.out; have := HJ20.out; have := HK4.out; omega
                case rel => exact ⟨(9), ((rd_T45 l1 x49_4).f0), (wrap64 (x49_4 + 1)), (by first | rfl | (simp; done) | (simp [*]; done)), (by first | rfl | (simp; done) | (simp [*]; done)), (by first | rfl | (simp; done) | (simp [*]; done)), H', ⟨by have := HJ5.out; have := HJ18.out; have := HJ20.out; have := HK4.out; omega⟩, ⟨by (with_reducible repeat (first | apply Kd.V_alloc | apply Kd.V_drewN | apply Kd.V_drew)); exact Kd.V_mono HO_1.out (fun _ hk => hk.1.1)⟩, ⟨by (with_reducible repeat (first | apply Kd.V_alloc | apply Kd.V_drewN | apply Kd.V_drew)); exact Kd.V_mono HO_47.out (fun _ hk => hk.1.1)⟩, ⟨by repeat (first | (with_reducible first | exact HB.out | apply below_alloc | apply pw_below_drewN | apply below_drew1 | refine below_set ?_ GE254.out) | exact HB.out)⟩⟩
               ·rw [if_neg c29] at H
                have c29b0 : decide (((rd_T45 l1 x49_4).f0) ≤ x11_4) = false := decide_eq_false c29
                clear c29
                by_cases c39 : ((rd_T45 l1 x49_4).f0) > 131072000
                ·rw [if_pos c39] at H
                 have c39b0 : decide (131072000 < ((rd_T45 l1 x49_4).f0)) = true := decide_eq_true c39
                 clear c39
                 have H' := Aside0.mk H
                 clear H
                 have p253 : 0 ≤ (x49_4 : Int) := of_decide_eq_true (by first | (with_reducible assumption) | assumption)
                 have q253 : x49_4 < (l1.length : Int) := of_decide_eq_true (by first | (with_reducible assumption) | assumption)
                 obtain ⟨ad253, A253_1, c253_1, e253, hx253_0, hx253_1, hl253_1, hi253_1⟩ := at_T45 (Kd.V_reads' HO_47.out).2.2 x49_4 p253 q253
                 cases e253
                 obtain ⟨ce253, hce253, hMe253, hcc253⟩ := Kd.V_get HO_47.out z45 x49_4 p253 (by first | exact q253 | exact of_decide_eq_true (by first | (with_reducible assumption) | assumption) | (have e_ := (Kd.V_reads' HO_47.out).1; omega))
                 obtain ⟨ua253_1, uc253_1, rfl, ul253_1, ge253_1⟩ := k45_openF hMe253
                 have hv253_1 := hcc253 1 _ rfl
                 rw [add_field _ _ 1 (by omega)] at hv253_1
                 replace hv253_1 := Option.some.inj (hv253_1.symm.trans hx253_1)
                 injection hv253_1 with hva_ hvn_ hvc_
                 rw [hva_] at ge253_1
                 rw [hvc_] at ul253_1
                 have HL253_1 := Aside0.mk (show Kd.V k37 37 _ w.heap.size _ _ ((rd_T45 l1 x49_4).f1) from Kd.V_mk ul253_1 ge253_1)
                 clear hva_ hvn_ hvc_ ge253_1 ul253_1
                 clear hcc253 hce253
                 have HR253_1 := Aside0.mk hi253_1
                 have HC253_1 := Aside0.mk hl253_1
                 clear hi253_1 hl253_1
                 replace p253 := eq_true p253
                 replace q253 := eq_true q253
                 go_wp2_with (first | ((with_reducible refine gate_dst (N := 13) rfl ?_); (try (refine gate_guard (by rfl) ?_; dsimp only)); refine box_event ?hg (N := 13) ?hd (cs := #[.int .i64 0, .slice none 0 0]) (t := 45) ?hr ?_; (case hd => rfl); (case hg => rfl); (case hr => first | (go_simp; done) | (go_simp; rfl)); intro gb254 hg w40 hbox hb; have n0_ := Aside0.mk (Kd.V_below (Kd.V_elderB (by (with_reducible repeat (first | apply Kd.V_alloc | apply Kd.V_drewN | apply Kd.V_drew)); exact HO_1.out) gb254 (Nat.le_of_eq hg.symm)) hb); have n1_ := Aside0.mk (Kd.V_below (Kd.V_elderB (by (with_reducible repeat (first | apply Kd.V_alloc | apply Kd.V_drewN | apply Kd.V_drew)); exact HO_47.out) gb254 (Nat.le_of_eq hg.symm)) hb); have n2_ := Aside0.mk (Kd.V_below (Kd.V_elderB (by (with_reducible repeat (first | apply Kd.V_alloc | apply Kd.V_drewN | apply Kd.V_drew)); exact HL253_1.out) gb254 (Nat.le_of_eq hg.symm)) hb); have n3_ := Aside0.mk (Kd.C_below (by repeat (first | (with_reducible exact HR253_1.out) | (with_reducible refine Kd.C_alloc ?_ _) | (with_reducible refine Kd.C_drewN ?_ _) | (with_reducible refine Kd.C_drew ?_) | exact HR253_1.out)) hb); have n4_ := Aside0.mk (below_step (by repeat (first | (with_reducible first | exact HB.out | apply below_alloc | apply pw_below_drewN | apply below_drew1) | exact HB.out)) hb); have n5_ := Aside0.mk (hbox); have n6_ := Aside0.mk ((by rw [hg]; exact (below_size (by repeat (first | (with_reducible first | exact HB.out | apply below_alloc | apply pw_below_drewN | apply below_drew1) | exact HB.out))) : w.heap.size ≤ gb254)); have n7_ := Aside0.mk ((by rw [hg]; exact (below_size (by repeat (first | (with_reducible first | exact HB.out | apply below_alloc | apply pw_below_drewN | apply below_drew1) | exact HB.out))) : w.heap.size ≤ gb254)); clear HO_1; clear HO_47; clear HL253_1; clear HR253_1; clear HB; have HO_1 := n0_; have HO_47 := n1_; have HL253_1 := n2_; have HR253_1 := n3_; have HB := n4_; have BK254 := n5_; have GW254 := n6_; have GE254 := n7_; clear n0_ n1_ n2_ n3_ n4_ n5_ n6_ n7_; clear hb hbox hg; have hcz41_0 : w40.cell? ⟨gb254, 0, none⟩ = some (.int .i64 0) := (blk_cell BK254.out 0).trans rfl; have hcz41_1 : w40.cell? ⟨gb254, 1, none⟩ = some (.slice none 0 0) := (blk_cell BK254.out 1).trans rfl; have hfz41_0 := blk_frozen BK254.out 0; have hfz41_1 := blk_frozen BK254.out 1) | ((with_reducible refine gate_store (t := 45) (p := 13) rfl ?_); refine store_event (t := 45) (p := 13) (v := ?vo_w42) (w1 := ((w40.setCell ⟨gb254, 0, none⟩ (.int .i64 ((rd_T45 l1 x49_4).f0))).setCell ⟨gb254, 1, none⟩ (.slice A253_1 ((rd_T45 l1 x49_4).f1).length c253_1))) ?hg ?ho ?hn ?hr ?_; (case ho => rfl); (case hg => rfl); (case hn => rfl); (case hr => first | (go_simp; done) | (go_simp; rfl)); intro w42 hw; have n0_ : Aside0 (Kd.V k45 45 w42 w.heap.size (fun k_ => (P1_ k_ ∨ w.heap.size ≤ k_) ∧ k_ ≠ gb254) (.slice (some ad253) l1.length c1) l1) := ⟨(by rw [hw]; exact (by (with_reducible repeat (first | apply Kd.V_alloc | apply Kd.V_drewN | apply Kd.V_drew)); exact Kd.V_mono (Kd.V_far (p := ⟨gb254, 1, none⟩) (Kd.V_far (p := ⟨gb254, 0, none⟩) (Kd.V_mono HO_1.out (fun k_ hk => (⟨hk, hk.2⟩ : _ ∧ k_ ≠ gb254))) (fun _ hk => hk.2) (.int .i64 ((rd_T45 l1 x49_4).f0))) (fun _ hk => hk.2) (.slice A253_1 ((rd_T45 l1 x49_4).f1).length c253_1)) (fun _ hk => ⟨hk.1.1, hk.1.2⟩)))⟩; have n1_ : Aside0 (Kd.V k45 45 w42 w.heap.size (fun k_ => (P1_ k_ ∨ w.heap.size ≤ k_) ∧ k_ ≠ gb254) (.slice (some ad253) l1.length c1) l1) := ⟨(by rw [hw]; exact (by (with_reducible repeat (first | apply Kd.V_alloc | apply Kd.V_drewN | apply Kd.V_drew)); exact Kd.V_mono (Kd.V_far (p := ⟨gb254, 1, none⟩) (Kd.V_far (p := ⟨gb254, 0, none⟩) (Kd.V_mono HO_47.out (fun k_ hk => (⟨hk, hk.2⟩ : _ ∧ k_ ≠ gb254))) (fun _ hk => hk.2) (.int .i64 ((rd_T45 l1 x49_4).f0))) (fun _ hk => hk.2) (.slice A253_1 ((rd_T45 l1 x49_4).f1).length c253_1)) (fun _ hk => ⟨hk.1.1, hk.1.2⟩)))⟩; have n2_ : Aside0 (Kd.V k37 37 w42 w.heap.size (fun k_ => (P1_ k_ ∨ w.heap.size ≤ k_) ∧ k_ ≠ gb254) (.slice A253_1 ((rd_T45 l1 x49_4).f1).length c253_1) ((rd_T45 l1 x49_4).f1)) := ⟨(by rw [hw]; exact (by (with_reducible repeat (first | apply Kd.V_alloc | apply Kd.V_drewN | apply Kd.V_drew)); exact Kd.V_mono (Kd.V_far (p := ⟨gb254, 1, none⟩) (Kd.V_far (p := ⟨gb254, 0, none⟩) (Kd.V_mono HL253_1.out (fun k_ hk => (⟨hk, hk.2⟩ : _ ∧ k_ ≠ gb254))) (fun _ hk => hk.2) (.int .i64 ((rd_T45 l1 x49_4).f0))) (fun _ hk => hk.2) (.slice A253_1 ((rd_T45 l1 x49_4).f1).length c253_1)) (fun _ hk => ⟨hk.1.1, hk.1.2⟩)))⟩; have n3_ : Aside0 (w42.heap[gb254]? = some (.cells #[.int .i64 ((rd_T45 l1 x49_4).f0), .slice A253_1 ((rd_T45 l1 x49_4).f1).length c253_1] 45 (0, 0))) := ⟨(by rw [hw]; exact (by (with_reducible repeat (first | refine blk_drewN ?_ _ | refine blk_drew ?_ | refine blk_alloc ?_ _)); refine blk_put (cs := #[.int .i64 ((rd_T45 l1 x49_4).f0), .slice none 0 0]) ?_ 1 _ rfl; (with_reducible repeat (first | refine blk_drewN ?_ _ | refine blk_drew ?_ | refine blk_alloc ?_ _)); refine blk_put (cs := #[.int .i64 0, .slice none 0 0]) ?_ 0 _ rfl; (with_reducible repeat (first | refine blk_drewN ?_ _ | refine blk_drew ?_ | refine blk_alloc ?_ _)); exact BK254.out))⟩; have n4_ : Aside0 (Below w.heap.size w w42) := ⟨(by rw [hw]; exact (by repeat (first | (with_reducible first | exact HB.out | apply below_alloc | apply pw_below_drewN | apply below_drew1 | refine below_set ?_ GE254.out) | exact HB.out)))⟩; clear hw; clear HO_1; clear HO_47; clear HL253_1; clear BK254; clear HB; have HO_1 := n0_; have HO_47 := n1_; have HL253_1 := n2_; have BK254 := n3_; have HB := n4_; clear n0_ n1_ n2_ n3_ n4_; have hcz43_0 : w42.cell? ⟨gb254, 0, none⟩ = some (.int .i64 ((rd_T45 l1 x49_4).f0)) := (blk_cell BK254.out 0).trans rfl; have hcz43_1 : w42.cell? ⟨gb254, 1, none⟩ = some (.slice A253_1 ((rd_T45 l1 x49_4).f1).length c253_1) := (blk_cell BK254.out 1).trans rfl; have hfz43_0 := blk_frozen BK254.out 0; have hfz43_1 := blk_frozen BK254.out 1) | ((with_reducible refine gate_dst (N := 58) rfl ?_); (try (refine gate_guard (by rfl) ?_; dsimp only)); refine Kd.N_lit (Kd.slice 37 k37) _ 30 ?hg (N' := 58) ?hd (xs := ([(rd_T45 l1 x49_4).f1] : List (List (S37)))) (inner := [.slice A253_1 ((rd_T45 l1 x49_4).f1).length c253_1]) (ok := (fun k_ => (P1_ k_ ∨ w.heap.size ≤ k_) ∧ k_ ≠ gb254)) (okp := (fun k_ => (P1_ k_ ∨ w.heap.size ≤ k_) ∧ k_ ≠ gb254)) ?hr ?hp (fun _ hk => hk) ((show ∀ k_, w42.heap.size ≤ k_ → (fun k_ => (P1_ k_ ∨ w.heap.size ≤ k_) ∧ k_ ≠ gb254) k_ from fun k_ hk => ⟨(.inr (Nat.le_trans (below_size (by repeat (first | (with_reducible first | exact HB.out | apply below_alloc | apply pw_below_drewN | apply below_drew1 | refine below_set ?_ GE254.out) | exact HB.out))) hk)), Kd.freshB (g := gb254) (o := .cells #[.int .i64 ((rd_T45 l1 x49_4).f0), .slice A253_1 ((rd_T45 l1 x49_4).f1).length c253_1] 45 (0, 0)) (by (with_reducible repeat (first | refine blk_drewN ?_ _ | refine blk_drew ?_ | refine blk_alloc ?_ _)); exact BK254.out) k_ hk⟩) _ (Nat.le_refl _)) (Below.refl _ _) (Nat.le_refl _) (by simp) ?_; (case hd => rfl); (case hg => rfl); (case hr => first | (go_simp; done) | (go_simp; rfl)); (case hp => exact (Reps.one (show Kd.FK (Kd.slice 37 k37) _ _ ((rd_T45 l1 x49_4).f1) [.slice A253_1 ((rd_T45 l1 x49_4).f1).length c253_1] from (Kd.FK_slice_mk (Kd.V_reads' (Kd.V_mono (ok' := (fun k_ => (P1_ k_ ∨ w.heap.size ≤ k_) ∧ k_ ≠ gb254)) (HL253_1.out) (fun k_ hk => ⟨hk.1, hk.2⟩))).2.1 (Kd.V_F (Kd.V_mono (ok' := (fun k_ => (P1_ k_ ∨ w.heap.size ≤ k_) ∧ k_ ≠ gb254)) (HL253_1.out) (fun k_ hk => ⟨hk.1, hk.2⟩))))) (Reps.none _ _))); intro v256 w44 ho45 hb hg_ hnew_; clear hg_ hnew_; (first | rw [← Ny255.out] at ho45 | (simp only [Int.reduceToNat] at ho45; rw [← Ny255.out] at ho45)); have n0_ := Aside0.mk (Kd.V_elder' (by (with_reducible repeat (first | apply Kd.V_alloc | apply Kd.V_drewN | apply Kd.V_drew)); exact HO_1.out) (Kd.N_base ho45) hb); have n1_ := Aside0.mk (Kd.V_elder' (by (with_reducible repeat (first | apply Kd.V_alloc | apply Kd.V_drewN | apply Kd.V_drew)); exact HO_47.out) (Kd.N_base ho45) hb); have n2_ := Aside0.mk (Kd.V_elder' (by (with_reducible repeat (first | apply Kd.V_alloc | apply Kd.V_drewN | apply Kd.V_drew)); exact HL253_1.out) (Kd.N_base ho45) hb); have n3_ := Aside0.mk (Kd.N_lower ho45 (below_size (by repeat (first | (with_reducible first | exact HB.out | apply below_alloc | apply pw_below_drewN | apply below_drew1 | refine below_set ?_ GE254.out) | exact HB.out)))); have n4_ := Aside0.mk ((Kd.V_reads' n2_.out).2.2); have n5_ := Aside0.mk (blk_below (g := gb254) (o := .cells #[.int .i64 ((rd_T45 l1 x49_4).f0), .slice A253_1 ((rd_T45 l1 x49_4).f1).length c253_1] 45 (0, 0)) (by (with_reducible repeat (first | refine blk_drewN ?_ _ | refine blk_drew ?_ | refine blk_alloc ?_ _)); exact BK254.out) hb); have n6_ := Aside0.mk (below_step (by repeat (first | (with_reducible first | exact HB.out | apply below_alloc | apply pw_below_drewN | apply below_drew1 | refine below_set ?_ GE254.out) | exact HB.out)) hb); clear HO_1; clear HO_47; clear HL253_1; clear HR253_1; clear BK254; clear HB; have HO_1 := n0_; have HO_47 := n1_; have HL253_1 := n2_; have HO257 := n3_; have HR253_1 := n4_; have BK254 := n5_; have HB := n6_; clear n0_ n1_ n2_ n3_ n4_ n5_ n6_; clear hb ho45; obtain ⟨Ao46, co46, eo46⟩ := Kd.N_slice HO257.out; subst eo46) | ((with_reducible refine gate_callee (f := 13) rfl ?_); refine goesL_ (some 59) rfl rfl Try.func13 (by kernel_rfl) rfl #[.slice A0 l0.length c0, .slice Ao46 y255.length co46] rfl (by (try simp only [List.map_toArray, List.map_cons, List.map_nil]); first | done | rfl | (simp only [List.length_drop, List.length_take]; rfl)) ?_; (with_reducible refine (tourref5_BonesFault.calls k4 _ _ l0 _ _ y255 t258 _ ?side1 ?side2 ?side3 ?side4 A27.out).mono ?_); (case side1 => repeat (first | exact (Kd.C_below HR0.out HB.out) | (with_reducible refine Kd.C_alloc ?_ _) | (with_reducible refine Kd.C_drewN ?_ _) | (with_reducible refine Kd.C_drew ?_))); (case side2 => exact HC0.out); (case side3 => repeat (first | exact (Kd.N_reads' HO257.out).2.2 | (with_reducible refine Kd.C_alloc ?_ _) | (with_reducible refine Kd.C_drewN ?_ _) | (with_reducible refine Kd.C_drew ?_))); (case side4 => exact (Kd.N_reads' HO257.out).2.1); rintro e w47 ⟨rfl, hb⟩; refine ⟨_, rfl, ?_⟩; have n0_ := Aside0.mk (Kd.V_below (by (with_reducible repeat (first | apply Kd.V_alloc | apply Kd.V_drewN | apply Kd.V_drew)); exact HO_1.out) hb); have n1_ := Aside0.mk (Kd.V_below (by (with_reducible repeat (first | apply Kd.V_alloc | apply Kd.V_drewN | apply Kd.V_drew)); exact HO_47.out) hb); have n2_ := Aside0.mk (Kd.V_below (by (with_reducible repeat (first | apply Kd.V_alloc | apply Kd.V_drewN | apply Kd.V_drew)); exact HL253_1.out) hb); have n3_ := Aside0.mk (Kd.N_below (by (with_reducible repeat (first | apply Kd.N_alloc | apply Kd.N_drewN | apply Kd.N_drew)); exact HO257.out) hb); have n4_ := Aside0.mk (Kd.C_below (by repeat (first | (with_reducible exact HR253_1.out) | (with_reducible refine Kd.C_alloc ?_ _) | (with_reducible refine Kd.C_drewN ?_ _) | (with_reducible refine Kd.C_drew ?_) | exact HR253_1.out)) hb); have n5_ := Aside0.mk (blk_below (g := gb254) (o := .cells #[.int .i64 ((rd_T45 l1 x49_4).f0), .slice A253_1 ((rd_T45 l1 x49_4).f1).length c253_1] 45 (0, 0)) (by (with_reducible repeat (first | refine blk_drewN ?_ _ | refine blk_drew ?_ | refine blk_alloc ?_ _)); exact BK254.out) hb); have n6_ := Aside0.mk (below_step (by repeat (first | (with_reducible first | exact HB.out | apply below_alloc | apply pw_below_drewN | apply below_drew1 | refine below_set ?_ GE254.out) | exact HB.out)) hb); clear HO_1; clear HO_47; clear HL253_1; clear HO257; clear HR253_1; clear BK254; clear HB; have HO_1 := n0_; have HO_47 := n1_; have HL253_1 := n2_; have HO257 := n3_; have HR253_1 := n4_; have BK254 := n5_; have HB := n6_; clear n0_ n1_ n2_ n3_ n4_ n5_ n6_; (try clear hb); (try clear hb2); (try clear hk); (try clear hi); have hcz48_0 : w47.cell? ⟨gb254, 0, none⟩ = some (.int .i64 ((rd_T45 l1 x49_4).f0)) := (blk_cell BK254.out 0).trans rfl; have hcz48_1 : w47.cell? ⟨gb254, 1, none⟩ = some (.slice A253_1 ((rd_T45 l1 x49_4).f1).length c253_1) := (blk_cell BK254.out 1).trans rfl; have hfz48_0 := blk_frozen BK254.out 0; have hfz48_1 := blk_frozen BK254.out 1))
                 go_roundg k4
                 case measure => have := HJ5.out; have := HJ18.out; have := HJ20.out; have := HK4.out; omega
                 case rel => exact ⟨(9), ((rd_T45 l1 x49_4).f0), (wrap64 (x49_4 + 1)), (by first | rfl | (simp; done) | (simp [*]; done)), (by first | rfl | (simp; done) | (simp [*]; done)), (by first | rfl | (simp; done) | (simp [*]; done)), H', ⟨by have := HJ5.out; have := HJ18.out; have := HJ20.out; have := HK4.out; omega⟩, ⟨by (with_reducible repeat (first | apply Kd.V_alloc | apply Kd.V_drewN | apply Kd.V_drew)); exact Kd.V_mono HO_1.out (fun _ hk => hk.1.1)⟩, ⟨by (with_reducible repeat (first | apply Kd.V_alloc | apply Kd.V_drewN | apply Kd.V_drew)); exact Kd.V_mono HO_47.out (fun _ hk => hk.1.1)⟩, ⟨by repeat (first | (with_reducible first | exact HB.out | apply below_alloc | apply pw_below_drewN | apply below_drew1 | refine below_set ?_ GE254.out) | exact HB.out)⟩⟩
                ·rw [if_neg c39] at H
                 have c39b0 : decide (131072000 < ((rd_T45 l1 x49_4).f0)) = false := decide_eq_false c39
                 clear c39
                 have H' := Aside0.mk H
                 clear H
                 have p253 : 0 ≤ (x49_4 : Int) := of_decide_eq_true (by first | (with_reducible assumption) | assumption)
                 have q253 : x49_4 < (l1.length : Int) := of_decide_eq_true (by first | (with_reducible assumption) | assumption)
                 obtain ⟨ad253, A253_1, c253_1, e253, hx253_0, hx253_1, hl253_1, hi253_1⟩ := at_T45 (Kd.V_reads' HO_47.out).2.2 x49_4 p253 q253
                 cases e253
                 obtain ⟨ce253, hce253, hMe253, hcc253⟩ := Kd.V_get HO_47.out z45 x49_4 p253 (by first | exact q253 | exact of_decide_eq_true (by first | (with_reducible assumption) | assumption) | (have e_ := (Kd.V_reads' HO_47.out).1; omega))
                 obtain ⟨ua253_1, uc253_1, rfl, ul253_1, ge253_1⟩ := k45_openF hMe253
                 have hv253_1 := hcc253 1 _ rfl
                 rw [add_field _ _ 1 (by omega)] at hv253_1
                 replace hv253_1 := Option.some.inj (hv253_1.symm.trans hx253_1)
                 injection hv253_1 with hva_ hvn_ hvc_
                 rw [hva_] at ge253_1
                 rw [hvc_] at ul253_1
                 have HL253_1 := Aside0.mk (show Kd.V k37 37 _ w.heap.size _ _ ((rd_T45 l1 x49_4).f1) from Kd.V_mk ul253_1 ge253_1)
                 clear hva_ hvn_ hvc_ ge253_1 ul253_1
                 clear hcc253 hce253
                 have HR253_1 := Aside0.mk hi253_1
                 have HC253_1 := Aside0.mk hl253_1
                 clear hi253_1 hl253_1
                 replace p253 := eq_true p253
                 replace q253 := eq_true q253
                 go_wp2_with (first | ((with_reducible refine gate_dst (N := 13) rfl ?_); (try (refine gate_guard (by rfl) ?_; dsimp only)); refine box_event ?hg (N := 13) ?hd (cs := #[.int .i64 0, .slice none 0 0]) (t := 45) ?hr ?_; (case hd => rfl); (case hg => rfl); (case hr => first | (go_simp; done) | (go_simp; rfl)); intro gb254 hg w49 hbox hb; have n0_ := Aside0.mk (Kd.V_below (Kd.V_elderB (by (with_reducible repeat (first | apply Kd.V_alloc | apply Kd.V_drewN | apply Kd.V_drew)); exact HO_1.out) gb254 (Nat.le_of_eq hg.symm)) hb); have n1_ := Aside0.mk (Kd.V_below (Kd.V_elderB (by (with_reducible repeat (first | apply Kd.V_alloc | apply Kd.V_drewN | apply Kd.V_drew)); exact HO_47.out) gb254 (Nat.le_of_eq hg.symm)) hb); have n2_ := Aside0.mk (Kd.V_below (Kd.V_elderB (by (with_reducible repeat (first | apply Kd.V_alloc | apply Kd.V_drewN | apply Kd.V_drew)); exact HL253_1.out) gb254 (Nat.le_of_eq hg.symm)) hb); have n3_ := Aside0.mk (Kd.C_below (by repeat (first | (with_reducible exact HR253_1.out) | (with_reducible refine Kd.C_alloc ?_ _) | (with_reducible refine Kd.C_drewN ?_ _) | (with_reducible refine Kd.C_drew ?_) | exact HR253_1.out)) hb); have n4_ := Aside0.mk (below_step (by repeat (first | (with_reducible first | exact HB.out | apply below_alloc | apply pw_below_drewN | apply below_drew1) | exact HB.out)) hb); have n5_ := Aside0.mk (hbox); have n6_ := Aside0.mk ((by rw [hg]; exact (below_size (by repeat (first | (with_reducible first | exact HB.out | apply below_alloc | apply pw_below_drewN | apply below_drew1) | exact HB.out))) : w.heap.size ≤ gb254)); have n7_ := Aside0.mk ((by rw [hg]; exact (below_size (by repeat (first | (with_reducible first | exact HB.out | apply below_alloc | apply pw_below_drewN | apply below_drew1) | exact HB.out))) : w.heap.size ≤ gb254)); clear HO_1; clear HO_47; clear HL253_1; clear HR253_1; clear HB; have HO_1 := n0_; have HO_47 := n1_; have HL253_1 := n2_; have HR253_1 := n3_; have HB := n4_; have BK254 := n5_; have GW254 := n6_; have GE254 := n7_; clear n0_ n1_ n2_ n3_ n4_ n5_ n6_ n7_; clear hb hbox hg; have hcz50_0 : w49.cell? ⟨gb254, 0, none⟩ = some (.int .i64 0) := (blk_cell BK254.out 0).trans rfl; have hcz50_1 : w49.cell? ⟨gb254, 1, none⟩ = some (.slice none 0 0) := (blk_cell BK254.out 1).trans rfl; have hfz50_0 := blk_frozen BK254.out 0; have hfz50_1 := blk_frozen BK254.out 1) | ((with_reducible refine gate_store (t := 45) (p := 13) rfl ?_); refine store_event (t := 45) (p := 13) (v := ?vo_w51) (w1 := ((w49.setCell ⟨gb254, 0, none⟩ (.int .i64 ((rd_T45 l1 x49_4).f0))).setCell ⟨gb254, 1, none⟩ (.slice A253_1 ((rd_T45 l1 x49_4).f1).length c253_1))) ?hg ?ho ?hn ?hr ?_; (case ho => rfl); (case hg => rfl); (case hn => rfl); (case hr => first | (go_simp; done) | (go_simp; rfl)); intro w51 hw; have n0_ : Aside0 (Kd.V k45 45 w51 w.heap.size (fun k_ => (P1_ k_ ∨ w.heap.size ≤ k_) ∧ k_ ≠ gb254) (.slice (some ad253) l1.length c1) l1) := ⟨(by rw [hw]; exact (by (with_reducible repeat (first | apply Kd.V_alloc | apply Kd.V_drewN | apply Kd.V_drew)); exact Kd.V_mono (Kd.V_far (p := ⟨gb254, 1, none⟩) (Kd.V_far (p := ⟨gb254, 0, none⟩) (Kd.V_mono HO_1.out (fun k_ hk => (⟨hk, hk.2⟩ : _ ∧ k_ ≠ gb254))) (fun _ hk => hk.2) (.int .i64 ((rd_T45 l1 x49_4).f0))) (fun _ hk => hk.2) (.slice A253_1 ((rd_T45 l1 x49_4).f1).length c253_1)) (fun _ hk => ⟨hk.1.1, hk.1.2⟩)))⟩; have n1_ : Aside0 (Kd.V k45 45 w51 w.heap.size (fun k_ => (P1_ k_ ∨ w.heap.size ≤ k_) ∧ k_ ≠ gb254) (.slice (some ad253) l1.length c1) l1) := ⟨(by rw [hw]; exact (by (with_reducible repeat (first | apply Kd.V_alloc | apply Kd.V_drewN | apply Kd.V_drew)); exact Kd.V_mono (Kd.V_far (p := ⟨gb254, 1, none⟩) (Kd.V_far (p := ⟨gb254, 0, none⟩) (Kd.V_mono HO_47.out (fun k_ hk => (⟨hk, hk.2⟩ : _ ∧ k_ ≠ gb254))) (fun _ hk => hk.2) (.int .i64 ((rd_T45 l1 x49_4).f0))) (fun _ hk => hk.2) (.slice A253_1 ((rd_T45 l1 x49_4).f1).length c253_1)) (fun _ hk => ⟨hk.1.1, hk.1.2⟩)))⟩; have n2_ : Aside0 (Kd.V k37 37 w51 w.heap.size (fun k_ => (P1_ k_ ∨ w.heap.size ≤ k_) ∧ k_ ≠ gb254) (.slice A253_1 ((rd_T45 l1 x49_4).f1).length c253_1) ((rd_T45 l1 x49_4).f1)) := ⟨(by rw [hw]; exact (by (with_reducible repeat (first | apply Kd.V_alloc | apply Kd.V_drewN | apply Kd.V_drew)); exact Kd.V_mono (Kd.V_far (p := ⟨gb254, 1, none⟩) (Kd.V_far (p := ⟨gb254, 0, none⟩) (Kd.V_mono HL253_1.out (fun k_ hk => (⟨hk, hk.2⟩ : _ ∧ k_ ≠ gb254))) (fun _ hk => hk.2) (.int .i64 ((rd_T45 l1 x49_4).f0))) (fun _ hk => hk.2) (.slice A253_1 ((rd_T45 l1 x49_4).f1).length c253_1)) (fun _ hk => ⟨hk.1.1, hk.1.2⟩)))⟩; have n3_ : Aside0 (w51.heap[gb254]? = some (.cells #[.int .i64 ((rd_T45 l1 x49_4).f0), .slice A253_1 ((rd_T45 l1 x49_4).f1).length c253_1] 45 (0, 0))) := ⟨(by rw [hw]; exact (by (with_reducible repeat (first | refine blk_drewN ?_ _ | refine blk_drew ?_ | refine blk_alloc ?_ _)); refine blk_put (cs := #[.int .i64 ((rd_T45 l1 x49_4).f0), .slice none 0 0]) ?_ 1 _ rfl; (with_reducible repeat (first | refine blk_drewN ?_ _ | refine blk_drew ?_ | refine blk_alloc ?_ _)); refine blk_put (cs := #[.int .i64 0, .slice none 0 0]) ?_ 0 _ rfl; (with_reducible repeat (first | refine blk_drewN ?_ _ | refine blk_drew ?_ | refine blk_alloc ?_ _)); exact BK254.out))⟩; have n4_ : Aside0 (Below w.heap.size w w51) := ⟨(by rw [hw]; exact (by repeat (first | (with_reducible first | exact HB.out | apply below_alloc | apply pw_below_drewN | apply below_drew1 | refine below_set ?_ GE254.out) | exact HB.out)))⟩; clear hw; clear HO_1; clear HO_47; clear HL253_1; clear BK254; clear HB; have HO_1 := n0_; have HO_47 := n1_; have HL253_1 := n2_; have BK254 := n3_; have HB := n4_; clear n0_ n1_ n2_ n3_ n4_; have hcz52_0 : w51.cell? ⟨gb254, 0, none⟩ = some (.int .i64 ((rd_T45 l1 x49_4).f0)) := (blk_cell BK254.out 0).trans rfl; have hcz52_1 : w51.cell? ⟨gb254, 1, none⟩ = some (.slice A253_1 ((rd_T45 l1 x49_4).f1).length c253_1) := (blk_cell BK254.out 1).trans rfl; have hfz52_0 := blk_frozen BK254.out 0; have hfz52_1 := blk_frozen BK254.out 1) | ((with_reducible refine gate_dst (N := 58) rfl ?_); (try (refine gate_guard (by rfl) ?_; dsimp only)); refine Kd.N_lit (Kd.slice 37 k37) _ 30 ?hg (N' := 58) ?hd (xs := ([(rd_T45 l1 x49_4).f1] : List (List (S37)))) (inner := [.slice A253_1 ((rd_T45 l1 x49_4).f1).length c253_1]) (ok := (fun k_ => (P1_ k_ ∨ w.heap.size ≤ k_) ∧ k_ ≠ gb254)) (okp := (fun k_ => (P1_ k_ ∨ w.heap.size ≤ k_) ∧ k_ ≠ gb254)) ?hr ?hp (fun _ hk => hk) ((show ∀ k_, w51.heap.size ≤ k_ → (fun k_ => (P1_ k_ ∨ w.heap.size ≤ k_) ∧ k_ ≠ gb254) k_ from fun k_ hk => ⟨(.inr (Nat.le_trans (below_size (by repeat (first | (with_reducible first | exact HB.out | apply below_alloc | apply pw_below_drewN | apply below_drew1 | refine below_set ?_ GE254.out) | exact HB.out))) hk)), Kd.freshB (g := gb254) (o := .cells #[.int .i64 ((rd_T45 l1 x49_4).f0), .slice A253_1 ((rd_T45 l1 x49_4).f1).length c253_1] 45 (0, 0)) (by (with_reducible repeat (first | refine blk_drewN ?_ _ | refine blk_drew ?_ | refine blk_alloc ?_ _)); exact BK254.out) k_ hk⟩) _ (Nat.le_refl _)) (Below.refl _ _) (Nat.le_refl _) (by simp) ?_; (case hd => rfl); (case hg => rfl); (case hr => first | (go_simp; done) | (go_simp; rfl)); (case hp => exact (Reps.one (show Kd.FK (Kd.slice 37 k37) _ _ ((rd_T45 l1 x49_4).f1) [.slice A253_1 ((rd_T45 l1 x49_4).f1).length c253_1] from (Kd.FK_slice_mk (Kd.V_reads' (Kd.V_mono (ok' := (fun k_ => (P1_ k_ ∨ w.heap.size ≤ k_) ∧ k_ ≠ gb254)) (HL253_1.out) (fun k_ hk => ⟨hk.1, hk.2⟩))).2.1 (Kd.V_F (Kd.V_mono (ok' := (fun k_ => (P1_ k_ ∨ w.heap.size ≤ k_) ∧ k_ ≠ gb254)) (HL253_1.out) (fun k_ hk => ⟨hk.1, hk.2⟩))))) (Reps.none _ _))); intro v256 w53 ho54 hb hg_ hnew_; clear hg_ hnew_; (first | rw [← Ny255.out] at ho54 | (simp only [Int.reduceToNat] at ho54; rw [← Ny255.out] at ho54)); have n0_ := Aside0.mk (Kd.V_elder' (by (with_reducible repeat (first | apply Kd.V_alloc | apply Kd.V_drewN | apply Kd.V_drew)); exact HO_1.out) (Kd.N_base ho54) hb); have n1_ := Aside0.mk (Kd.V_elder' (by (with_reducible repeat (first | apply Kd.V_alloc | apply Kd.V_drewN | apply Kd.V_drew)); exact HO_47.out) (Kd.N_base ho54) hb); have n2_ := Aside0.mk (Kd.V_elder' (by (with_reducible repeat (first | apply Kd.V_alloc | apply Kd.V_drewN | apply Kd.V_drew)); exact HL253_1.out) (Kd.N_base ho54) hb); have n3_ := Aside0.mk (Kd.N_lower ho54 (below_size (by repeat (first | (with_reducible first | exact HB.out | apply below_alloc | apply pw_below_drewN | apply below_drew1 | refine below_set ?_ GE254.out) | exact HB.out)))); have n4_ := Aside0.mk ((Kd.V_reads' n2_.out).2.2); have n5_ := Aside0.mk (blk_below (g := gb254) (o := .cells #[.int .i64 ((rd_T45 l1 x49_4).f0), .slice A253_1 ((rd_T45 l1 x49_4).f1).length c253_1] 45 (0, 0)) (by (with_reducible repeat (first | refine blk_drewN ?_ _ | refine blk_drew ?_ | refine blk_alloc ?_ _)); exact BK254.out) hb); have n6_ := Aside0.mk (below_step (by repeat (first | (with_reducible first | exact HB.out | apply below_alloc | apply pw_below_drewN | apply below_drew1 | refine below_set ?_ GE254.out) | exact HB.out)) hb); clear HO_1; clear HO_47; clear HL253_1; clear HR253_1; clear BK254; clear HB; have HO_1 := n0_; have HO_47 := n1_; have HL253_1 := n2_; have HO257 := n3_; have HR253_1 := n4_; have BK254 := n5_; have HB := n6_; clear n0_ n1_ n2_ n3_ n4_ n5_ n6_; clear hb ho54; obtain ⟨Ao55, co55, eo55⟩ := Kd.N_slice HO257.out; subst eo55) | ((with_reducible refine gate_callee (f := 13) rfl ?_); refine goesL_ (some 59) rfl rfl Try.func13 (by kernel_rfl) rfl #[.slice A0 l0.length c0, .slice Ao55 y255.length co55] rfl (by (try simp only [List.map_toArray, List.map_cons, List.map_nil]); first | done | rfl | (simp only [List.length_drop, List.length_take]; rfl)) ?_; (with_reducible refine (tourref5_BonesFault.calls k4 _ _ l0 _ _ y255 t258 _ ?side1 ?side2 ?side3 ?side4 A27.out).mono ?_); (case side1 => repeat (first | exact (Kd.C_below HR0.out HB.out) | (with_reducible refine Kd.C_alloc ?_ _) | (with_reducible refine Kd.C_drewN ?_ _) | (with_reducible refine Kd.C_drew ?_))); (case side2 => exact HC0.out); (case side3 => repeat (first | exact (Kd.N_reads' HO257.out).2.2 | (with_reducible refine Kd.C_alloc ?_ _) | (with_reducible refine Kd.C_drewN ?_ _) | (with_reducible refine Kd.C_drew ?_))); (case side4 => exact (Kd.N_reads' HO257.out).2.1); rintro e w56 ⟨rfl, hb⟩; refine ⟨_, rfl, ?_⟩; have n0_ := Aside0.mk (Kd.V_below (by (with_reducible repeat (first | apply Kd.V_alloc | apply Kd.V_drewN | apply Kd.V_drew)); exact HO_1.out) hb); have n1_ := Aside0.mk (Kd.V_below (by (with_reducible repeat (first | apply Kd.V_alloc | apply Kd.V_drewN | apply Kd.V_drew)); exact HO_47.out) hb); have n2_ := Aside0.mk (Kd.V_below (by (with_reducible repeat (first | apply Kd.V_alloc | apply Kd.V_drewN | apply Kd.V_drew)); exact HL253_1.out) hb); have n3_ := Aside0.mk (Kd.N_below (by (with_reducible repeat (first | apply Kd.N_alloc | apply Kd.N_drewN | apply Kd.N_drew)); exact HO257.out) hb); have n4_ := Aside0.mk (Kd.C_below (by repeat (first | (with_reducible exact HR253_1.out) | (with_reducible refine Kd.C_alloc ?_ _) | (with_reducible refine Kd.C_drewN ?_ _) | (with_reducible refine Kd.C_drew ?_) | exact HR253_1.out)) hb); have n5_ := Aside0.mk (blk_below (g := gb254) (o := .cells #[.int .i64 ((rd_T45 l1 x49_4).f0), .slice A253_1 ((rd_T45 l1 x49_4).f1).length c253_1] 45 (0, 0)) (by (with_reducible repeat (first | refine blk_drewN ?_ _ | refine blk_drew ?_ | refine blk_alloc ?_ _)); exact BK254.out) hb); have n6_ := Aside0.mk (below_step (by repeat (first | (with_reducible first | exact HB.out | apply below_alloc | apply pw_below_drewN | apply below_drew1 | refine below_set ?_ GE254.out) | exact HB.out)) hb); clear HO_1; clear HO_47; clear HL253_1; clear HO257; clear HR253_1; clear BK254; clear HB; have HO_1 := n0_; have HO_47 := n1_; have HL253_1 := n2_; have HO257 := n3_; have HR253_1 := n4_; have BK254 := n5_; have HB := n6_; clear n0_ n1_ n2_ n3_ n4_ n5_ n6_; (try clear hb); (try clear hb2); (try clear hk); (try clear hi); have hcz57_0 : w56.cell? ⟨gb254, 0, none⟩ = some (.int .i64 ((rd_T45 l1 x49_4).f0)) := (blk_cell BK254.out 0).trans rfl; have hcz57_1 : w56.cell? ⟨gb254, 1, none⟩ = some (.slice A253_1 ((rd_T45 l1 x49_4).f1).length c253_1) := (blk_cell BK254.out 1).trans rfl; have hfz57_0 := blk_frozen BK254.out 0; have hfz57_1 := blk_frozen BK254.out 1))
                 go_roundg k4
                 case measure => have := HJ5.out; have := HJ18.out; have := HJ20.out; have := HK4.out; omega
                 case rel => exact ⟨(t258), ((rd_T45 l1 x49_4).f0), (wrap64 (x49_4 + 1)), (by first | rfl | (simp; done) | (simp [*]; done)), (by first | rfl | (simp; done) | (simp [*]; done)), (by first | rfl | (simp; done) | (simp [*]; done)), H', ⟨by have := HJ5.out; have := HJ18.out; have := HJ20.out; have := HK4.out; omega⟩, ⟨by (with_reducible repeat (first | apply Kd.V_alloc | apply Kd.V_drewN | apply Kd.V_drew)); exact Kd.V_mono HO_1.out (fun _ hk => hk.1.1)⟩, ⟨by (with_reducible repeat (first | apply Kd.V_alloc | apply Kd.V_drewN | apply Kd.V_drew)); exact Kd.V_mono HO_47.out (fun _ hk => hk.1.1)⟩, ⟨by repeat (first | (with_reducible first | exact HB.out | apply below_alloc | apply pw_below_drewN | apply below_drew1 | refine below_set ?_ GE254.out) | exact HB.out)⟩⟩
              ·rw [if_neg c28] at H
               have c28b0 : (t258 == 0) = false := beq_eq_false_iff_ne.mpr c28
               have c28b1 : (t258 != 0) = true := bne_iff_ne.mpr c28
               have H' := Aside0.mk H
               clear H
               have p253 : 0 ≤ (x49_4 : Int) := of_decide_eq_true (by first | (with_reducible assumption) | assumption)
               have q253 : x49_4 < (l1.length : Int) := of_decide_eq_true (by first | (with_reducible assumption) | assumption)
               obtain ⟨ad253, A253_1, c253_1, e253, hx253_0, hx253_1, hl253_1, hi253_1⟩ := at_T45 (Kd.V_reads' HO_47.out).2.2 x49_4 p253 q253
               cases e253
               obtain ⟨ce253, hce253, hMe253, hcc253⟩ := Kd.V_get HO_47.out z45 x49_4 p253 (by first | exact q253 | exact of_decide_eq_true (by first | (with_reducible assumption) | assumption) | (have e_ := (Kd.V_reads' HO_47.out).1; omega))
               obtain ⟨ua253_1, uc253_1, rfl, ul253_1, ge253_1⟩ := k45_openF hMe253
               have hv253_1 := hcc253 1 _ rfl
               rw [add_field _ _ 1 (by omega)] at hv253_1
               replace hv253_1 := Option.some.inj (hv253_1.symm.trans hx253_1)
               injection hv253_1 with hva_ hvn_ hvc_
               rw [hva_] at ge253_1
               rw [hvc_] at ul253_1
               have HL253_1 := Aside0.mk (show Kd.V k37 37 _ w.heap.size _ _ ((rd_T45 l1 x49_4).f1) from Kd.V_mk ul253_1 ge253_1)
               clear hva_ hvn_ hvc_ ge253_1 ul253_1
               clear hcc253 hce253
               have HR253_1 := Aside0.mk hi253_1
               have HC253_1 := Aside0.mk hl253_1
               clear hi253_1 hl253_1
               replace p253 := eq_true p253
               replace q253 := eq_true q253
               go_wp2_with (first | ((with_reducible refine gate_dst (N := 13) rfl ?_); (try (refine gate_guard (by rfl) ?_; dsimp only)); refine box_event ?hg (N := 13) ?hd (cs := #[.int .i64 0, .slice none 0 0]) (t := 45) ?hr ?_; (case hd => rfl); (case hg => rfl); (case hr => first | (go_simp; done) | (go_simp; rfl)); intro gb254 hg w58 hbox hb; have n0_ := Aside0.mk (Kd.V_below (Kd.V_elderB (by (with_reducible repeat (first | apply Kd.V_alloc | apply Kd.V_drewN | apply Kd.V_drew)); exact HO_1.out) gb254 (Nat.le_of_eq hg.symm)) hb); have n1_ := Aside0.mk (Kd.V_below (Kd.V_elderB (by (with_reducible repeat (first | apply Kd.V_alloc | apply Kd.V_drewN | apply Kd.V_drew)); exact HO_47.out) gb254 (Nat.le_of_eq hg.symm)) hb); have n2_ := Aside0.mk (Kd.V_below (Kd.V_elderB (by (with_reducible repeat (first | apply Kd.V_alloc | apply Kd.V_drewN | apply Kd.V_drew)); exact HL253_1.out) gb254 (Nat.le_of_eq hg.symm)) hb); have n3_ := Aside0.mk (Kd.C_below (by repeat (first | (with_reducible exact HR253_1.out) | (with_reducible refine Kd.C_alloc ?_ _) | (with_reducible refine Kd.C_drewN ?_ _) | (with_reducible refine Kd.C_drew ?_) | exact HR253_1.out)) hb); have n4_ := Aside0.mk (below_step (by repeat (first | (with_reducible first | exact HB.out | apply below_alloc | apply pw_below_drewN | apply below_drew1) | exact HB.out)) hb); have n5_ := Aside0.mk (hbox); have n6_ := Aside0.mk ((by rw [hg]; exact (below_size (by repeat (first | (with_reducible first | exact HB.out | apply below_alloc | apply pw_below_drewN | apply below_drew1) | exact HB.out))) : w.heap.size ≤ gb254)); have n7_ := Aside0.mk ((by rw [hg]; exact (below_size (by repeat (first | (with_reducible first | exact HB.out | apply below_alloc | apply pw_below_drewN | apply below_drew1) | exact HB.out))) : w.heap.size ≤ gb254)); clear HO_1; clear HO_47; clear HL253_1; clear HR253_1; clear HB; have HO_1 := n0_; have HO_47 := n1_; have HL253_1 := n2_; have HR253_1 := n3_; have HB := n4_; have BK254 := n5_; have GW254 := n6_; have GE254 := n7_; clear n0_ n1_ n2_ n3_ n4_ n5_ n6_ n7_; clear hb hbox hg; have hcz59_0 : w58.cell? ⟨gb254, 0, none⟩ = some (.int .i64 0) := (blk_cell BK254.out 0).trans rfl; have hcz59_1 : w58.cell? ⟨gb254, 1, none⟩ = some (.slice none 0 0) := (blk_cell BK254.out 1).trans rfl; have hfz59_0 := blk_frozen BK254.out 0; have hfz59_1 := blk_frozen BK254.out 1) | ((with_reducible refine gate_store (t := 45) (p := 13) rfl ?_); refine store_event (t := 45) (p := 13) (v := ?vo_w60) (w1 := ((w58.setCell ⟨gb254, 0, none⟩ (.int .i64 ((rd_T45 l1 x49_4).f0))).setCell ⟨gb254, 1, none⟩ (.slice A253_1 ((rd_T45 l1 x49_4).f1).length c253_1))) ?hg ?ho ?hn ?hr ?_; (case ho => rfl); (case hg => rfl); (case hn => rfl); (case hr => first | (go_simp; done) | (go_simp; rfl)); intro w60 hw; have n0_ : Aside0 (Kd.V k45 45 w60 w.heap.size (fun k_ => (P1_ k_ ∨ w.heap.size ≤ k_) ∧ k_ ≠ gb254) (.slice (some ad253) l1.length c1) l1) := ⟨(by rw [hw]; exact (by (with_reducible repeat (first | apply Kd.V_alloc | apply Kd.V_drewN | apply Kd.V_drew)); exact Kd.V_mono (Kd.V_far (p := ⟨gb254, 1, none⟩) (Kd.V_far (p := ⟨gb254, 0, none⟩) (Kd.V_mono HO_1.out (fun k_ hk => (⟨hk, hk.2⟩ : _ ∧ k_ ≠ gb254))) (fun _ hk => hk.2) (.int .i64 ((rd_T45 l1 x49_4).f0))) (fun _ hk => hk.2) (.slice A253_1 ((rd_T45 l1 x49_4).f1).length c253_1)) (fun _ hk => ⟨hk.1.1, hk.1.2⟩)))⟩; have n1_ : Aside0 (Kd.V k45 45 w60 w.heap.size (fun k_ => (P1_ k_ ∨ w.heap.size ≤ k_) ∧ k_ ≠ gb254) (.slice (some ad253) l1.length c1) l1) := ⟨(by rw [hw]; exact (by (with_reducible repeat (first | apply Kd.V_alloc | apply Kd.V_drewN | apply Kd.V_drew)); exact Kd.V_mono (Kd.V_far (p := ⟨gb254, 1, none⟩) (Kd.V_far (p := ⟨gb254, 0, none⟩) (Kd.V_mono HO_47.out (fun k_ hk => (⟨hk, hk.2⟩ : _ ∧ k_ ≠ gb254))) (fun _ hk => hk.2) (.int .i64 ((rd_T45 l1 x49_4).f0))) (fun _ hk => hk.2) (.slice A253_1 ((rd_T45 l1 x49_4).f1).length c253_1)) (fun _ hk => ⟨hk.1.1, hk.1.2⟩)))⟩; have n2_ : Aside0 (Kd.V k37 37 w60 w.heap.size (fun k_ => (P1_ k_ ∨ w.heap.size ≤ k_) ∧ k_ ≠ gb254) (.slice A253_1 ((rd_T45 l1 x49_4).f1).length c253_1) ((rd_T45 l1 x49_4).f1)) := ⟨(by rw [hw]; exact (by (with_reducible repeat (first | apply Kd.V_alloc | apply Kd.V_drewN | apply Kd.V_drew)); exact Kd.V_mono (Kd.V_far (p := ⟨gb254, 1, none⟩) (Kd.V_far (p := ⟨gb254, 0, none⟩) (Kd.V_mono HL253_1.out (fun k_ hk => (⟨hk, hk.2⟩ : _ ∧ k_ ≠ gb254))) (fun _ hk => hk.2) (.int .i64 ((rd_T45 l1 x49_4).f0))) (fun _ hk => hk.2) (.slice A253_1 ((rd_T45 l1 x49_4).f1).length c253_1)) (fun _ hk => ⟨hk.1.1, hk.1.2⟩)))⟩; have n3_ : Aside0 (w60.heap[gb254]? = some (.cells #[.int .i64 ((rd_T45 l1 x49_4).f0), .slice A253_1 ((rd_T45 l1 x49_4).f1).length c253_1] 45 (0, 0))) := ⟨(by rw [hw]; exact (by (with_reducible repeat (first | refine blk_drewN ?_ _ | refine blk_drew ?_ | refine blk_alloc ?_ _)); refine blk_put (cs := #[.int .i64 ((rd_T45 l1 x49_4).f0), .slice none 0 0]) ?_ 1 _ rfl; (with_reducible repeat (first | refine blk_drewN ?_ _ | refine blk_drew ?_ | refine blk_alloc ?_ _)); refine blk_put (cs := #[.int .i64 0, .slice none 0 0]) ?_ 0 _ rfl; (with_reducible repeat (first | refine blk_drewN ?_ _ | refine blk_drew ?_ | refine blk_alloc ?_ _)); exact BK254.out))⟩; have n4_ : Aside0 (Below w.heap.size w w60) := ⟨(by rw [hw]; exact (by repeat (first | (with_reducible first | exact HB.out | apply below_alloc | apply pw_below_drewN | apply below_drew1 | refine below_set ?_ GE254.out) | exact HB.out)))⟩; clear hw; clear HO_1; clear HO_47; clear HL253_1; clear BK254; clear HB; have HO_1 := n0_; have HO_47 := n1_; have HL253_1 := n2_; have BK254 := n3_; have HB := n4_; clear n0_ n1_ n2_ n3_ n4_; have hcz61_0 : w60.cell? ⟨gb254, 0, none⟩ = some (.int .i64 ((rd_T45 l1 x49_4).f0)) := (blk_cell BK254.out 0).trans rfl; have hcz61_1 : w60.cell? ⟨gb254, 1, none⟩ = some (.slice A253_1 ((rd_T45 l1 x49_4).f1).length c253_1) := (blk_cell BK254.out 1).trans rfl; have hfz61_0 := blk_frozen BK254.out 0; have hfz61_1 := blk_frozen BK254.out 1) | ((with_reducible refine gate_dst (N := 58) rfl ?_); (try (refine gate_guard (by rfl) ?_; dsimp only)); refine Kd.N_lit (Kd.slice 37 k37) _ 30 ?hg (N' := 58) ?hd (xs := ([(rd_T45 l1 x49_4).f1] : List (List (S37)))) (inner := [.slice A253_1 ((rd_T45 l1 x49_4).f1).length c253_1]) (ok := (fun k_ => (P1_ k_ ∨ w.heap.size ≤ k_) ∧ k_ ≠ gb254)) (okp := (fun k_ => (P1_ k_ ∨ w.heap.size ≤ k_) ∧ k_ ≠ gb254)) ?hr ?hp (fun _ hk => hk) ((show ∀ k_, w60.heap.size ≤ k_ → (fun k_ => (P1_ k_ ∨ w.heap.size ≤ k_) ∧ k_ ≠ gb254) k_ from fun k_ hk => ⟨(.inr (Nat.le_trans (below_size (by repeat (first | (with_reducible first | exact HB.out | apply below_alloc | apply pw_below_drewN | apply below_drew1 | refine below_set ?_ GE254.out) | exact HB.out))) hk)), Kd.freshB (g := gb254) (o := .cells #[.int .i64 ((rd_T45 l1 x49_4).f0), .slice A253_1 ((rd_T45 l1 x49_4).f1).length c253_1] 45 (0, 0)) (by (with_reducible repeat (first | refine blk_drewN ?_ _ | refine blk_drew ?_ | refine blk_alloc ?_ _)); exact BK254.out) k_ hk⟩) _ (Nat.le_refl _)) (Below.refl _ _) (Nat.le_refl _) (by simp) ?_; (case hd => rfl); (case hg => rfl); (case hr => first | (go_simp; done) | (go_simp; rfl)); (case hp => exact (Reps.one (show Kd.FK (Kd.slice 37 k37) _ _ ((rd_T45 l1 x49_4).f1) [.slice A253_1 ((rd_T45 l1 x49_4).f1).length c253_1] from (Kd.FK_slice_mk (Kd.V_reads' (Kd.V_mono (ok' := (fun k_ => (P1_ k_ ∨ w.heap.size ≤ k_) ∧ k_ ≠ gb254)) (HL253_1.out) (fun k_ hk => ⟨hk.1, hk.2⟩))).2.1 (Kd.V_F (Kd.V_mono (ok' := (fun k_ => (P1_ k_ ∨ w.heap.size ≤ k_) ∧ k_ ≠ gb254)) (HL253_1.out) (fun k_ hk => ⟨hk.1, hk.2⟩))))) (Reps.none _ _))); intro v256 w62 ho63 hb hg_ hnew_; clear hg_ hnew_; (first | rw [← Ny255.out] at ho63 | (simp only [Int.reduceToNat] at ho63; rw [← Ny255.out] at ho63)); have n0_ := Aside0.mk (Kd.V_elder' (by (with_reducible repeat (first | apply Kd.V_alloc | apply Kd.V_drewN | apply Kd.V_drew)); exact HO_1.out) (Kd.N_base ho63) hb); have n1_ := Aside0.mk (Kd.V_elder' (by (with_reducible repeat (first | apply Kd.V_alloc | apply Kd.V_drewN | apply Kd.V_drew)); exact HO_47.out) (Kd.N_base ho63) hb); have n2_ := Aside0.mk (Kd.V_elder' (by (with_reducible repeat (first | apply Kd.V_alloc | apply Kd.V_drewN | apply Kd.V_drew)); exact HL253_1.out) (Kd.N_base ho63) hb); have n3_ := Aside0.mk (Kd.N_lower ho63 (below_size (by repeat (first | (with_reducible first | exact HB.out | apply below_alloc | apply pw_below_drewN | apply below_drew1 | refine below_set ?_ GE254.out) | exact HB.out)))); have n4_ := Aside0.mk ((Kd.V_reads' n2_.out).2.2); have n5_ := Aside0.mk (blk_below (g := gb254) (o := .cells #[.int .i64 ((rd_T45 l1 x49_4).f0), .slice A253_1 ((rd_T45 l1 x49_4).f1).length c253_1] 45 (0, 0)) (by (with_reducible repeat (first | refine blk_drewN ?_ _ | refine blk_drew ?_ | refine blk_alloc ?_ _)); exact BK254.out) hb); have n6_ := Aside0.mk (below_step (by repeat (first | (with_reducible first | exact HB.out | apply below_alloc | apply pw_below_drewN | apply below_drew1 | refine below_set ?_ GE254.out) | exact HB.out)) hb); clear HO_1; clear HO_47; clear HL253_1; clear HR253_1; clear BK254; clear HB; have HO_1 := n0_; have HO_47 := n1_; have HL253_1 := n2_; have HO257 := n3_; have HR253_1 := n4_; have BK254 := n5_; have HB := n6_; clear n0_ n1_ n2_ n3_ n4_ n5_ n6_; clear hb ho63; obtain ⟨Ao64, co64, eo64⟩ := Kd.N_slice HO257.out; subst eo64) | ((with_reducible refine gate_callee (f := 13) rfl ?_); refine goesL_ (some 59) rfl rfl Try.func13 (by kernel_rfl) rfl #[.slice A0 l0.length c0, .slice Ao64 y255.length co64] rfl (by (try simp only [List.map_toArray, List.map_cons, List.map_nil]); first | done | rfl | (simp only [List.length_drop, List.length_take]; rfl)) ?_; (with_reducible refine (tourref5_BonesFault.calls k4 _ _ l0 _ _ y255 t258 _ ?side1 ?side2 ?side3 ?side4 A27.out).mono ?_); (case side1 => repeat (first | exact (Kd.C_below HR0.out HB.out) | (with_reducible refine Kd.C_alloc ?_ _) | (with_reducible refine Kd.C_drewN ?_ _) | (with_reducible refine Kd.C_drew ?_))); (case side2 => exact HC0.out); (case side3 => repeat (first | exact (Kd.N_reads' HO257.out).2.2 | (with_reducible refine Kd.C_alloc ?_ _) | (with_reducible refine Kd.C_drewN ?_ _) | (with_reducible refine Kd.C_drew ?_))); (case side4 => exact (Kd.N_reads' HO257.out).2.1); rintro e w65 ⟨rfl, hb⟩; refine ⟨_, rfl, ?_⟩; have n0_ := Aside0.mk (Kd.V_below (by (with_reducible repeat (first | apply Kd.V_alloc | apply Kd.V_drewN | apply Kd.V_drew)); exact HO_1.out) hb); have n1_ := Aside0.mk (Kd.V_below (by (with_reducible repeat (first | apply Kd.V_alloc | apply Kd.V_drewN | apply Kd.V_drew)); exact HO_47.out) hb); have n2_ := Aside0.mk (Kd.V_below (by (with_reducible repeat (first | apply Kd.V_alloc | apply Kd.V_drewN | apply Kd.V_drew)); exact HL253_1.out) hb); have n3_ := Aside0.mk (Kd.N_below (by (with_reducible repeat (first | apply Kd.N_alloc | apply Kd.N_drewN | apply Kd.N_drew)); exact HO257.out) hb); have n4_ := Aside0.mk (Kd.C_below (by repeat (first | (with_reducible exact HR253_1.out) | (with_reducible refine Kd.C_alloc ?_ _) | (with_reducible refine Kd.C_drewN ?_ _) | (with_reducible refine Kd.C_drew ?_) | exact HR253_1.out)) hb); have n5_ := Aside0.mk (blk_below (g := gb254) (o := .cells #[.int .i64 ((rd_T45 l1 x49_4).f0), .slice A253_1 ((rd_T45 l1 x49_4).f1).length c253_1] 45 (0, 0)) (by (with_reducible repeat (first | refine blk_drewN ?_ _ | refine blk_drew ?_ | refine blk_alloc ?_ _)); exact BK254.out) hb); have n6_ := Aside0.mk (below_step (by repeat (first | (with_reducible first | exact HB.out | apply below_alloc | apply pw_below_drewN | apply below_drew1 | refine below_set ?_ GE254.out) | exact HB.out)) hb); clear HO_1; clear HO_47; clear HL253_1; clear HO257; clear HR253_1; clear BK254; clear HB; have HO_1 := n0_; have HO_47 := n1_; have HL253_1 := n2_; have HO257 := n3_; have HR253_1 := n4_; have BK254 := n5_; have HB := n6_; clear n0_ n1_ n2_ n3_ n4_ n5_ n6_; (try clear hb); (try clear hb2); (try clear hk); (try clear hi); have hcz66_0 : w65.cell? ⟨gb254, 0, none⟩ = some (.int .i64 ((rd_T45 l1 x49_4).f0)) := (blk_cell BK254.out 0).trans rfl; have hcz66_1 : w65.cell? ⟨gb254, 1, none⟩ = some (.slice A253_1 ((rd_T45 l1 x49_4).f1).length c253_1) := (blk_cell BK254.out 1).trans rfl; have hfz66_0 := blk_frozen BK254.out 0; have hfz66_1 := blk_frozen BK254.out 1))
               go_roundg k4
               case measure => have := HJ5.out; have := HJ18.out; have := HJ20.out; have := HK4.out; omega
               case rel => exact ⟨(t258), ((rd_T45 l1 x49_4).f0), (wrap64 (x49_4 + 1)), (by first | rfl | (simp; done) | (simp [*]; done)), (by first | rfl | (simp; done) | (simp [*]; done)), (by first | rfl | (simp; done) | (simp [*]; done)), H', ⟨by have := HJ5.out; have := HJ18.out; have := HJ20.out; have := HK4.out; omega⟩, ⟨by (with_reducible repeat (first | apply Kd.V_alloc | apply Kd.V_drewN | apply Kd.V_drew)); exact Kd.V_mono HO_1.out (fun _ hk => hk.1.1)⟩, ⟨by (with_reducible repeat (first | apply Kd.V_alloc | apply Kd.V_drewN | apply Kd.V_drew)); exact Kd.V_mono HO_47.out (fun _ hk => hk.1.1)⟩, ⟨by repeat (first | (with_reducible first | exact HB.out | apply below_alloc | apply pw_below_drewN | apply below_drew1 | refine below_set ?_ GE254.out) | exact HB.out)⟩⟩
             ·rw [if_neg c26] at H
              have c26b0 : (x10_4 == 0) = false := beq_eq_false_iff_ne.mpr c26
              have c26b1 : (x10_4 != 0) = true := bne_iff_ne.mpr c26
              have H' := Aside0.mk H
              clear H
              have p253 : 0 ≤ (x49_4 : Int) := of_decide_eq_true (by first | (with_reducible assumption) | assumption)
              have q253 : x49_4 < (l1.length : Int) := of_decide_eq_true (by first | (with_reducible assumption) | assumption)
              obtain ⟨ad253, A253_1, c253_1, e253, hx253_0, hx253_1, hl253_1, hi253_1⟩ := at_T45 (Kd.V_reads' HO_47.out).2.2 x49_4 p253 q253
              cases e253
              obtain ⟨ce253, hce253, hMe253, hcc253⟩ := Kd.V_get HO_47.out z45 x49_4 p253 (by first | exact q253 | exact of_decide_eq_true (by first | (with_reducible assumption) | assumption) | (have e_ := (Kd.V_reads' HO_47.out).1; omega))
              obtain ⟨ua253_1, uc253_1, rfl, ul253_1, ge253_1⟩ := k45_openF hMe253
              have hv253_1 := hcc253 1 _ rfl
              rw [add_field _ _ 1 (by omega)] at hv253_1
              replace hv253_1 := Option.some.inj (hv253_1.symm.trans hx253_1)
              injection hv253_1 with hva_ hvn_ hvc_
              rw [hva_] at ge253_1
              rw [hvc_] at ul253_1
              have HL253_1 := Aside0.mk (show Kd.V k37 37 _ w.heap.size _ _ ((rd_T45 l1 x49_4).f1) from Kd.V_mk ul253_1 ge253_1)
              clear hva_ hvn_ hvc_ ge253_1 ul253_1
              clear hcc253 hce253
              have HR253_1 := Aside0.mk hi253_1
              have HC253_1 := Aside0.mk hl253_1
              clear hi253_1 hl253_1
              replace p253 := eq_true p253
              replace q253 := eq_true q253
              go_wp2_with (first | ((with_reducible refine gate_dst (N := 13) rfl ?_); (try (refine gate_guard (by rfl) ?_; dsimp only)); refine box_event ?hg (N := 13) ?hd (cs := #[.int .i64 0, .slice none 0 0]) (t := 45) ?hr ?_; (case hd => rfl); (case hg => rfl); (case hr => first | (go_simp; done) | (go_simp; rfl)); intro gb254 hg w67 hbox hb; have n0_ := Aside0.mk (Kd.V_below (Kd.V_elderB (by (with_reducible repeat (first | apply Kd.V_alloc | apply Kd.V_drewN | apply Kd.V_drew)); exact HO_1.out) gb254 (Nat.le_of_eq hg.symm)) hb); have n1_ := Aside0.mk (Kd.V_below (Kd.V_elderB (by (with_reducible repeat (first | apply Kd.V_alloc | apply Kd.V_drewN | apply Kd.V_drew)); exact HO_47.out) gb254 (Nat.le_of_eq hg.symm)) hb); have n2_ := Aside0.mk (Kd.V_below (Kd.V_elderB (by (with_reducible repeat (first | apply Kd.V_alloc | apply Kd.V_drewN | apply Kd.V_drew)); exact HL253_1.out) gb254 (Nat.le_of_eq hg.symm)) hb); have n3_ := Aside0.mk (Kd.C_below (by repeat (first | (with_reducible exact HR253_1.out) | (with_reducible refine Kd.C_alloc ?_ _) | (with_reducible refine Kd.C_drewN ?_ _) | (with_reducible refine Kd.C_drew ?_) | exact HR253_1.out)) hb); have n4_ := Aside0.mk (below_step (by repeat (first | (with_reducible first | exact HB.out | apply below_alloc | apply pw_below_drewN | apply below_drew1) | exact HB.out)) hb); have n5_ := Aside0.mk (hbox); have n6_ := Aside0.mk ((by rw [hg]; exact (below_size (by repeat (first | (with_reducible first | exact HB.out | apply below_alloc | apply pw_below_drewN | apply below_drew1) | exact HB.out))) : w.heap.size ≤ gb254)); have n7_ := Aside0.mk ((by rw [hg]; exact (below_size (by repeat (first | (with_reducible first | exact HB.out | apply below_alloc | apply pw_below_drewN | apply below_drew1) | exact HB.out))) : w.heap.size ≤ gb254)); clear HO_1; clear HO_47; clear HL253_1; clear HR253_1; clear HB; have HO_1 := n0_; have HO_47 := n1_; have HL253_1 := n2_; have HR253_1 := n3_; have HB := n4_; have BK254 := n5_; have GW254 := n6_; have GE254 := n7_; clear n0_ n1_ n2_ n3_ n4_ n5_ n6_ n7_; clear hb hbox hg; have hcz68_0 : w67.cell? ⟨gb254, 0, none⟩ = some (.int .i64 0) := (blk_cell BK254.out 0).trans rfl; have hcz68_1 : w67.cell? ⟨gb254, 1, none⟩ = some (.slice none 0 0) := (blk_cell BK254.out 1).trans rfl; have hfz68_0 := blk_frozen BK254.out 0; have hfz68_1 := blk_frozen BK254.out 1))
              go_roundg k4
              case measure => have := HJ5.out; have := HJ18.out; have := HJ20.out; have := HK4.out; omega
              case rel => exact ⟨(x10_4), (x11_4), (wrap64 (x49_4 + 1)), (by first | rfl | (simp; done) | (simp [*]; done)), (by first | rfl | (simp; done) | (simp [*]; done)), (by first | rfl | (simp; done) | (simp [*]; done)), H', ⟨by have := HJ5.out; have := HJ18.out; have := HJ20.out; have := HK4.out; omega⟩, ⟨by (with_reducible repeat (first | apply Kd.V_alloc | apply Kd.V_drewN | apply Kd.V_drew)); exact Kd.V_mono (Kd.V_far (p := ⟨gb254, 1, none⟩) (Kd.V_far (p := ⟨gb254, 0, none⟩) (Kd.V_mono HO_1.out (fun k_ hk => (⟨hk, hk.2⟩ : _ ∧ k_ ≠ gb254))) (fun _ hk => hk.2) (.int .i64 ((rd_T45 l1 x49_4).f0))) (fun _ hk => hk.2) (.slice A253_1 ((rd_T45 l1 x49_4).f1).length c253_1)) (fun _ hk => hk.1.1)⟩, ⟨by (with_reducible repeat (first | apply Kd.V_alloc | apply Kd.V_drewN | apply Kd.V_drew)); exact Kd.V_mono (Kd.V_far (p := ⟨gb254, 1, none⟩) (Kd.V_far (p := ⟨gb254, 0, none⟩) (Kd.V_mono HO_47.out (fun k_ hk => (⟨hk, hk.2⟩ : _ ∧ k_ ≠ gb254))) (fun _ hk => hk.2) (.int .i64 ((rd_T45 l1 x49_4).f0))) (fun _ hk => hk.2) (.slice A253_1 ((rd_T45 l1 x49_4).f1).length c253_1)) (fun _ hk => hk.1.1)⟩, ⟨by repeat (first | (with_reducible first | exact HB.out | apply below_alloc | apply pw_below_drewN | apply below_drew1 | refine below_set ?_ GE254.out) | exact HB.out)⟩⟩
            ·rw [if_neg c25] at H
             exact absurd H (by simp)
           ·rw [if_neg c24] at H
            exact absurd H (by simp)
          ·rw [if_neg c23] at H
           have c23b0 : decide (x49_4 < (l1.length : Int)) = false := decide_eq_false c23
           clear c23
           replace H := Option.bind_eq_some_iff.mp H
           obtain ⟨⟨t259, t260⟩, A690, H⟩ := H
           replace H : (if x10_4 = 0 then (tourlaw5_BonesPlay.l1 k4 l0 l1 a2 t259 t260 0) else (if t260 = x10_4 then (some ((t259.length : Int) == 0)) else (none))) = some r := H
           have A69 := Aside0.mk A690
           clear A690
           by_cases c70 : x10_4 = 0
           ·rw [if_pos c70] at H
            have c70b0 : (x10_4 == 0) = true := beq_iff_eq.mpr c70
            have c70b1 : (x10_4 != 0) = false := bne_eq_false_iff_eq.mpr c70
            clear c70
            have HC71 := Aside0.mk H
            clear H
            go_upto_block 2 with (first | ((with_reducible refine gate_callee (f := 12) rfl ?_); refine goesL_ (some 80) rfl rfl Try.func12 (by kernel_rfl) rfl #[.slice A0 l0.length c0, .slice A1 l1.length c1, .int .i64 a2] rfl (by (try simp only [List.map_toArray, List.map_cons, List.map_nil]); first | done | rfl | (simp only [List.length_drop, List.length_take]; rfl)) ?_; (with_reducible refine (bones_Play.calls k4 _ _ l0 _ _ l1 a2 t259 t260 _ ?side1 ?side2 ?side3 ?side4 A69.out).mono ?_); (case side1 => repeat (first | exact (Kd.C_below HR0.out HB.out) | (with_reducible refine Kd.C_alloc ?_ _) | (with_reducible refine Kd.C_drewN ?_ _) | (with_reducible refine Kd.C_drew ?_))); (case side2 => exact HC0.out); (case side3 => repeat (first | exact (Kd.V_reads' HO_1.out).2.2 | (with_reducible refine Kd.C_alloc ?_ _) | (with_reducible refine Kd.C_drewN ?_ _) | (with_reducible refine Kd.C_drew ?_))); (case side4 => exact (Kd.V_reads' HO_1.out).2.1); rintro e w72 ⟨v261, rfl, ho0, hb⟩; refine ⟨_, rfl, ?_⟩; have n0_ := Aside0.mk (Kd.V_elder' (by (with_reducible repeat (first | apply Kd.V_alloc | apply Kd.V_drewN | apply Kd.V_drew)); exact HO_1.out) (Kd.R_base ho0) hb); have n1_ := Aside0.mk (Kd.V_elder' (by (with_reducible repeat (first | apply Kd.V_alloc | apply Kd.V_drewN | apply Kd.V_drew)); exact HO_47.out) (Kd.R_base ho0) hb); have n2_ := Aside0.mk (Kd.R_lower (Kd.R_newM (M := fun k_ => (w.heap.size ≤ k_)) ho0 (below_size (by repeat (first | (with_reducible first | exact HB.out | apply below_alloc | apply pw_below_drewN | apply below_drew1) | exact HB.out))) (fun k_ h_ => h_)) (below_size (by repeat (first | (with_reducible first | exact HB.out | apply below_alloc | apply pw_below_drewN | apply below_drew1) | exact HB.out)))); have n3_ := Aside0.mk (below_step (by repeat (first | (with_reducible first | exact HB.out | apply below_alloc | apply pw_below_drewN | apply below_drew1) | exact HB.out)) hb); clear HO_1; clear HO_47; clear HB; have HO_1 := n0_; have HO_47 := n1_; have HO262 := n2_; have HB := n3_; clear n0_ n1_ n2_ n3_; (try clear hb); (try clear hb2); (try clear hk); (try clear hi); (try clear ho0)))
            (try simp only [Act.put, List.setIfInBounds_toArray, List.set_cons_zero, List.set_cons_succ])
            go_cut [16] (fun v16 wc => ∃ (kq : Nat) (x16_70 : Int), v16 = .int .i64 x16_70 ∧ Aside0 (tourlaw5_BonesPlay.j5 kq l0 l1 a2 t259 t260 x16_70 = some r) ∧ Aside0 (kq ≤ k4) ∧ Aside0 (Kd.V k45 45 wc w.heap.size (fun k_ => (P1_ k_ ∨ w.heap.size ≤ k_) ∧ some k_ ≠ (v261 : Value).ownBlock) (.slice A1 l1.length c1) l1) ∧ Aside0 (Kd.R k37 37 wc w.heap.size (fun k_ => (w.heap.size ≤ k_)) v261 t259) ∧ Aside0 (Below w.heap.size w wc))
            case first =>
             have H := HC71.out
             clear HC71
             have H' := Aside0.mk H
             clear H
             go_wp2
             go_loopg [16] k4 (fun kq v16 w' => ∃ (x16_5 : Int), v16 = .int .i64 x16_5 ∧ Aside0 (tourlaw5_BonesPlay.l1 kq l0 l1 a2 t259 t260 x16_5 = some r) ∧ Aside0 (kq ≤ k4) ∧ Aside0 (Kd.V k45 45 w' w.heap.size (fun k_ => (P1_ k_ ∨ w.heap.size ≤ k_) ∧ some k_ ≠ (v261 : Value).ownBlock) (.slice A1 l1.length c1) l1) ∧ Aside0 (Kd.R k37 37 w' w.heap.size (fun k_ => (w.heap.size ≤ k_)) v261 t259) ∧ Aside0 (Below w.heap.size w w'))
             case atStart => exact ⟨(0), (by first | rfl | (simp; done) | (simp [*]; done)), H', ⟨Nat.le_refl _⟩, ⟨by (with_reducible repeat (first | apply Kd.V_alloc | apply Kd.V_drewN | apply Kd.V_drew)); exact HO_1.out⟩, ⟨by (with_reducible repeat (first | apply Kd.R_alloc | apply Kd.R_drewN | apply Kd.R_drew)); exact Kd.R_mono HO262.out (fun _ hk => hk.1)⟩, ⟨by repeat (first | (with_reducible first | exact HB.out | apply below_alloc | apply pw_below_drewN | apply below_drew1) | exact HB.out)⟩⟩
             case round =>
              clear H'
              try clear c1
              try clear c2
              try clear p2
              try clear q2
              try clear hx2
              try clear c3
              try clear c4
              try clear p6
              try clear c7
              try clear c11
              try clear c12
              try clear c13
              try clear c16
              try clear c16b0
              try clear c16b1
              try clear c18
              try clear c20
              try clear c20b0
              try clear c20b1
              try clear c22
              try clear c23
              try clear c23b0
              try clear c24
              try clear c24b0
              try clear c25
              try clear c25b0
              try clear p25
              try clear q25
              try clear hx25
              try clear c26
              try clear c26b0
              try clear c26b1
              try clear c28
              try clear c28b0
              try clear c28b1
              try clear c29
              try clear c29b0
              try clear c39
              try clear c39b0
              try clear p64
              try clear c70
              try clear c70b0
              try clear c70b1
              try clear hcz31_0
              try clear hcz31_1
              try clear hcz33_0
              try clear hcz33_1
              try clear hcz38_0
              try clear hcz38_1
              try clear hcz41_0
              try clear hcz41_1
              try clear hcz43_0
              try clear hcz43_1
              try clear hcz48_0
              try clear hcz48_1
              try clear hcz50_0
              try clear hcz50_1
              try clear hcz52_0
              try clear hcz52_1
              try clear hcz57_0
              try clear hcz57_1
              try clear hcz59_0
              try clear hcz59_1
              try clear hcz61_0
              try clear hcz61_1
              try clear hcz66_0
              try clear hcz66_1
              try clear hcz68_0
              try clear hcz68_1
              try clear hfz31_0
              try clear hfz31_1
              try clear hfz33_0
              try clear hfz33_1
              try clear hfz38_0
              try clear hfz38_1
              try clear hfz41_0
              try clear hfz41_1
              try clear hfz43_0
              try clear hfz43_1
              try clear hfz48_0
              try clear hfz48_1
              try clear hfz50_0
              try clear hfz50_1
              try clear hfz52_0
              try clear hfz52_1
              try clear hfz57_0
              try clear hfz57_1
              try clear hfz59_0
              try clear hfz59_1
              try clear hfz61_0
              try clear hfz61_1
              try clear hfz66_0
              try clear hfz66_1
              try clear hfz68_0
              try clear hfz68_1
              try clear hx253_0
              try clear hx253_1
              try clear p2
              try clear p253
              try clear q253
              obtain ⟨x16_5, rfl, HA, HK5, HO_1, HO_14, HB⟩ := hrel
              cases gk with
              | zero => exact absurd HA.out (by simp [tourlaw5_BonesPlay.l1])
              | succ k5 =>
               have H := HA.out
               clear HA
               simp only [tourlaw5_BonesPlay.l1] at H
               by_cases c73 : x16_5 < (wrap64 ((l1.length : Int) - 1))
               ·rw [if_pos c73] at H
                have c73b0 : decide (x16_5 < (wrap64 ((l1.length : Int) - 1))) = true := decide_eq_true c73
                clear c73
                (first | rw [c73b0] | (simp only [i64_w, i32_w]; rw [c73b0]) | skip)
                obtain ⟨ji74, hji74⟩ : ∃ j_ : Int, (wrap64 (x16_5 + 1)) = j_ := ⟨_, rfl⟩
                replace H : (if 0 ≤ (ji74) then (if (ji74) < (l1.length : Int) then (if ((rd_T45 l1 (ji74)).f0) ≤ a2 then (tourlaw5_BonesPlay.l1 k5 l0 l1 a2 t259 t260 ji74) else (tourlaw5_BonesPlay.j5 k5 l0 l1 a2 t259 t260 x16_5)) else (none)) else (none)) = some r := by first | (rw [hji74] at H; exact H) | (simp only [hji74] at H ⊢; exact H)
                have hji74w : (IntKind.i64.wrap (x16_5 + 1)) = ji74 := (i64_w _).trans hji74
                by_cases c75 : 0 ≤ (ji74)
                ·rw [if_pos c75] at H
                 have c75b0 : decide (0 ≤ (ji74)) = true := decide_eq_true c75
                 clear c75
                 by_cases c76 : (ji74) < (l1.length : Int)
                 ·rw [if_pos c76] at H
                  have c76b0 : decide ((ji74) < (l1.length : Int)) = true := decide_eq_true c76
                  clear c76
                  by_cases c77 : ((rd_T45 l1 (ji74)).f0) ≤ a2
                  ·rw [if_pos c77] at H
                   have c77b0 : decide (((rd_T45 l1 (ji74)).f0) ≤ a2) = true := decide_eq_true c77
                   clear c77
                   have H' := Aside0.mk H
                   clear H
                   have p263 : 0 ≤ ((ji74) : Int) := of_decide_eq_true (by first | (with_reducible assumption) | assumption)
                   have q263 : (ji74) < (l1.length : Int) := of_decide_eq_true (by first | (with_reducible assumption) | assumption)
                   obtain ⟨ad263, A263_1, c263_1, e263, hx263_0, hx263_1, hl263_1, hi263_1⟩ := at_T45 (Kd.V_reads' HO_1.out).2.2 (ji74) p263 q263
                   cases e263
                   obtain ⟨ce263, hce263, hMe263, hcc263⟩ := Kd.V_get HO_1.out z45 (ji74) p263 (by first | exact q263 | exact of_decide_eq_true (by first | (with_reducible assumption) | assumption) | (have e_ := (Kd.V_reads' HO_1.out).1; omega))
                   obtain ⟨ua263_1, uc263_1, rfl, ul263_1, ge263_1⟩ := k45_openF hMe263
                   have hv263_1 := hcc263 1 _ rfl
                   rw [add_field _ _ 1 (by omega)] at hv263_1
                   replace hv263_1 := Option.some.inj (hv263_1.symm.trans hx263_1)
                   injection hv263_1 with hva_ hvn_ hvc_
                   rw [hva_] at ge263_1
                   rw [hvc_] at ul263_1
                   have HL263_1 := Aside0.mk (show Kd.V k37 37 _ w.heap.size _ _ ((rd_T45 l1 (ji74)).f1) from Kd.V_mk ul263_1 ge263_1)
                   clear hva_ hvn_ hvc_ ge263_1 ul263_1
                   clear hcc263 hce263
                   have HR263_1 := Aside0.mk hi263_1
                   have HC263_1 := Aside0.mk hl263_1
                   clear hi263_1 hl263_1
                   replace p263 := eq_true p263
                   replace q263 := eq_true q263
                   go_wp2
                   go_roundg k5
                   case measure => have := HJ5.out; have := HJ18.out; have := HJ20.out; have := HK4.out; have := HK5.out; omega
                   case rel => exact ⟨(ji74), (by first | rfl | (simp; done) | (simp only [← hji74] <;> (first | rfl | simp)) | (simp [*]; done)), H', ⟨by have := HJ5.out; have := HJ18.out; have := HJ20.out; have := HK4.out; have := HK5.out; omega⟩, ⟨by (with_reducible repeat (first | apply Kd.V_alloc | apply Kd.V_drewN | apply Kd.V_drew)); exact HO_1.out⟩, ⟨by (with_reducible repeat (first | apply Kd.R_alloc | apply Kd.R_drewN | apply Kd.R_drew)); exact HO_14.out⟩, ⟨by repeat (first | (with_reducible first | exact HB.out | apply below_alloc | apply pw_below_drewN | apply below_drew1) | exact HB.out)⟩⟩
                  ·rw [if_neg c77] at H
                   have c77b0 : decide (((rd_T45 l1 (ji74)).f0) ≤ a2) = false := decide_eq_false c77
                   clear c77
                   have H' := Aside0.mk H
                   clear H
                   have p263 : 0 ≤ ((ji74) : Int) := of_decide_eq_true (by first | (with_reducible assumption) | assumption)
                   have q263 : (ji74) < (l1.length : Int) := of_decide_eq_true (by first | (with_reducible assumption) | assumption)
                   obtain ⟨ad263, A263_1, c263_1, e263, hx263_0, hx263_1, hl263_1, hi263_1⟩ := at_T45 (Kd.V_reads' HO_1.out).2.2 (ji74) p263 q263
                   cases e263
                   obtain ⟨ce263, hce263, hMe263, hcc263⟩ := Kd.V_get HO_1.out z45 (ji74) p263 (by first | exact q263 | exact of_decide_eq_true (by first | (with_reducible assumption) | assumption) | (have e_ := (Kd.V_reads' HO_1.out).1; omega))
                   obtain ⟨ua263_1, uc263_1, rfl, ul263_1, ge263_1⟩ := k45_openF hMe263
                   have hv263_1 := hcc263 1 _ rfl
                   rw [add_field _ _ 1 (by omega)] at hv263_1
                   replace hv263_1 := Option.some.inj (hv263_1.symm.trans hx263_1)
                   injection hv263_1 with hva_ hvn_ hvc_
                   rw [hva_] at ge263_1
                   rw [hvc_] at ul263_1
                   have HL263_1 := Aside0.mk (show Kd.V k37 37 _ w.heap.size _ _ ((rd_T45 l1 (ji74)).f1) from Kd.V_mk ul263_1 ge263_1)
                   clear hva_ hvn_ hvc_ ge263_1 ul263_1
                   clear hcc263 hce263
                   have HR263_1 := Aside0.mk hi263_1
                   have HC263_1 := Aside0.mk hl263_1
                   clear hi263_1 hl263_1
                   replace p263 := eq_true p263
                   replace q263 := eq_true q263
                   go_wp2
                   go_meet
                   case rel => exact ⟨_, (x16_5), (by first | rfl | (simp; done) | (simp [*]; done)), H', ⟨by have := HJ5.out; have := HJ18.out; have := HJ20.out; have := HK4.out; have := HK5.out; first | omega | exact Nat.le_refl _⟩, ⟨by (with_reducible repeat (first | apply Kd.V_alloc | apply Kd.V_drewN | apply Kd.V_drew)); exact HO_1.out⟩, ⟨by (with_reducible repeat (first | apply Kd.R_alloc | apply Kd.R_drewN | apply Kd.R_drew)); exact HO_14.out⟩, ⟨by repeat (first | (with_reducible first | exact HB.out | apply below_alloc | apply pw_below_drewN | apply below_drew1) | exact HB.out)⟩⟩
                 ·rw [if_neg c76] at H
                  exact absurd H (by simp)
                ·rw [if_neg c75] at H
                 exact absurd H (by simp)
               ·rw [if_neg c73] at H
                have c73b0 : decide (x16_5 < (wrap64 ((l1.length : Int) - 1))) = false := decide_eq_false c73
                clear c73
                (first | rw [c73b0] | (simp only [i64_w, i32_w]; rw [c73b0]) | skip)
                have H' := Aside0.mk H
                clear H
                go_wp2
                go_meet
                case rel => exact ⟨_, (x16_5), (by first | rfl | (simp; done) | (simp [*]; done)), H', ⟨by have := HJ5.out; have := HJ18.out; have := HJ20.out; have := HK4.out; have := HK5.out; first | omega | exact Nat.le_refl _⟩, ⟨by (with_reducible repeat (first | apply Kd.V_alloc | apply Kd.V_drewN | apply Kd.V_drew)); exact HO_1.out⟩, ⟨by (with_reducible repeat (first | apply Kd.R_alloc | apply Kd.R_drewN | apply Kd.R_drew)); exact HO_14.out⟩, ⟨by repeat (first | (with_reducible first | exact HB.out | apply below_alloc | apply pw_below_drewN | apply below_drew1) | exact HB.out)⟩⟩
            case rest =>
             clear HC71
             try clear c1
             try clear c2
             try clear p2
             try clear q2
             try clear hx2
             try clear c3
             try clear c4
             try clear p6
             try clear c7
             try clear c11
             try clear c12
             try clear c13
             try clear c16
             try clear c16b0
             try clear c16b1
             try clear c18
             try clear c20
             try clear c20b0
             try clear c20b1
             try clear c22
             try clear c23
             try clear c23b0
             try clear c24
             try clear c24b0
             try clear c25
             try clear c25b0
             try clear p25
             try clear q25
             try clear hx25
             try clear c26
             try clear c26b0
             try clear c26b1
             try clear p26
             try clear q26
             try clear hx26
             try clear c28
             try clear c28b0
             try clear c28b1
             try clear c29
             try clear c29b0
             try clear c39
             try clear c39b0
             try clear p64
             try clear c70
             try clear c70b0
             try clear c70b1
             try clear c73
             try clear c73b0
             try clear c75
             try clear c75b0
             try clear c76
             try clear c76b0
             try clear c77
             try clear c77b0
             try clear hcz31_0
             try clear hcz31_1
             try clear hcz33_0
             try clear hcz33_1
             try clear hcz38_0
             try clear hcz38_1
             try clear hcz41_0
             try clear hcz41_1
             try clear hcz43_0
             try clear hcz43_1
             try clear hcz48_0
             try clear hcz48_1
             try clear hcz50_0
             try clear hcz50_1
             try clear hcz52_0
             try clear hcz52_1
             try clear hcz57_0
             try clear hcz57_1
             try clear hcz59_0
             try clear hcz59_1
             try clear hcz61_0
             try clear hcz61_1
             try clear hcz66_0
             try clear hcz66_1
             try clear hcz68_0
             try clear hcz68_1
             try clear hfz31_0
             try clear hfz31_1
             try clear hfz33_0
             try clear hfz33_1
             try clear hfz38_0
             try clear hfz38_1
             try clear hfz41_0
             try clear hfz41_1
             try clear hfz43_0
             try clear hfz43_1
             try clear hfz48_0
             try clear hfz48_1
             try clear hfz50_0
             try clear hfz50_1
             try clear hfz52_0
             try clear hfz52_1
             try clear hfz57_0
             try clear hfz57_1
             try clear hfz59_0
             try clear hfz59_1
             try clear hfz61_0
             try clear hfz61_1
             try clear hfz66_0
             try clear hfz66_1
             try clear hfz68_0
             try clear hfz68_1
             try clear hx253_0
             try clear hx253_1
             try clear hx263_0
             try clear hx263_1
             try clear p2
             try clear p25
             try clear p253
             try clear p263
             try clear p6
             try clear p64
             try clear q2
             try clear q25
             try clear q253
             try clear q263
             obtain ⟨kq, x16_70, rfl, HA, HJ70, HO_1, HO_14, HB⟩ := hcut
             cases kq with
             | zero => exact absurd HA.out (by simp [tourlaw5_BonesPlay.j5])
             | succ kj70 =>
              have H := HA.out
              clear HA
              simp only [tourlaw5_BonesPlay.j5] at H
              by_cases c78 : 0 ≤ x16_70
              ·rw [if_pos c78] at H
               have c78b0 : decide (0 ≤ x16_70) = true := decide_eq_true c78
               clear c78
               by_cases c79 : x16_70 < (l1.length : Int)
               ·rw [if_pos c79] at H
                have c79b0 : decide (x16_70 < (l1.length : Int)) = true := decide_eq_true c79
                clear c79
                have HC80 := Aside0.mk H
                clear H
                try go_wp2
                have n0_ := Aside0.mk (Kd.V_drew HO_1.out)
                have n1_ := Aside0.mk (Kd.R_drew HO_14.out)
                have n2_ := Aside0.mk (below_drew1 HB.out)
                clear HO_1
                clear HO_14
                clear HB
                have HO_1 := n0_
                have HO_14 := n1_
                have HB := n2_
                clear n0_ n1_ n2_
                have p264 : 0 ≤ (x16_70 : Int) := of_decide_eq_true (by first | (with_reducible assumption) | assumption)
                have q264 : x16_70 < (l1.length : Int) := of_decide_eq_true (by first | (with_reducible assumption) | assumption)
                obtain ⟨ad264, A264_1, c264_1, e264, hx264_0, hx264_1, hl264_1, hi264_1⟩ := at_T45 (Kd.V_reads' HO_1.out).2.2 x16_70 p264 q264
                cases e264
                obtain ⟨ce264, hce264, hMe264, hcc264⟩ := Kd.V_get HO_1.out z45 x16_70 p264 (by first | exact q264 | exact of_decide_eq_true (by first | (with_reducible assumption) | assumption) | (have e_ := (Kd.V_reads' HO_1.out).1; omega))
                obtain ⟨ua264_1, uc264_1, rfl, ul264_1, ge264_1⟩ := k45_openF hMe264
                have hv264_1 := hcc264 1 _ rfl
                rw [add_field _ _ 1 (by omega)] at hv264_1
                replace hv264_1 := Option.some.inj (hv264_1.symm.trans hx264_1)
                injection hv264_1 with hva_ hvn_ hvc_
                rw [hva_] at ge264_1
                rw [hvc_] at ul264_1
                have HL264_1 := Aside0.mk (show Kd.V k37 37 _ w.heap.size _ _ ((rd_T45 l1 x16_70).f1) from Kd.V_mk ul264_1 ge264_1)
                clear hva_ hvn_ hvc_ ge264_1 ul264_1
                clear hcc264 hce264
                have HR264_1 := Aside0.mk hi264_1
                have HC264_1 := Aside0.mk hl264_1
                clear hi264_1 hl264_1
                replace p264 := eq_true p264
                replace q264 := eq_true q264
                have p265 : 0 ≤ (x16_70 : Int) := of_decide_eq_true (by first | (with_reducible assumption) | assumption)
                have q265 : x16_70 < (l1.length : Int) := of_decide_eq_true (by first | (with_reducible assumption) | assumption)
                obtain ⟨ad265, A265_1, c265_1, e265, hx265_0, hx265_1, hl265_1, hi265_1⟩ := at_T45 (Kd.V_reads' HO_1.out).2.2 x16_70 p265 q265
                obtain rfl : ad264 = ad265 := (by injection e265)
                obtain ⟨ce265, hce265, hMe265, hcc265⟩ := Kd.V_get HO_1.out z45 x16_70 p265 (by first | exact q265 | exact of_decide_eq_true (by first | (with_reducible assumption) | assumption) | (have e_ := (Kd.V_reads' HO_1.out).1; omega))
                obtain ⟨ua265_1, uc265_1, rfl, ul265_1, ge265_1⟩ := k45_openF hMe265
                have hv265_1 := hcc265 1 _ rfl
                rw [add_field _ _ 1 (by omega)] at hv265_1
                replace hv265_1 := Option.some.inj (hv265_1.symm.trans hx265_1)
                injection hv265_1 with hva_ hvn_ hvc_
                rw [hva_] at ge265_1
                rw [hvc_] at ul265_1
                have HL265_1 := Aside0.mk (show Kd.V k37 37 _ w.heap.size _ _ ((rd_T45 l1 x16_70).f1) from Kd.V_mk ul265_1 ge265_1)
                clear hva_ hvn_ hvc_ ge265_1 ul265_1
                clear hcc265 hce265
                have HR265_1 := Aside0.mk hi265_1
                have HC265_1 := Aside0.mk hl265_1
                clear hi265_1 hl265_1
                replace p265 := eq_true p265
                replace q265 := eq_true q265
                have ea_ := Option.some.inj (hx264_1.symm.trans hx265_1)
                injection ea_ with ea_ en_ ec_
                subst ea_
                subst ec_
                clear en_
                refine start_ (n := 13) (S := fun w' => w'.cell? (ad264.add ((x16_70).toNat * 2)) = some (.int .i64 ((rd_T45 l1 x16_70).f0)) ∧ w'.cell? ⟨(ad264.add ((x16_70).toNat * 2)).block, (ad264.add ((x16_70).toNat * 2)).off + 1, none⟩ = some (.slice A264_1 ((rd_T45 l1 x16_70).f1).length c264_1) ∧ w'.cell? (ad264.add ((x16_70).toNat * 2)) = some (.int .i64 ((rd_T45 l1 x16_70).f0)) ∧ w'.cell? ⟨(ad264.add ((x16_70).toNat * 2)).block, (ad264.add ((x16_70).toNat * 2)).off + 1, none⟩ = some (.slice A264_1 ((rd_T45 l1 x16_70).f1).length c264_1)) (ds := []) #[false, false, false, false, false, false, false, false, false, false, false, false, false] (by kernel_rfl) rfl rfl ⟨hx264_0, hx264_1, hx265_0, hx265_1⟩ (fun hHeld => ?_); refine with_tabW tourlaw5_BonesPlay.tab24 tourlaw5_BonesPlay.bits24 (fun HT_ HW_ => ?_)
                generalize wc.drew = w81 at HO_1 HO_14 HB HL264_1 HL265_1 HR264_1 HR265_1 hx264_0 hx264_1 hx265_0 hx265_1 hHeld ⊢
                refine pure_ (i := 0) (N := some 110) (v := ?_) (a' := ?_) #[true, false, false, false, false, false, false, false, false, false, false, false, false] rfl rfl (any_of HT_.out (by kernel_rfl)) (fun _ _ _ h => h) (Or.inl ⟨by rfl, ?_⟩) ?_ ?_
                rotate_left
                ·intro w'
                 go_simp
                 with_reducible rfl
                rotate_left
                ·simp only [Act.put, List.setIfInBounds_toArray, List.set_cons_zero, List.set_cons_succ, i64_w, i32_w]
                 rfl
                refine pure_ (i := 1) (N := some 111) (v := ?_) (a' := ?_) #[true, true, false, false, false, false, false, false, false, false, false, false, false] rfl rfl (any_of HT_.out (by kernel_rfl)) (fun _ _ _ h => h) (Or.inl ⟨by rfl, ?_⟩) ?_ ?_
                rotate_left
                ·intro w'
                 go_simp
                 with_reducible rfl
                rotate_left
                ·simp only [Act.put, List.setIfInBounds_toArray, List.set_cons_zero, List.set_cons_succ, i64_w, i32_w]
                 rfl
                refine pure_ (i := 2) (N := some 112) (v := ?_) (a' := ?_) #[true, true, true, false, false, false, false, false, false, false, false, false, false] rfl rfl (any_of HT_.out (by kernel_rfl)) (fun _ _ _ h => h) (Or.inl ⟨by rfl, ?_⟩) ?_ ?_
                rotate_left
                ·intro w'
                 go_simp
                 with_reducible rfl
                rotate_left
                ·simp only [Act.put, List.setIfInBounds_toArray, List.set_cons_zero, List.set_cons_succ, i64_w, i32_w]
                 rfl
                refine pure_ (i := 3) (N := some 113) (v := ?_) (a' := ?_) #[true, true, true, true, false, false, false, false, false, false, false, false, false] rfl rfl (any_of HT_.out (by kernel_rfl)) (fun _ _ _ h => h) (Or.inl ⟨by rfl, ?_⟩) ?_ ?_
                rotate_left
                ·intro w'
                 go_simp
                 with_reducible rfl
                rotate_left
                ·simp only [Act.put, List.setIfInBounds_toArray, List.set_cons_zero, List.set_cons_succ, i64_w, i32_w]
                 rfl
                refine pure_ (i := 5) (N := some 115) (v := ?_) (a' := ?_) #[true, true, true, true, false, true, false, false, false, false, false, false, false] rfl rfl (any_of HT_.out (by kernel_rfl)) (fun _ _ _ h => h) (Or.inl ⟨by rfl, ?_⟩) ?_ ?_
                rotate_left
                ·intro w'
                 go_simp
                 with_reducible rfl
                rotate_left
                ·simp only [Act.put, List.setIfInBounds_toArray, List.set_cons_zero, List.set_cons_succ, i64_w, i32_w]
                 rfl
                refine pure_ (i := 6) (N := some 116) (v := ?_) (a' := ?_) #[true, true, true, true, false, true, true, false, false, false, false, false, false] rfl rfl (any_of HT_.out (by kernel_rfl)) (fun _ _ _ h => h) (Or.inl ⟨by rfl, ?_⟩) ?_ ?_
                rotate_left
                ·intro w'
                 go_simp
                 with_reducible rfl
                rotate_left
                ·simp only [Act.put, List.setIfInBounds_toArray, List.set_cons_zero, List.set_cons_succ, i64_w, i32_w]
                 rfl
                refine pure_ (i := 7) (N := some 117) (v := ?_) (a' := ?_) #[true, true, true, true, false, true, true, true, false, false, false, false, false] rfl rfl (any_of HT_.out (by kernel_rfl)) (fun _ _ _ h => h) (Or.inl ⟨by rfl, ?_⟩) ?_ ?_
                rotate_left
                ·intro w'
                 go_simp
                 with_reducible rfl
                rotate_left
                ·simp only [Act.put, List.setIfInBounds_toArray, List.set_cons_zero, List.set_cons_succ, i64_w, i32_w]
                 rfl
                refine pure_ (i := 8) (N := some 118) (v := ?_) (a' := ?_) #[true, true, true, true, false, true, true, true, true, false, false, false, false] rfl rfl (any_of HT_.out (by kernel_rfl)) (fun _ _ _ h => h) (Or.inl ⟨by rfl, ?_⟩) ?_ ?_
                rotate_left
                ·intro w'
                 go_simp
                 with_reducible rfl
                rotate_left
                ·simp only [Act.put, List.setIfInBounds_toArray, List.set_cons_zero, List.set_cons_succ, i64_w, i32_w]
                 rfl
                refine take_ (i := 4) (N := some 114) (v := ?_) (a' := ?_) #[true, true, true, true, true, true, true, true, true, false, false, false, false] rfl rfl (take_ofW HT_.out HW_.out (by kernel_rfl)) (fun _ _ _ h => h) (Or.inl ⟨by rfl, ?_⟩) hHeld ?_ ?_
                rotate_left
                ·rintro w' ⟨s0, s1, s2, s3⟩
                 go_simp
                 with_reducible rfl
                rotate_left
                ·simp only [Act.put, List.setIfInBounds_toArray, List.set_cons_zero, List.set_cons_succ, i64_w, i32_w]
                 rfl
                refine pure_ (i := 10) (N := some 17) (v := ?_) (a' := ?_) #[true, true, true, true, true, true, true, true, true, false, true, false, false] rfl rfl (any_of HT_.out (by kernel_rfl)) (fun _ _ _ h => h) (Or.inl ⟨by rfl, ?_⟩) ?_ ?_
                rotate_left
                ·intro w'
                 go_simp
                 with_reducible rfl
                rotate_left
                ·simp only [Act.put, List.setIfInBounds_toArray, List.set_cons_zero, List.set_cons_succ, i64_w, i32_w]
                 rfl
                refine take_ (i := 9) (N := some 119) (v := ?_) (a' := ?_) #[true, true, true, true, true, true, true, true, true, true, true, false, false] rfl rfl (take_ofW HT_.out HW_.out (by kernel_rfl)) (fun _ _ _ h => h) (Or.inl ⟨by rfl, ?_⟩) hHeld ?_ ?_
                rotate_left
                ·rintro w' ⟨s0, s1, s2, s3⟩
                 go_simp
                 with_reducible rfl
                rotate_left
                ·simp only [Act.put, List.setIfInBounds_toArray, List.set_cons_zero, List.set_cons_succ, i64_w, i32_w]
                 rfl
                refine pure_ (i := 11) (N := some 18) (v := ?_) (a' := ?_) #[true, true, true, true, true, true, true, true, true, true, true, true, false] rfl rfl (any_of HT_.out (by kernel_rfl)) (fun _ _ _ h => h) (Or.inl ⟨by rfl, ?_⟩) ?_ ?_
                rotate_left
                ·intro w'
                 go_simp
                 with_reducible rfl
                rotate_left
                ·simp only [Act.put, List.setIfInBounds_toArray, List.set_cons_zero, List.set_cons_succ, i64_w, i32_w]
                 rfl
                refine pure_ (i := 12) (N := some 19) (v := ?_) (a' := ?_) #[true, true, true, true, true, true, true, true, true, true, true, true, true] rfl rfl (any_of HT_.out (by kernel_rfl)) (fun _ _ _ h => h) (Or.inl ⟨by rfl, ?_⟩) ?_ ?_
                rotate_left
                ·intro w'
                 go_simp
                 with_reducible rfl
                rotate_left
                ·simp only [Act.put, List.setIfInBounds_toArray, List.set_cons_zero, List.set_cons_succ, i64_w, i32_w]
                 rfl
                refine done_ (done_of HT_.out (by kernel_rfl)) ?_
                go_upto_region 25 with (fail)
                go_cut [133] (fun v133 wc => ∃ (kq : Nat) (x133_79 : Bool), v133 = .bool x133_79 ∧ Aside0 (tourlaw5_BonesPlay.j6 kq l0 l1 a2 t259 t260 x16_70 ((rd_T45 l1 x16_70).f1) ((rd_T45 l1 x16_70).f1) 0 x133_79 = some r) ∧ Aside0 (kq ≤ kj70) ∧ Aside0 (Kd.V k45 45 wc w.heap.size (fun k_ => (P1_ k_ ∨ w.heap.size ≤ k_) ∧ some k_ ≠ (v261 : Value).ownBlock) (.slice (some ad264) l1.length c1) l1) ∧ Aside0 (Kd.R k37 37 wc w.heap.size (fun k_ => (w.heap.size ≤ k_)) v261 t259) ∧ Aside0 (Kd.C k37 wc A264_1 ((rd_T45 l1 x16_70).f1).length ((rd_T45 l1 x16_70).f1)) ∧ Aside0 (Kd.C k37 wc A264_1 ((rd_T45 l1 x16_70).f1).length ((rd_T45 l1 x16_70).f1)) ∧ Aside0 (Below w.heap.size w wc))
                case first =>
                 have H := HC80.out
                 clear HC80
                 by_cases c82 : (wrap64 (x16_70 + 1)) < (l1.length : Int)
                 ·rw [if_pos c82] at H
                  have c82b0 : decide ((wrap64 (x16_70 + 1)) < (l1.length : Int)) = true := decide_eq_true c82
                  clear c82
                  (first | rw [c82b0] | (simp only [i64_w, i32_w]; rw [c82b0]) | skip)
                  have H' := Aside0.mk H
                  clear H
                  have p266 : 0 ≤ (x16_70 : Int) := of_decide_eq_true (by first | (with_reducible assumption) | assumption)
                  have q266 : x16_70 < (l1.length : Int) := of_decide_eq_true (by first | (with_reducible assumption) | assumption)
                  obtain ⟨ad266, A266_1, c266_1, e266, hx266_0, hx266_1, hl266_1, hi266_1⟩ := at_T45 (Kd.V_reads' HO_1.out).2.2 x16_70 p266 q266
                  obtain rfl : ad264 = ad266 := (by injection e266)
                  obtain ⟨ce266, hce266, hMe266, hcc266⟩ := Kd.V_get HO_1.out z45 x16_70 p266 (by first | exact q266 | exact of_decide_eq_true (by first | (with_reducible assumption) | assumption) | (have e_ := (Kd.V_reads' HO_1.out).1; omega))
                  obtain ⟨ua266_1, uc266_1, rfl, ul266_1, ge266_1⟩ := k45_openF hMe266
                  have hv266_1 := hcc266 1 _ rfl
                  rw [add_field _ _ 1 (by omega)] at hv266_1
                  replace hv266_1 := Option.some.inj (hv266_1.symm.trans hx266_1)
                  injection hv266_1 with hva_ hvn_ hvc_
                  rw [hva_] at ge266_1
                  rw [hvc_] at ul266_1
                  have HL266_1 := Aside0.mk (show Kd.V k37 37 _ w.heap.size _ _ ((rd_T45 l1 x16_70).f1) from Kd.V_mk ul266_1 ge266_1)
                  clear hva_ hvn_ hvc_ ge266_1 ul266_1
                  clear hcc266 hce266
                  have HR266_1 := Aside0.mk hi266_1
                  have HC266_1 := Aside0.mk hl266_1
                  clear hi266_1 hl266_1
                  replace p266 := eq_true p266
                  replace q266 := eq_true q266
                  go_wp2
                  go_meet
                  case rel => exact ⟨_, (decide (a2 > ((rd_T45 l1 x16_70).f0))), (by first | rfl | (simp; done) | (simp [*]; done)), H', ⟨by have := HJ5.out; have := HJ18.out; have := HJ20.out; have := HK4.out; have := HJ70.out; first | omega | exact Nat.le_refl _⟩, ⟨by (with_reducible repeat (first | apply Kd.V_alloc | apply Kd.V_drewN | apply Kd.V_drew)); exact HO_1.out⟩, ⟨by (with_reducible repeat (first | apply Kd.R_alloc | apply Kd.R_drewN | apply Kd.R_drew)); exact HO_14.out⟩, ⟨by repeat (first | (with_reducible exact HR264_1.out) | (with_reducible refine Kd.C_alloc ?_ _) | (with_reducible refine Kd.C_drewN ?_ _) | (with_reducible refine Kd.C_drew ?_) | exact HR264_1.out)⟩, ⟨by repeat (first | (with_reducible exact HR265_1.out) | (with_reducible refine Kd.C_alloc ?_ _) | (with_reducible refine Kd.C_drewN ?_ _) | (with_reducible refine Kd.C_drew ?_) | exact HR265_1.out)⟩, ⟨by repeat (first | (with_reducible first | exact HB.out | apply below_alloc | apply pw_below_drewN | apply below_drew1) | exact HB.out)⟩⟩
                 ·rw [if_neg c82] at H
                  have c82b0 : decide ((wrap64 (x16_70 + 1)) < (l1.length : Int)) = false := decide_eq_false c82
                  clear c82
                  (first | rw [c82b0] | (simp only [i64_w, i32_w]; rw [c82b0]) | skip)
                  have H' := Aside0.mk H
                  clear H
                  go_wp2
                  go_meet
                  case rel => exact ⟨_, (false), (by first | rfl | (simp; done) | (simp [*]; done)), H', ⟨by have := HJ5.out; have := HJ18.out; have := HJ20.out; have := HK4.out; have := HJ70.out; first | omega | exact Nat.le_refl _⟩, ⟨by (with_reducible repeat (first | apply Kd.V_alloc | apply Kd.V_drewN | apply Kd.V_drew)); exact HO_1.out⟩, ⟨by (with_reducible repeat (first | apply Kd.R_alloc | apply Kd.R_drewN | apply Kd.R_drew)); exact HO_14.out⟩, ⟨by repeat (first | (with_reducible exact HR264_1.out) | (with_reducible refine Kd.C_alloc ?_ _) | (with_reducible refine Kd.C_drewN ?_ _) | (with_reducible refine Kd.C_drew ?_) | exact HR264_1.out)⟩, ⟨by repeat (first | (with_reducible exact HR265_1.out) | (with_reducible refine Kd.C_alloc ?_ _) | (with_reducible refine Kd.C_drewN ?_ _) | (with_reducible refine Kd.C_drew ?_) | exact HR265_1.out)⟩, ⟨by repeat (first | (with_reducible first | exact HB.out | apply below_alloc | apply pw_below_drewN | apply below_drew1) | exact HB.out)⟩⟩
                case rest =>
                 clear HC80
                 try clear c1
                 try clear c2
                 try clear p2
                 try clear q2
                 try clear hx2
                 try clear c3
                 try clear c4
                 try clear p6
                 try clear c7
                 try clear c8
                 try clear c11
                 try clear c12
                 try clear c13
                 try clear c16
                 try clear c16b0
                 try clear c16b1
                 try clear c18
                 try clear c20
                 try clear c20b0
                 try clear c20b1
                 try clear c22
                 try clear c23
                 try clear c23b0
                 try clear c24
                 try clear c24b0
                 try clear c25
                 try clear c25b0
                 try clear p25
                 try clear q25
                 try clear hx25
                 try clear c26
                 try clear c26b0
                 try clear c26b1
                 try clear p26
                 try clear q26
                 try clear hx26
                 try clear c28
                 try clear c28b0
                 try clear c28b1
                 try clear c29
                 try clear c29b0
                 try clear c39
                 try clear c39b0
                 try clear p64
                 try clear c70
                 try clear c70b0
                 try clear c70b1
                 try clear c73
                 try clear c73b0
                 try clear c75
                 try clear c75b0
                 try clear c76
                 try clear c76b0
                 try clear c77
                 try clear c77b0
                 try clear c78
                 try clear c78b0
                 try clear c79
                 try clear c79b0
                 try clear c82
                 try clear c82b0
                 try clear hcz31_0
                 try clear hcz31_1
                 try clear hcz33_0
                 try clear hcz33_1
                 try clear hcz38_0
                 try clear hcz38_1
                 try clear hcz41_0
                 try clear hcz41_1
                 try clear hcz43_0
                 try clear hcz43_1
                 try clear hcz48_0
                 try clear hcz48_1
                 try clear hcz50_0
                 try clear hcz50_1
                 try clear hcz52_0
                 try clear hcz52_1
                 try clear hcz57_0
                 try clear hcz57_1
                 try clear hcz59_0
                 try clear hcz59_1
                 try clear hcz61_0
                 try clear hcz61_1
                 try clear hcz66_0
                 try clear hcz66_1
                 try clear hcz68_0
                 try clear hcz68_1
                 try clear hfz31_0
                 try clear hfz31_1
                 try clear hfz33_0
                 try clear hfz33_1
                 try clear hfz38_0
                 try clear hfz38_1
                 try clear hfz41_0
                 try clear hfz41_1
                 try clear hfz43_0
                 try clear hfz43_1
                 try clear hfz48_0
                 try clear hfz48_1
                 try clear hfz50_0
                 try clear hfz50_1
                 try clear hfz52_0
                 try clear hfz52_1
                 try clear hfz57_0
                 try clear hfz57_1
                 try clear hfz59_0
                 try clear hfz59_1
                 try clear hfz61_0
                 try clear hfz61_1
                 try clear hfz66_0
                 try clear hfz66_1
                 try clear hfz68_0
                 try clear hfz68_1
                 try clear hx253_0
                 try clear hx253_1
                 try clear hx263_0
                 try clear hx263_1
                 try clear hx264_0
                 try clear hx264_1
                 try clear hx265_0
                 try clear hx265_1
                 try clear hx266_0
                 try clear hx266_1
                 try clear p2
                 try clear p25
                 try clear p253
                 try clear p26
                 try clear p263
                 try clear p264
                 try clear p265
                 try clear p266
                 try clear p6
                 try clear p64
                 try clear q2
                 try clear q25
                 try clear q253
                 try clear q26
                 try clear q263
                 try clear q264
                 try clear q265
                 try clear q266
                 obtain ⟨kq, x133_79, rfl, HA, HJ79, HO_1, HO_14, HR264_1, HR265_1, HB⟩ := hcut
                 cases kq with
                 | zero => exact absurd HA.out (by simp [tourlaw5_BonesPlay.j6])
                 | succ kj79 =>
                  have H := HA.out
                  clear HA
                  simp only [tourlaw5_BonesPlay.j6] at H
                  by_cases c83 : x133_79 = true
                  ·subst c83
                   have H1 : (if 0 ≤ (wrap64 (x16_70 + 1)) then (if (wrap64 (x16_70 + 1)) < (l1.length : Int) then (if 0 ≤ x16_70 then (if x16_70 < (l1.length : Int) then ((fix_MulDiv.f kj79 (wrap64 (a2 - ((rd_T45 l1 x16_70).f0))) 65536 (wrap64 (((rd_T45 l1 (wrap64 (x16_70 + 1))).f0) - ((rd_T45 l1 x16_70).f0)))).bind fun t271 => (if t260 = 0 then (if (t259.length : Int) = (l0.length : Int) then (tourlaw5_BonesPlay.l2 kj79 t259 ((rd_T45 l1 x16_70).f1) ((rd_T45 l1 (wrap64 (x16_70 + 1))).f1) t271 (t259.length : Int) 0) else (none)) else (none))) else (none)) else (none)) else (none)) else (none)) = some r := by rw [if_pos rfl] at H; exact H
                   clear H
                   have H := H1
                   clear H1
                   obtain ⟨ji84, hji84⟩ : ∃ j_ : Int, (wrap64 (x16_70 + 1)) = j_ := ⟨_, rfl⟩
                   replace H : (if 0 ≤ (ji84) then (if (ji84) < (l1.length : Int) then (if 0 ≤ x16_70 then (if x16_70 < (l1.length : Int) then ((fix_MulDiv.f kj79 (wrap64 (a2 - ((rd_T45 l1 x16_70).f0))) 65536 (wrap64 (((rd_T45 l1 (ji84)).f0) - ((rd_T45 l1 x16_70).f0)))).bind fun t271 => (if t260 = 0 then (if (t259.length : Int) = (l0.length : Int) then (tourlaw5_BonesPlay.l2 kj79 t259 ((rd_T45 l1 x16_70).f1) ((rd_T45 l1 (ji84)).f1) t271 (t259.length : Int) 0) else (none)) else (none))) else (none)) else (none)) else (none)) else (none)) = some r := by first | (rw [hji84] at H; exact H) | (simp only [hji84] at H ⊢; exact H)
                   have hji84w : (IntKind.i64.wrap (x16_70 + 1)) = ji84 := (i64_w _).trans hji84
                   by_cases c85 : 0 ≤ (ji84)
                   ·rw [if_pos c85] at H
                    have c85b0 : decide (0 ≤ (ji84)) = true := decide_eq_true c85
                    clear c85
                    by_cases c86 : (ji84) < (l1.length : Int)
                    ·rw [if_pos c86] at H
                     have c86b0 : decide ((ji84) < (l1.length : Int)) = true := decide_eq_true c86
                     clear c86
                     by_cases c87 : 0 ≤ x16_70
                     ·rw [if_pos c87] at H
                      have c87b0 : decide (0 ≤ x16_70) = true := decide_eq_true c87
                      clear c87
                      by_cases c88 : x16_70 < (l1.length : Int)
                      ·rw [if_pos c88] at H
                       have c88b0 : decide (x16_70 < (l1.length : Int)) = true := decide_eq_true c88
                       clear c88
                       replace H := Option.bind_eq_some_iff.mp H
                       obtain ⟨t271, A890, H⟩ := H
                       replace H : (if t260 = 0 then (if (t259.length : Int) = (l0.length : Int) then (tourlaw5_BonesPlay.l2 kj79 t259 ((rd_T45 l1 x16_70).f1) ((rd_T45 l1 (ji84)).f1) t271 (t259.length : Int) 0) else (none)) else (none)) = some r := H
                       have A89 := Aside0.mk A890
                       clear A890
                       by_cases c90 : t260 = 0
                       ·rw [if_pos c90] at H
                        have c90b0 : (t260 == 0) = true := beq_iff_eq.mpr c90
                        have c90b1 : (t260 != 0) = false := bne_eq_false_iff_eq.mpr c90
                        clear c90
                        by_cases c91 : (t259.length : Int) = (l0.length : Int)
                        ·rw [if_pos c91] at H
                         have c91b0 : ((t259.length : Int) == (l0.length : Int)) = true := beq_iff_eq.mpr c91
                         have c91b1 : ((t259.length : Int) != (l0.length : Int)) = false := bne_eq_false_iff_eq.mpr c91
                         have c91b2 : (t259.length == l0.length) = true := by first | simpa using c91 | (simp at c91 ⊢; omega)
                         clear c91
                         have H' := Aside0.mk H
                         clear H
                         try go_wp2
                         have n0_ := Aside0.mk (Kd.V_drew HO_1.out)
                         have n1_ := Aside0.mk (Kd.R_drew HO_14.out)
                         have n2_ := Aside0.mk (Kd.C_drew HR264_1.out)
                         have n3_ := Aside0.mk (Kd.C_drew HR265_1.out)
                         have n4_ := Aside0.mk (below_drew1 HB.out)
                         clear HO_1
                         clear HO_14
                         clear HR264_1
                         clear HR265_1
                         clear HB
                         have HO_1 := n0_
                         have HO_14 := n1_
                         have HR264_1 := n2_
                         have HR265_1 := n3_
                         have HB := n4_
                         clear n0_ n1_ n2_ n3_ n4_
                         have p267 : 0 ≤ ((ji84) : Int) := of_decide_eq_true (by first | (with_reducible assumption) | assumption)
                         have q267 : (ji84) < (l1.length : Int) := of_decide_eq_true (by first | (with_reducible assumption) | assumption)
                         obtain ⟨ad267, A267_1, c267_1, e267, hx267_0, hx267_1, hl267_1, hi267_1⟩ := at_T45 (Kd.V_reads' HO_1.out).2.2 (ji84) p267 q267
                         obtain rfl : ad264 = ad267 := (by injection e267)
                         obtain ⟨ce267, hce267, hMe267, hcc267⟩ := Kd.V_get HO_1.out z45 (ji84) p267 (by first | exact q267 | exact of_decide_eq_true (by first | (with_reducible assumption) | assumption) | (have e_ := (Kd.V_reads' HO_1.out).1; omega))
                         obtain ⟨ua267_1, uc267_1, rfl, ul267_1, ge267_1⟩ := k45_openF hMe267
                         have hv267_1 := hcc267 1 _ rfl
                         rw [add_field _ _ 1 (by omega)] at hv267_1
                         replace hv267_1 := Option.some.inj (hv267_1.symm.trans hx267_1)
                         injection hv267_1 with hva_ hvn_ hvc_
                         rw [hva_] at ge267_1
                         rw [hvc_] at ul267_1
                         have HL267_1 := Aside0.mk (show Kd.V k37 37 _ w.heap.size _ _ ((rd_T45 l1 (ji84)).f1) from Kd.V_mk ul267_1 ge267_1)
                         clear hva_ hvn_ hvc_ ge267_1 ul267_1
                         clear hcc267 hce267
                         have HR267_1 := Aside0.mk hi267_1
                         have HC267_1 := Aside0.mk hl267_1
                         clear hi267_1 hl267_1
                         replace p267 := eq_true p267
                         replace q267 := eq_true q267
                         have p268 : 0 ≤ (x16_70 : Int) := of_decide_eq_true (by first | (with_reducible assumption) | assumption)
                         have q268 : x16_70 < (l1.length : Int) := of_decide_eq_true (by first | (with_reducible assumption) | assumption)
                         obtain ⟨ad268, A268_1, c268_1, e268, hx268_0, hx268_1, hl268_1, hi268_1⟩ := at_T45 (Kd.V_reads' HO_1.out).2.2 x16_70 p268 q268
                         obtain rfl : ad264 = ad268 := (by injection e268)
                         obtain ⟨ce268, hce268, hMe268, hcc268⟩ := Kd.V_get HO_1.out z45 x16_70 p268 (by first | exact q268 | exact of_decide_eq_true (by first | (with_reducible assumption) | assumption) | (have e_ := (Kd.V_reads' HO_1.out).1; omega))
                         obtain ⟨ua268_1, uc268_1, rfl, ul268_1, ge268_1⟩ := k45_openF hMe268
                         have hv268_1 := hcc268 1 _ rfl
                         rw [add_field _ _ 1 (by omega)] at hv268_1
                         replace hv268_1 := Option.some.inj (hv268_1.symm.trans hx268_1)
                         injection hv268_1 with hva_ hvn_ hvc_
                         rw [hva_] at ge268_1
                         rw [hvc_] at ul268_1
                         have HL268_1 := Aside0.mk (show Kd.V k37 37 _ w.heap.size _ _ ((rd_T45 l1 x16_70).f1) from Kd.V_mk ul268_1 ge268_1)
                         clear hva_ hvn_ hvc_ ge268_1 ul268_1
                         clear hcc268 hce268
                         have HR268_1 := Aside0.mk hi268_1
                         have HC268_1 := Aside0.mk hl268_1
                         clear hi268_1 hl268_1
                         replace p268 := eq_true p268
                         replace q268 := eq_true q268
                         have p269 : 0 ≤ ((ji84) : Int) := of_decide_eq_true (by first | (with_reducible assumption) | assumption)
                         have q269 : (ji84) < (l1.length : Int) := of_decide_eq_true (by first | (with_reducible assumption) | assumption)
                         obtain ⟨ad269, A269_1, c269_1, e269, hx269_0, hx269_1, hl269_1, hi269_1⟩ := at_T45 (Kd.V_reads' HO_1.out).2.2 (ji84) p269 q269
                         obtain rfl : ad264 = ad269 := (by injection e269)
                         obtain ⟨ce269, hce269, hMe269, hcc269⟩ := Kd.V_get HO_1.out z45 (ji84) p269 (by first | exact q269 | exact of_decide_eq_true (by first | (with_reducible assumption) | assumption) | (have e_ := (Kd.V_reads' HO_1.out).1; omega))
                         obtain ⟨ua269_1, uc269_1, rfl, ul269_1, ge269_1⟩ := k45_openF hMe269
                         have hv269_1 := hcc269 1 _ rfl
                         rw [add_field _ _ 1 (by omega)] at hv269_1
                         replace hv269_1 := Option.some.inj (hv269_1.symm.trans hx269_1)
                         injection hv269_1 with hva_ hvn_ hvc_
                         rw [hva_] at ge269_1
                         rw [hvc_] at ul269_1
                         have HL269_1 := Aside0.mk (show Kd.V k37 37 _ w.heap.size _ _ ((rd_T45 l1 (ji84)).f1) from Kd.V_mk ul269_1 ge269_1)
                         clear hva_ hvn_ hvc_ ge269_1 ul269_1
                         clear hcc269 hce269
                         have HR269_1 := Aside0.mk hi269_1
                         have HC269_1 := Aside0.mk hl269_1
                         clear hi269_1 hl269_1
                         replace p269 := eq_true p269
                         replace q269 := eq_true q269
                         have ea_ := Option.some.inj (hx267_1.symm.trans hx269_1)
                         injection ea_ with ea_ en_ ec_
                         subst ea_
                         subst ec_
                         clear en_
                         have p270 : 0 ≤ (x16_70 : Int) := of_decide_eq_true (by first | (with_reducible assumption) | assumption)
                         have q270 : x16_70 < (l1.length : Int) := of_decide_eq_true (by first | (with_reducible assumption) | assumption)
                         obtain ⟨ad270, A270_1, c270_1, e270, hx270_0, hx270_1, hl270_1, hi270_1⟩ := at_T45 (Kd.V_reads' HO_1.out).2.2 x16_70 p270 q270
                         obtain rfl : ad264 = ad270 := (by injection e270)
                         obtain ⟨ce270, hce270, hMe270, hcc270⟩ := Kd.V_get HO_1.out z45 x16_70 p270 (by first | exact q270 | exact of_decide_eq_true (by first | (with_reducible assumption) | assumption) | (have e_ := (Kd.V_reads' HO_1.out).1; omega))
                         obtain ⟨ua270_1, uc270_1, rfl, ul270_1, ge270_1⟩ := k45_openF hMe270
                         have hv270_1 := hcc270 1 _ rfl
                         rw [add_field _ _ 1 (by omega)] at hv270_1
                         replace hv270_1 := Option.some.inj (hv270_1.symm.trans hx270_1)
                         injection hv270_1 with hva_ hvn_ hvc_
                         rw [hva_] at ge270_1
                         rw [hvc_] at ul270_1
                         have HL270_1 := Aside0.mk (show Kd.V k37 37 _ w.heap.size _ _ ((rd_T45 l1 x16_70).f1) from Kd.V_mk ul270_1 ge270_1)
                         clear hva_ hvn_ hvc_ ge270_1 ul270_1
                         clear hcc270 hce270
                         have HR270_1 := Aside0.mk hi270_1
                         have HC270_1 := Aside0.mk hl270_1
                         clear hi270_1 hl270_1
                         replace p270 := eq_true p270
                         replace q270 := eq_true q270
                         have ea_ := Option.some.inj (hx268_1.symm.trans hx270_1)
                         injection ea_ with ea_ en_ ec_
                         subst ea_
                         subst ec_
                         clear en_
                         refine start_ (n := 28) (S := fun w' => w'.cell? (ad264.add (((ji84)).toNat * 2)) = some (.int .i64 ((rd_T45 l1 (ji84)).f0)) ∧ w'.cell? ⟨(ad264.add (((ji84)).toNat * 2)).block, (ad264.add (((ji84)).toNat * 2)).off + 1, none⟩ = some (.slice A267_1 ((rd_T45 l1 (ji84)).f1).length c267_1) ∧ w'.cell? (ad264.add ((x16_70).toNat * 2)) = some (.int .i64 ((rd_T45 l1 x16_70).f0)) ∧ w'.cell? ⟨(ad264.add ((x16_70).toNat * 2)).block, (ad264.add ((x16_70).toNat * 2)).off + 1, none⟩ = some (.slice A268_1 ((rd_T45 l1 x16_70).f1).length c268_1) ∧ w'.cell? (ad264.add (((ji84)).toNat * 2)) = some (.int .i64 ((rd_T45 l1 (ji84)).f0)) ∧ w'.cell? ⟨(ad264.add (((ji84)).toNat * 2)).block, (ad264.add (((ji84)).toNat * 2)).off + 1, none⟩ = some (.slice A267_1 ((rd_T45 l1 (ji84)).f1).length c267_1) ∧ w'.cell? (ad264.add ((x16_70).toNat * 2)) = some (.int .i64 ((rd_T45 l1 x16_70).f0)) ∧ w'.cell? ⟨(ad264.add ((x16_70).toNat * 2)).block, (ad264.add ((x16_70).toNat * 2)).off + 1, none⟩ = some (.slice A268_1 ((rd_T45 l1 x16_70).f1).length c268_1)) (ds := []) #[false, false, false, false, false, false, false, false, false, false, false, false, false, false, false, false, false, false, false, false, false, false, false, false, false, false, false, false] (by kernel_rfl) rfl rfl ⟨hx267_0, hx267_1, hx268_0, hx268_1, hx269_0, hx269_1, hx270_0, hx270_1⟩ (fun hHeld => ?_); refine with_tabW tourlaw5_BonesPlay.tab26 tourlaw5_BonesPlay.bits26 (fun HT_ HW_ => ?_)
                         generalize wc.drew = w92 at HO_1 HO_14 HR264_1 HR265_1 HB HL267_1 HL268_1 HL269_1 HL270_1 HR267_1 HR268_1 HR269_1 HR270_1 hx267_0 hx267_1 hx268_0 hx268_1 hx269_0 hx269_1 hx270_0 hx270_1 hHeld ⊢
                         refine pure_ (i := 0) (N := some 134) (v := ?_) (a' := ?_) #[true, false, false, false, false, false, false, false, false, false, false, false, false, false, false, false, false, false, false, false, false, false, false, false, false, false, false, false] rfl rfl (any_of HT_.out (by kernel_rfl)) (fun _ _ _ h => h) (Or.inl ⟨by rfl, ?_⟩) ?_ ?_
                         rotate_left
                         ·intro w'
                          go_simp
                          with_reducible rfl
                         rotate_left
                         ·simp only [Act.put, List.setIfInBounds_toArray, List.set_cons_zero, List.set_cons_succ, i64_w, i32_w]
                          rfl
                         refine pure_ (i := 1) (N := some 135) (v := ?_) (a' := ?_) #[true, true, false, false, false, false, false, false, false, false, false, false, false, false, false, false, false, false, false, false, false, false, false, false, false, false, false, false] rfl rfl (any_of HT_.out (by kernel_rfl)) (fun _ _ _ h => h) (Or.inl ⟨by rfl, ?_⟩) ?_ ?_
                         rotate_left
                         ·intro w'
                          go_simp
                          with_reducible rfl
                         rotate_left
                         ·simp only [Act.put, List.setIfInBounds_toArray, List.set_cons_zero, List.set_cons_succ, i64_w, i32_w]
                          rfl
                         refine pure_ (i := 2) (N := some 136) (v := ?_) (a' := ?_) #[true, true, true, false, false, false, false, false, false, false, false, false, false, false, false, false, false, false, false, false, false, false, false, false, false, false, false, false] rfl rfl (any_of HT_.out (by kernel_rfl)) (fun _ _ _ h => h) (Or.inl ⟨by rfl, ?_⟩) ?_ ?_
                         rotate_left
                         ·intro w'
                          go_simp
                          with_reducible rfl
                         rotate_left
                         ·simp only [Act.put, List.setIfInBounds_toArray, List.set_cons_zero, List.set_cons_succ, i64_w, i32_w]
                          rfl
                         refine pure_ (i := 3) (N := some 137) (v := ?_) (a' := ?_) #[true, true, true, true, false, false, false, false, false, false, false, false, false, false, false, false, false, false, false, false, false, false, false, false, false, false, false, false] rfl rfl (any_of HT_.out (by kernel_rfl)) (fun _ _ _ h => h) (Or.inl ⟨by rfl, ?_⟩) ?_ ?_
                         rotate_left
                         ·intro w'
                          go_simp
                          with_reducible rfl
                         rotate_left
                         ·simp only [Act.put, List.setIfInBounds_toArray, List.set_cons_zero, List.set_cons_succ, i64_w, i32_w]
                          rfl
                         refine pure_ (i := 4) (N := some 138) (v := ?_) (a' := ?_) #[true, true, true, true, true, false, false, false, false, false, false, false, false, false, false, false, false, false, false, false, false, false, false, false, false, false, false, false] rfl rfl (any_of HT_.out (by kernel_rfl)) (fun _ _ _ h => h) (Or.inl ⟨by rfl, ?_⟩) ?_ ?_
                         rotate_left
                         ·intro w'
                          go_simp
                          with_reducible rfl
                         rotate_left
                         ·simp only [Act.put, List.setIfInBounds_toArray, List.set_cons_zero, List.set_cons_succ, i64_w, i32_w]
                          rfl
                         refine pure_ (i := 6) (N := some 140) (v := ?_) (a' := ?_) #[true, true, true, true, true, false, true, false, false, false, false, false, false, false, false, false, false, false, false, false, false, false, false, false, false, false, false, false] rfl rfl (any_of HT_.out (by kernel_rfl)) (fun _ _ _ h => h) (Or.inl ⟨by rfl, ?_⟩) ?_ ?_
                         rotate_left
                         ·intro w'
                          go_simp
                          with_reducible rfl
                         rotate_left
                         ·simp only [Act.put, List.setIfInBounds_toArray, List.set_cons_zero, List.set_cons_succ, i64_w, i32_w]
                          rfl
                         refine pure_ (i := 7) (N := some 141) (v := ?_) (a' := ?_) #[true, true, true, true, true, false, true, true, false, false, false, false, false, false, false, false, false, false, false, false, false, false, false, false, false, false, false, false] rfl rfl (any_of HT_.out (by kernel_rfl)) (fun _ _ _ h => h) (Or.inl ⟨by rfl, ?_⟩) ?_ ?_
                         rotate_left
                         ·intro w'
                          go_simp
                          with_reducible rfl
                         rotate_left
                         ·simp only [Act.put, List.setIfInBounds_toArray, List.set_cons_zero, List.set_cons_succ, i64_w, i32_w]
                          rfl
                         refine pure_ (i := 8) (N := some 142) (v := ?_) (a' := ?_) #[true, true, true, true, true, false, true, true, true, false, false, false, false, false, false, false, false, false, false, false, false, false, false, false, false, false, false, false] rfl rfl (any_of HT_.out (by kernel_rfl)) (fun _ _ _ h => h) (Or.inl ⟨by rfl, ?_⟩) ?_ ?_
                         rotate_left
                         ·intro w'
                          go_simp
                          with_reducible rfl
                         rotate_left
                         ·simp only [Act.put, List.setIfInBounds_toArray, List.set_cons_zero, List.set_cons_succ, i64_w, i32_w]
                          rfl
                         refine pure_ (i := 9) (N := some 143) (v := ?_) (a' := ?_) #[true, true, true, true, true, false, true, true, true, true, false, false, false, false, false, false, false, false, false, false, false, false, false, false, false, false, false, false] rfl rfl (any_of HT_.out (by kernel_rfl)) (fun _ _ _ h => h) (Or.inl ⟨by rfl, ?_⟩) ?_ ?_
                         rotate_left
                         ·intro w'
                          go_simp
                          with_reducible rfl
                         rotate_left
                         ·simp only [Act.put, List.setIfInBounds_toArray, List.set_cons_zero, List.set_cons_succ, i64_w, i32_w]
                          rfl
                         refine pure_ (i := 10) (N := some 144) (v := ?_) (a' := ?_) #[true, true, true, true, true, false, true, true, true, true, true, false, false, false, false, false, false, false, false, false, false, false, false, false, false, false, false, false] rfl rfl (any_of HT_.out (by kernel_rfl)) (fun _ _ _ h => h) (Or.inl ⟨by rfl, ?_⟩) ?_ ?_
                         rotate_left
                         ·intro w'
                          go_simp
                          with_reducible rfl
                         rotate_left
                         ·simp only [Act.put, List.setIfInBounds_toArray, List.set_cons_zero, List.set_cons_succ, i64_w, i32_w]
                          rfl
                         refine pure_ (i := 13) (N := some 147) (v := ?_) (a' := ?_) #[true, true, true, true, true, false, true, true, true, true, true, false, false, true, false, false, false, false, false, false, false, false, false, false, false, false, false, false] rfl rfl (any_of HT_.out (by kernel_rfl)) (fun _ _ _ h => h) (Or.inl ⟨by rfl, ?_⟩) ?_ ?_
                         rotate_left
                         ·intro w'
                          go_simp
                          with_reducible rfl
                         rotate_left
                         ·simp only [Act.put, List.setIfInBounds_toArray, List.set_cons_zero, List.set_cons_succ, i64_w, i32_w]
                          rfl
                         refine pure_ (i := 14) (N := some 148) (v := ?_) (a' := ?_) #[true, true, true, true, true, false, true, true, true, true, true, false, false, true, true, false, false, false, false, false, false, false, false, false, false, false, false, false] rfl rfl (any_of HT_.out (by kernel_rfl)) (fun _ _ _ h => h) (Or.inl ⟨by rfl, ?_⟩) ?_ ?_
                         rotate_left
                         ·intro w'
                          go_simp
                          with_reducible rfl
                         rotate_left
                         ·simp only [Act.put, List.setIfInBounds_toArray, List.set_cons_zero, List.set_cons_succ, i64_w, i32_w]
                          rfl
                         refine pure_ (i := 15) (N := some 149) (v := ?_) (a' := ?_) #[true, true, true, true, true, false, true, true, true, true, true, false, false, true, true, true, false, false, false, false, false, false, false, false, false, false, false, false] rfl rfl (any_of HT_.out (by kernel_rfl)) (fun _ _ _ h => h) (Or.inl ⟨by rfl, ?_⟩) ?_ ?_
                         rotate_left
                         ·intro w'
                          go_simp
                          with_reducible rfl
                         rotate_left
                         ·simp only [Act.put, List.setIfInBounds_toArray, List.set_cons_zero, List.set_cons_succ, i64_w, i32_w]
                          rfl
                         refine pure_ (i := 16) (N := some 150) (v := ?_) (a' := ?_) #[true, true, true, true, true, false, true, true, true, true, true, false, false, true, true, true, true, false, false, false, false, false, false, false, false, false, false, false] rfl rfl (any_of HT_.out (by kernel_rfl)) (fun _ _ _ h => h) (Or.inl ⟨by rfl, ?_⟩) ?_ ?_
                         rotate_left
                         ·intro w'
                          go_simp
                          with_reducible rfl
                         rotate_left
                         ·simp only [Act.put, List.setIfInBounds_toArray, List.set_cons_zero, List.set_cons_succ, i64_w, i32_w]
                          rfl
                         refine pure_ (i := 17) (N := some 151) (v := ?_) (a' := ?_) #[true, true, true, true, true, false, true, true, true, true, true, false, false, true, true, true, true, true, false, false, false, false, false, false, false, false, false, false] rfl rfl (any_of HT_.out (by kernel_rfl)) (fun _ _ _ h => h) (Or.inl ⟨by rfl, ?_⟩) ?_ ?_
                         rotate_left
                         ·intro w'
                          go_simp
                          with_reducible rfl
                         rotate_left
                         ·simp only [Act.put, List.setIfInBounds_toArray, List.set_cons_zero, List.set_cons_succ, i64_w, i32_w]
                          rfl
                         refine pure_ (i := 19) (N := some 153) (v := ?_) (a' := ?_) #[true, true, true, true, true, false, true, true, true, true, true, false, false, true, true, true, true, true, false, true, false, false, false, false, false, false, false, false] rfl rfl (any_of HT_.out (by kernel_rfl)) (fun _ _ _ h => h) (Or.inl ⟨by rfl, ?_⟩) ?_ ?_
                         rotate_left
                         ·intro w'
                          go_simp
                          with_reducible rfl
                         rotate_left
                         ·simp only [Act.put, List.setIfInBounds_toArray, List.set_cons_zero, List.set_cons_succ, i64_w, i32_w]
                          rfl
                         refine pure_ (i := 20) (N := some 154) (v := ?_) (a' := ?_) #[true, true, true, true, true, false, true, true, true, true, true, false, false, true, true, true, true, true, false, true, true, false, false, false, false, false, false, false] rfl rfl (any_of HT_.out (by kernel_rfl)) (fun _ _ _ h => h) (Or.inl ⟨by rfl, ?_⟩) ?_ ?_
                         rotate_left
                         ·intro w'
                          go_simp
                          with_reducible rfl
                         rotate_left
                         ·simp only [Act.put, List.setIfInBounds_toArray, List.set_cons_zero, List.set_cons_succ, i64_w, i32_w]
                          rfl
                         refine pure_ (i := 21) (N := some 155) (v := ?_) (a' := ?_) #[true, true, true, true, true, false, true, true, true, true, true, false, false, true, true, true, true, true, false, true, true, true, false, false, false, false, false, false] rfl rfl (any_of HT_.out (by kernel_rfl)) (fun _ _ _ h => h) (Or.inl ⟨by rfl, ?_⟩) ?_ ?_
                         rotate_left
                         ·intro w'
                          go_simp
                          with_reducible rfl
                         rotate_left
                         ·simp only [Act.put, List.setIfInBounds_toArray, List.set_cons_zero, List.set_cons_succ, i64_w, i32_w]
                          rfl
                         refine pure_ (i := 22) (N := some 156) (v := ?_) (a' := ?_) #[true, true, true, true, true, false, true, true, true, true, true, false, false, true, true, true, true, true, false, true, true, true, true, false, false, false, false, false] rfl rfl (any_of HT_.out (by kernel_rfl)) (fun _ _ _ h => h) (Or.inl ⟨by rfl, ?_⟩) ?_ ?_
                         rotate_left
                         ·intro w'
                          go_simp
                          with_reducible rfl
                         rotate_left
                         ·simp only [Act.put, List.setIfInBounds_toArray, List.set_cons_zero, List.set_cons_succ, i64_w, i32_w]
                          rfl
                         refine take_ (i := 5) (N := some 139) (v := ?_) (a' := ?_) #[true, true, true, true, true, true, true, true, true, true, true, false, false, true, true, true, true, true, false, true, true, true, true, false, false, false, false, false] rfl rfl (take_ofW HT_.out HW_.out (by kernel_rfl)) (fun _ _ _ h => h) (Or.inl ⟨by rfl, ?_⟩) hHeld ?_ ?_
                         rotate_left
                         ·rintro w' ⟨s0, s1, s2, s3, s4, s5, s6, s7⟩
                          go_simp
                          with_reducible rfl
                         rotate_left
                         ·simp only [Act.put, List.setIfInBounds_toArray, List.set_cons_zero, List.set_cons_succ, i64_w, i32_w]
                          rfl
                         refine take_ (i := 11) (N := some 145) (v := ?_) (a' := ?_) #[true, true, true, true, true, true, true, true, true, true, true, true, false, true, true, true, true, true, false, true, true, true, true, false, false, false, false, false] rfl rfl (take_ofW HT_.out HW_.out (by kernel_rfl)) (fun _ _ _ h => h) (Or.inl ⟨by rfl, ?_⟩) hHeld ?_ ?_
                         rotate_left
                         ·rintro w' ⟨s0, s1, s2, s3, s4, s5, s6, s7⟩
                          go_simp
                          with_reducible rfl
                         rotate_left
                         ·simp only [Act.put, List.setIfInBounds_toArray, List.set_cons_zero, List.set_cons_succ, i64_w, i32_w]
                          rfl
                         refine pure_ (i := 12) (N := some 146) (v := ?_) (a' := ?_) #[true, true, true, true, true, true, true, true, true, true, true, true, true, true, true, true, true, true, false, true, true, true, true, false, false, false, false, false] rfl rfl (any_of HT_.out (by kernel_rfl)) (fun _ _ _ h => h) (Or.inl ⟨by rfl, ?_⟩) ?_ ?_
                         rotate_left
                         ·intro w'
                          go_simp
                          with_reducible rfl
                         rotate_left
                         ·simp only [Act.put, List.setIfInBounds_toArray, List.set_cons_zero, List.set_cons_succ, i64_w, i32_w]
                          rfl
                         refine take_ (i := 18) (N := some 152) (v := ?_) (a' := ?_) #[true, true, true, true, true, true, true, true, true, true, true, true, true, true, true, true, true, true, true, true, true, true, true, false, false, false, false, false] rfl rfl (take_ofW HT_.out HW_.out (by kernel_rfl)) (fun _ _ _ h => h) (Or.inl ⟨by rfl, ?_⟩) hHeld ?_ ?_
                         rotate_left
                         ·rintro w' ⟨s0, s1, s2, s3, s4, s5, s6, s7⟩
                          go_simp
                          with_reducible rfl
                         rotate_left
                         ·simp only [Act.put, List.setIfInBounds_toArray, List.set_cons_zero, List.set_cons_succ, i64_w, i32_w]
                          rfl
                         refine take_ (i := 23) (N := some 157) (v := ?_) (a' := ?_) #[true, true, true, true, true, true, true, true, true, true, true, true, true, true, true, true, true, true, true, true, true, true, true, true, false, false, false, false] rfl rfl (take_ofW HT_.out HW_.out (by kernel_rfl)) (fun _ _ _ h => h) (Or.inl ⟨by rfl, ?_⟩) hHeld ?_ ?_
                         rotate_left
                         ·rintro w' ⟨s0, s1, s2, s3, s4, s5, s6, s7⟩
                          go_simp
                          with_reducible rfl
                         rotate_left
                         ·simp only [Act.put, List.setIfInBounds_toArray, List.set_cons_zero, List.set_cons_succ, i64_w, i32_w]
                          rfl
                         refine pure_ (i := 24) (N := some 158) (v := ?_) (a' := ?_) #[true, true, true, true, true, true, true, true, true, true, true, true, true, true, true, true, true, true, true, true, true, true, true, true, true, false, false, false] rfl rfl (any_of HT_.out (by kernel_rfl)) (fun _ _ _ h => h) (Or.inl ⟨by rfl, ?_⟩) ?_ ?_
                         rotate_left
                         ·intro w'
                          go_simp
                          with_reducible rfl
                         rotate_left
                         ·simp only [Act.put, List.setIfInBounds_toArray, List.set_cons_zero, List.set_cons_succ, i64_w, i32_w]
                          rfl
                         refine one_ (i := 25) (N := some 159) #[true, true, true, true, true, true, true, true, true, true, true, true, true, true, true, true, true, true, true, true, true, true, true, true, true, true, false, false] rfl rfl (one_of HT_.out (by kernel_rfl)) (by decide) (fun K hK => ?_)
                         refine goes_ Try.func14 (by kernel_rfl) rfl #[.int .i64 (wrap64 (a2 - ((rd_T45 l1 x16_70).f0))), .int .i64 65536, .int .i64 (wrap64 (((rd_T45 l1 (ji84)).f0) - ((rd_T45 l1 x16_70).f0)))] (by rfl) rfl rfl (by (try simp only [List.map_toArray, List.map_cons, List.map_nil]); first | done | (simp only [hji84]; rfl) | rfl | (simp only [List.length_drop, List.length_take]; rfl) | (rw [show wrap64 (a2 - ((rd_T45 l1 x16_70).f0)) = a2 - ((rd_T45 l1 x16_70).f0) from by unfold wrap64; omega]; rw [show wrap64 (((rd_T45 l1 (ji84)).f0) - ((rd_T45 l1 x16_70).f0)) = ((rd_T45 l1 (ji84)).f0) - ((rd_T45 l1 x16_70).f0) from by unfold wrap64; omega]; rfl)) ?_
                         with_reducible refine (fix_MulDiv.calls kj79 (wrap64 (a2 - ((rd_T45 l1 x16_70).f0))) 65536 (wrap64 (((rd_T45 l1 (ji84)).f0) - ((rd_T45 l1 x16_70).f0))) t271 _ A89.out).mono ?_
                         rintro e w93 ⟨rfl, hb⟩
                         have HS0_ := (hb.cell (World.block_lt_of_cell? _ _ (hHeld.1))).trans (hHeld.1)
                         have HS1_ := (hb.cell (World.block_lt_of_cell? _ _ (hHeld.2.1))).trans (hHeld.2.1)
                         have HS2_ := (hb.cell (World.block_lt_of_cell? _ _ (hHeld.2.2.1))).trans (hHeld.2.2.1)
                         have HS3_ := (hb.cell (World.block_lt_of_cell? _ _ (hHeld.2.2.2.1))).trans (hHeld.2.2.2.1)
                         have HS4_ := (hb.cell (World.block_lt_of_cell? _ _ (hHeld.2.2.2.2.1))).trans (hHeld.2.2.2.2.1)
                         have HS5_ := (hb.cell (World.block_lt_of_cell? _ _ (hHeld.2.2.2.2.2.1))).trans (hHeld.2.2.2.2.2.1)
                         have HS6_ := (hb.cell (World.block_lt_of_cell? _ _ (hHeld.2.2.2.2.2.2.1))).trans (hHeld.2.2.2.2.2.2.1)
                         have HS7_ := (hb.cell (World.block_lt_of_cell? _ _ (hHeld.2.2.2.2.2.2.2))).trans (hHeld.2.2.2.2.2.2.2)
                         refine ⟨_, rfl, ?_⟩
                         have n0_ := Aside0.mk (Kd.V_below (by (with_reducible repeat (first | apply Kd.V_alloc | apply Kd.V_drewN | apply Kd.V_drew)); exact HO_1.out) hb)
                         have n1_ := Aside0.mk (Kd.R_below (by (with_reducible repeat (first | apply Kd.R_alloc | apply Kd.R_drewN | apply Kd.R_drew)); exact HO_14.out) hb)
                         have n2_ := Aside0.mk (Kd.V_below (by (with_reducible repeat (first | apply Kd.V_alloc | apply Kd.V_drewN | apply Kd.V_drew)); exact HL267_1.out) hb)
                         have n3_ := Aside0.mk (Kd.V_below (by (with_reducible repeat (first | apply Kd.V_alloc | apply Kd.V_drewN | apply Kd.V_drew)); exact HL268_1.out) hb)
                         have n4_ := Aside0.mk (Kd.V_below (by (with_reducible repeat (first | apply Kd.V_alloc | apply Kd.V_drewN | apply Kd.V_drew)); exact HL269_1.out) hb)
                         have n5_ := Aside0.mk (Kd.V_below (by (with_reducible repeat (first | apply Kd.V_alloc | apply Kd.V_drewN | apply Kd.V_drew)); exact HL270_1.out) hb)
                         have n6_ := Aside0.mk (Kd.C_below (by repeat (first | (with_reducible exact HR264_1.out) | (with_reducible refine Kd.C_alloc ?_ _) | (with_reducible refine Kd.C_drewN ?_ _) | (with_reducible refine Kd.C_drew ?_) | exact HR264_1.out)) hb)
                         have n7_ := Aside0.mk (Kd.C_below (by repeat (first | (with_reducible exact HR265_1.out) | (with_reducible refine Kd.C_alloc ?_ _) | (with_reducible refine Kd.C_drewN ?_ _) | (with_reducible refine Kd.C_drew ?_) | exact HR265_1.out)) hb)
                         have n8_ := Aside0.mk (Kd.C_below (by repeat (first | (with_reducible exact HR267_1.out) | (with_reducible refine Kd.C_alloc ?_ _) | (with_reducible refine Kd.C_drewN ?_ _) | (with_reducible refine Kd.C_drew ?_) | exact HR267_1.out)) hb)
                         have n9_ := Aside0.mk (Kd.C_below (by repeat (first | (with_reducible exact HR268_1.out) | (with_reducible refine Kd.C_alloc ?_ _) | (with_reducible refine Kd.C_drewN ?_ _) | (with_reducible refine Kd.C_drew ?_) | exact HR268_1.out)) hb)
                         have n10_ := Aside0.mk (Kd.C_below (by repeat (first | (with_reducible exact HR269_1.out) | (with_reducible refine Kd.C_alloc ?_ _) | (with_reducible refine Kd.C_drewN ?_ _) | (with_reducible refine Kd.C_drew ?_) | exact HR269_1.out)) hb)
                         have n11_ := Aside0.mk (Kd.C_below (by repeat (first | (with_reducible exact HR270_1.out) | (with_reducible refine Kd.C_alloc ?_ _) | (with_reducible refine Kd.C_drewN ?_ _) | (with_reducible refine Kd.C_drew ?_) | exact HR270_1.out)) hb)
                         have n12_ := Aside0.mk (below_step (by repeat (first | (with_reducible first | exact HB.out | apply below_alloc | apply pw_below_drewN | apply below_drew1) | exact HB.out)) hb)
                         clear HO_1
                         clear HO_14
                         clear HL267_1
                         clear HL268_1
                         clear HL269_1
                         clear HL270_1
                         clear HR264_1
                         clear HR265_1
                         clear HR267_1
                         clear HR268_1
                         clear HR269_1
                         clear HR270_1
                         clear HB
                         have HO_1 := n0_
                         have HO_14 := n1_
                         have HL267_1 := n2_
                         have HL268_1 := n3_
                         have HL269_1 := n4_
                         have HL270_1 := n5_
                         have HR264_1 := n6_
                         have HR265_1 := n7_
                         have HR267_1 := n8_
                         have HR268_1 := n9_
                         have HR269_1 := n10_
                         have HR270_1 := n11_
                         have HB := n12_
                         clear n0_ n1_ n2_ n3_ n4_ n5_ n6_ n7_ n8_ n9_ n10_ n11_ n12_
                         (try clear hb)
                         (try clear hb2)
                         (try clear hk)
                         (try clear hi)
                         refine hK.out _ _ ⟨HS0_, HS1_, HS2_, HS3_, HS4_, HS5_, HS6_, HS7_⟩ (fun hHeld => ?_)
                         clear hK K
                         refine norm_ (a' := ?_) ?_ ?_
                         rotate_left
                         ·show Act.put _ (some 159) _ = _
                          simp only [Act.put, List.setIfInBounds_toArray, List.set_cons_zero, List.set_cons_succ, i64_w, i32_w]
                          rfl
                         refine pure_ (i := 26) (N := some 18) (v := ?_) (a' := ?_) #[true, true, true, true, true, true, true, true, true, true, true, true, true, true, true, true, true, true, true, true, true, true, true, true, true, true, true, false] rfl rfl (any_of HT_.out (by kernel_rfl)) (fun _ _ _ h => h) (Or.inl ⟨by rfl, ?_⟩) ?_ ?_
                         rotate_left
                         ·intro w'
                          go_simp
                          with_reducible rfl
                         rotate_left
                         ·simp only [Act.put, List.setIfInBounds_toArray, List.set_cons_zero, List.set_cons_succ, i64_w, i32_w]
                          rfl
                         refine pure_ (i := 27) (N := some 19) (v := ?_) (a' := ?_) #[true, true, true, true, true, true, true, true, true, true, true, true, true, true, true, true, true, true, true, true, true, true, true, true, true, true, true, true] rfl rfl (any_of HT_.out (by kernel_rfl)) (fun _ _ _ h => h) (Or.inl ⟨by rfl, ?_⟩) ?_ ?_
                         rotate_left
                         ·intro w'
                          go_simp
                          with_reducible rfl
                         rotate_left
                         ·simp only [Act.put, List.setIfInBounds_toArray, List.set_cons_zero, List.set_cons_succ, i64_w, i32_w]
                          rfl
                         refine done_ (done_of HT_.out (by kernel_rfl)) ?_
                         obtain ⟨Ao94, co94, eo94⟩ := Kd.R_slice HO_14.out
                         subst eo94
                         try go_wp2
                         go_loopg [171] kj79 (fun kq v171 w' => ∃ (x171_7 : Int), v171 = .int .i64 x171_7 ∧ Aside0 (tourlaw5_BonesPlay.l2 kq t259 ((rd_T45 l1 x16_70).f1) ((rd_T45 l1 (ji84)).f1) t271 (t259.length : Int) x171_7 = some r) ∧ Aside0 (kq ≤ kj79) ∧ Aside0 (Kd.R k37 37 w' w.heap.size (fun k_ => (w.heap.size ≤ k_)) (.slice Ao94 t259.length co94) t259) ∧ Aside0 (Kd.C k37 w' A264_1 ((rd_T45 l1 x16_70).f1).length ((rd_T45 l1 x16_70).f1)) ∧ Aside0 (Kd.C k37 w' A264_1 ((rd_T45 l1 x16_70).f1).length ((rd_T45 l1 x16_70).f1)) ∧ Aside0 (Kd.C k37 w' A267_1 ((rd_T45 l1 (ji84)).f1).length ((rd_T45 l1 (ji84)).f1)) ∧ Aside0 (Kd.C k37 w' A268_1 ((rd_T45 l1 x16_70).f1).length ((rd_T45 l1 x16_70).f1)) ∧ Aside0 (Kd.C k37 w' A267_1 ((rd_T45 l1 (ji84)).f1).length ((rd_T45 l1 (ji84)).f1)) ∧ Aside0 (Kd.C k37 w' A268_1 ((rd_T45 l1 x16_70).f1).length ((rd_T45 l1 x16_70).f1)) ∧ Aside0 (Below w.heap.size w w'))
                         case atStart => exact ⟨(0), (by first | rfl | (simp; done) | (simp [*]; done)), H', ⟨Nat.le_refl _⟩, ⟨by (with_reducible repeat (first | apply Kd.R_alloc | apply Kd.R_drewN | apply Kd.R_drew)); exact HO_14.out⟩, ⟨by repeat (first | (with_reducible exact HR264_1.out) | (with_reducible refine Kd.C_alloc ?_ _) | (with_reducible refine Kd.C_drewN ?_ _) | (with_reducible refine Kd.C_drew ?_) | exact HR264_1.out)⟩, ⟨by repeat (first | (with_reducible exact HR265_1.out) | (with_reducible refine Kd.C_alloc ?_ _) | (with_reducible refine Kd.C_drewN ?_ _) | (with_reducible refine Kd.C_drew ?_) | exact HR265_1.out)⟩, ⟨by repeat (first | (with_reducible exact HR267_1.out) | (with_reducible refine Kd.C_alloc ?_ _) | (with_reducible refine Kd.C_drewN ?_ _) | (with_reducible refine Kd.C_drew ?_) | exact HR267_1.out)⟩, ⟨by repeat (first | (with_reducible exact HR268_1.out) | (with_reducible refine Kd.C_alloc ?_ _) | (with_reducible refine Kd.C_drewN ?_ _) | (with_reducible refine Kd.C_drew ?_) | exact HR268_1.out)⟩, ⟨by repeat (first | (with_reducible exact HR269_1.out) | (with_reducible refine Kd.C_alloc ?_ _) | (with_reducible refine Kd.C_drewN ?_ _) | (with_reducible refine Kd.C_drew ?_) | exact HR269_1.out)⟩, ⟨by repeat (first | (with_reducible exact HR270_1.out) | (with_reducible refine Kd.C_alloc ?_ _) | (with_reducible refine Kd.C_drewN ?_ _) | (with_reducible refine Kd.C_drew ?_) | exact HR270_1.out)⟩, ⟨by repeat (first | (with_reducible first | exact HB.out | apply below_alloc | apply pw_below_drewN | apply below_drew1) | exact HB.out)⟩⟩
                         case round =>
                          clear H'
                          try clear c1
                          try clear c2
                          try clear p2
                          try clear q2
                          try clear hx2
                          try clear c3
                          try clear c4
                          try clear p6
                          try clear c7
                          try clear c8
                          try clear c9
                          try clear c11
                          try clear c12
                          try clear c13
                          try clear c14
                          try clear c16
                          try clear c16b0
                          try clear c16b1
                          try clear c18
                          try clear c20
                          try clear c20b0
                          try clear c20b1
                          try clear c22
                          try clear c23
                          try clear c23b0
                          try clear c24
                          try clear c24b0
                          try clear c25
                          try clear c25b0
                          try clear p25
                          try clear q25
                          try clear hx25
                          try clear c26
                          try clear c26b0
                          try clear c26b1
                          try clear p26
                          try clear q26
                          try clear hx26
                          try clear c27
                          try clear p27
                          try clear q27
                          try clear hx27
                          try clear c28
                          try clear c28b0
                          try clear c28b1
                          try clear c29
                          try clear c29b0
                          try clear c39
                          try clear c39b0
                          try clear p64
                          try clear c70
                          try clear c70b0
                          try clear c70b1
                          try clear c73
                          try clear c73b0
                          try clear c75
                          try clear c75b0
                          try clear c76
                          try clear c76b0
                          try clear c77
                          try clear c77b0
                          try clear c78
                          try clear c78b0
                          try clear c79
                          try clear c79b0
                          try clear c82
                          try clear c82b0
                          try clear c83
                          try clear c85
                          try clear c85b0
                          try clear c86
                          try clear c86b0
                          try clear c87
                          try clear c87b0
                          try clear c88
                          try clear c88b0
                          try clear c90
                          try clear c90b0
                          try clear c90b1
                          try clear c91
                          try clear c91b0
                          try clear c91b1
                          try clear c91b2
                          try clear hcz31_0
                          try clear hcz31_1
                          try clear hcz33_0
                          try clear hcz33_1
                          try clear hcz38_0
                          try clear hcz38_1
                          try clear hcz41_0
                          try clear hcz41_1
                          try clear hcz43_0
                          try clear hcz43_1
                          try clear hcz48_0
                          try clear hcz48_1
                          try clear hcz50_0
                          try clear hcz50_1
                          try clear hcz52_0
                          try clear hcz52_1
                          try clear hcz57_0
                          try clear hcz57_1
                          try clear hcz59_0
                          try clear hcz59_1
                          try clear hcz61_0
                          try clear hcz61_1
                          try clear hcz66_0
                          try clear hcz66_1
                          try clear hcz68_0
                          try clear hcz68_1
                          try clear hfz31_0
                          try clear hfz31_1
                          try clear hfz33_0
                          try clear hfz33_1
                          try clear hfz38_0
                          try clear hfz38_1
                          try clear hfz41_0
                          try clear hfz41_1
                          try clear hfz43_0
                          try clear hfz43_1
                          try clear hfz48_0
                          try clear hfz48_1
                          try clear hfz50_0
                          try clear hfz50_1
                          try clear hfz52_0
                          try clear hfz52_1
                          try clear hfz57_0
                          try clear hfz57_1
                          try clear hfz59_0
                          try clear hfz59_1
                          try clear hfz61_0
                          try clear hfz61_1
                          try clear hfz66_0
                          try clear hfz66_1
                          try clear hfz68_0
                          try clear hfz68_1
                          try clear hx253_0
                          try clear hx253_1
                          try clear hx263_0
                          try clear hx263_1
                          try clear hx264_0
                          try clear hx264_1
                          try clear hx265_0
                          try clear hx265_1
                          try clear hx266_0
                          try clear hx266_1
                          try clear hx267_0
                          try clear hx267_1
                          try clear hx268_0
                          try clear hx268_1
                          try clear hx269_0
                          try clear hx269_1
                          try clear hx270_0
                          try clear hx270_1
                          try clear p2
                          try clear p25
                          try clear p253
                          try clear p26
                          try clear p263
                          try clear p264
                          try clear p265
                          try clear p266
                          try clear p267
                          try clear p268
                          try clear p269
                          try clear p270
                          try clear p6
                          try clear p64
                          try clear q2
                          try clear q25
                          try clear q253
                          try clear q26
                          try clear q263
                          try clear q264
                          try clear q265
                          try clear q266
                          try clear q267
                          try clear q268
                          try clear q269
                          try clear q270
                          obtain ⟨x171_7, rfl, HA, HK7, HO_14, HR264_1, HR265_1, HR267_1, HR268_1, HR269_1, HR270_1, HB⟩ := hrel
                          cases gk with
                          | zero => exact absurd HA.out (by simp [tourlaw5_BonesPlay.l2])
                          | succ k7 =>
                           have H := HA.out
                           clear HA
                           simp only [tourlaw5_BonesPlay.l2] at H
                           by_cases c95 : x171_7 < (t259.length : Int)
                           ·rw [if_pos c95] at H
                            have c95b0 : decide (x171_7 < (t259.length : Int)) = true := decide_eq_true c95
                            clear c95
                            by_cases c96 : 0 ≤ x171_7
                            ·rw [if_pos c96] at H
                             have c96b0 : decide (0 ≤ x171_7) = true := decide_eq_true c96
                             clear c96
                             by_cases c97 : x171_7 < (t259.length : Int)
                             ·rw [if_pos c97] at H
                              have c97b0 : decide (x171_7 < (t259.length : Int)) = true := decide_eq_true c97
                              clear c97
                              by_cases c98 : x171_7 < (((rd_T45 l1 x16_70).f1).length : Int)
                              ·rw [if_pos c98] at H
                               have c98b0 : decide (x171_7 < (((rd_T45 l1 x16_70).f1).length : Int)) = true := decide_eq_true c98
                               clear c98
                               by_cases c99 : x171_7 < (((rd_T45 l1 (ji84)).f1).length : Int)
                               ·rw [if_pos c99] at H
                                have c99b0 : decide (x171_7 < (((rd_T45 l1 (ji84)).f1).length : Int)) = true := decide_eq_true c99
                                clear c99
                                replace H := Option.bind_eq_some_iff.mp H
                                obtain ⟨⟨t275, t276, t277, t278⟩, A1000, H⟩ := H
                                replace H : (if (!(((rd_T37 t259 x171_7).f0) == t275) || (!(((rd_T37 t259 x171_7).f1) == t276) || (!(((rd_T37 t259 x171_7).f2) == t277) || (!(((rd_T37 t259 x171_7).f3) == t278))))) = true then (none) else (tourlaw5_BonesPlay.l2 k7 t259 ((rd_T45 l1 x16_70).f1) ((rd_T45 l1 (ji84)).f1) t271 (t259.length : Int) (wrap64 (x171_7 + 1)))) = some r := H
                                have A100 := Aside0.mk A1000
                                clear A1000
                                by_cases c101 : (!(((rd_T37 t259 x171_7).f0) == t275) || (!(((rd_T37 t259 x171_7).f1) == t276) || (!(((rd_T37 t259 x171_7).f2) == t277) || (!(((rd_T37 t259 x171_7).f3) == t278))))) = true
                                ·rw [if_pos c101] at H
                                 exact absurd H (by simp)
                                ·rw [if_neg c101] at H
                                 have c101b0 : (!(((rd_T37 t259 x171_7).f0) == t275) || (!(((rd_T37 t259 x171_7).f1) == t276) || (!(((rd_T37 t259 x171_7).f2) == t277) || (!(((rd_T37 t259 x171_7).f3) == t278))))) = false := by simpa using c101
                                 clear c101
                                 have H' := Aside0.mk H
                                 clear H
                                 try go_wp2
                                 have n0_ := Aside0.mk (Kd.R_drew HO_14.out)
                                 have n1_ := Aside0.mk (Kd.C_drew HR264_1.out)
                                 have n2_ := Aside0.mk (Kd.C_drew HR265_1.out)
                                 have n3_ := Aside0.mk (Kd.C_drew HR267_1.out)
                                 have n4_ := Aside0.mk (Kd.C_drew HR268_1.out)
                                 have n5_ := Aside0.mk (Kd.C_drew HR269_1.out)
                                 have n6_ := Aside0.mk (Kd.C_drew HR270_1.out)
                                 have n7_ := Aside0.mk (below_drew1 HB.out)
                                 clear HO_14
                                 clear HR264_1
                                 clear HR265_1
                                 clear HR267_1
                                 clear HR268_1
                                 clear HR269_1
                                 clear HR270_1
                                 clear HB
                                 have HO_14 := n0_
                                 have HR264_1 := n1_
                                 have HR265_1 := n2_
                                 have HR267_1 := n3_
                                 have HR268_1 := n4_
                                 have HR269_1 := n5_
                                 have HR270_1 := n6_
                                 have HB := n7_
                                 clear n0_ n1_ n2_ n3_ n4_ n5_ n6_ n7_
                                 have p272 : 0 ≤ (x171_7 : Int) := of_decide_eq_true (by first | (with_reducible assumption) | assumption)
                                 have q272 : x171_7 < (t259.length : Int) := of_decide_eq_true (by first | (with_reducible assumption) | assumption)
                                 obtain ⟨ad272, e272, hx272_0, hx272_1, hx272_2, hx272_3⟩ := at_T37 (Kd.R_reads' HO_14.out).2.2 x171_7 p272 q272
                                 cases e272
                                 replace p272 := eq_true p272
                                 replace q272 := eq_true q272
                                 have p273 : 0 ≤ (x171_7 : Int) := of_decide_eq_true (by first | (with_reducible assumption) | assumption)
                                 have q273 : x171_7 < (((rd_T45 l1 x16_70).f1).length : Int) := of_decide_eq_true (by first | (with_reducible assumption) | assumption)
                                 obtain ⟨ad273, e273, hx273_0, hx273_1, hx273_2, hx273_3⟩ := at_T37 HR264_1.out x171_7 p273 q273
                                 cases e273
                                 replace p273 := eq_true p273
                                 replace q273 := eq_true q273
                                 have p274 : 0 ≤ (x171_7 : Int) := of_decide_eq_true (by first | (with_reducible assumption) | assumption)
                                 have q274 : x171_7 < (((rd_T45 l1 (ji84)).f1).length : Int) := of_decide_eq_true (by first | (with_reducible assumption) | assumption)
                                 obtain ⟨ad274, e274, hx274_0, hx274_1, hx274_2, hx274_3⟩ := at_T37 HR267_1.out x171_7 p274 q274
                                 cases e274
                                 replace p274 := eq_true p274
                                 replace q274 := eq_true q274
                                 refine start_ (n := 15) (S := fun w' => w'.cell? (ad272.add ((x171_7).toNat * 4)) = some (.int .i64 ((rd_T37 t259 x171_7).f0)) ∧ w'.cell? ⟨(ad272.add ((x171_7).toNat * 4)).block, (ad272.add ((x171_7).toNat * 4)).off + 1, none⟩ = some (.int .i64 ((rd_T37 t259 x171_7).f1)) ∧ w'.cell? ⟨(ad272.add ((x171_7).toNat * 4)).block, (ad272.add ((x171_7).toNat * 4)).off + 2, none⟩ = some (.int .i64 ((rd_T37 t259 x171_7).f2)) ∧ w'.cell? ⟨(ad272.add ((x171_7).toNat * 4)).block, (ad272.add ((x171_7).toNat * 4)).off + 3, none⟩ = some (.int .i64 ((rd_T37 t259 x171_7).f3)) ∧ w'.cell? (ad273.add ((x171_7).toNat * 4)) = some (.int .i64 ((rd_T37 ((rd_T45 l1 x16_70).f1) x171_7).f0)) ∧ w'.cell? ⟨(ad273.add ((x171_7).toNat * 4)).block, (ad273.add ((x171_7).toNat * 4)).off + 1, none⟩ = some (.int .i64 ((rd_T37 ((rd_T45 l1 x16_70).f1) x171_7).f1)) ∧ w'.cell? ⟨(ad273.add ((x171_7).toNat * 4)).block, (ad273.add ((x171_7).toNat * 4)).off + 2, none⟩ = some (.int .i64 ((rd_T37 ((rd_T45 l1 x16_70).f1) x171_7).f2)) ∧ w'.cell? ⟨(ad273.add ((x171_7).toNat * 4)).block, (ad273.add ((x171_7).toNat * 4)).off + 3, none⟩ = some (.int .i64 ((rd_T37 ((rd_T45 l1 x16_70).f1) x171_7).f3)) ∧ w'.cell? (ad274.add ((x171_7).toNat * 4)) = some (.int .i64 ((rd_T37 ((rd_T45 l1 (ji84)).f1) x171_7).f0)) ∧ w'.cell? ⟨(ad274.add ((x171_7).toNat * 4)).block, (ad274.add ((x171_7).toNat * 4)).off + 1, none⟩ = some (.int .i64 ((rd_T37 ((rd_T45 l1 (ji84)).f1) x171_7).f1)) ∧ w'.cell? ⟨(ad274.add ((x171_7).toNat * 4)).block, (ad274.add ((x171_7).toNat * 4)).off + 2, none⟩ = some (.int .i64 ((rd_T37 ((rd_T45 l1 (ji84)).f1) x171_7).f2)) ∧ w'.cell? ⟨(ad274.add ((x171_7).toNat * 4)).block, (ad274.add ((x171_7).toNat * 4)).off + 3, none⟩ = some (.int .i64 ((rd_T37 ((rd_T45 l1 (ji84)).f1) x171_7).f3))) (ds := []) #[false, false, false, false, false, false, false, false, false, false, false, false, false, false, false] (by kernel_rfl) rfl rfl ⟨hx272_0, hx272_1, hx272_2, hx272_3, hx273_0, hx273_1, hx273_2, hx273_3, hx274_0, hx274_1, hx274_2, hx274_3⟩ (fun hHeld => ?_); refine with_tabW tourlaw5_BonesPlay.tab32 tourlaw5_BonesPlay.bits32 (fun HT_ HW_ => ?_)
                                 generalize wr.drew = w102 at HO_14 HR264_1 HR265_1 HR267_1 HR268_1 HR269_1 HR270_1 HB hx272_0 hx272_1 hx272_2 hx272_3 hx273_0 hx273_1 hx273_2 hx273_3 hx274_0 hx274_1 hx274_2 hx274_3 hHeld ⊢
                                 refine pure_ (i := 0) (N := some 174) (v := ?_) (a' := ?_) #[true, false, false, false, false, false, false, false, false, false, false, false, false, false, false] rfl rfl (any_of HT_.out (by kernel_rfl)) (fun _ _ _ h => h) (Or.inl ⟨by rfl, ?_⟩) ?_ ?_
                                 rotate_left
                                 ·intro w'
                                  go_simp
                                  with_reducible rfl
                                 rotate_left
                                 ·simp only [Act.put, List.setIfInBounds_toArray, List.set_cons_zero, List.set_cons_succ, i64_w, i32_w]
                                  rfl
                                 refine pure_ (i := 1) (N := some 175) (v := ?_) (a' := ?_) #[true, true, false, false, false, false, false, false, false, false, false, false, false, false, false] rfl rfl (any_of HT_.out (by kernel_rfl)) (fun _ _ _ h => h) (Or.inl ⟨by rfl, ?_⟩) ?_ ?_
                                 rotate_left
                                 ·intro w'
                                  go_simp
                                  with_reducible rfl
                                 rotate_left
                                 ·simp only [Act.put, List.setIfInBounds_toArray, List.set_cons_zero, List.set_cons_succ, i64_w, i32_w]
                                  rfl
                                 refine pure_ (i := 2) (N := some 176) (v := ?_) (a' := ?_) #[true, true, true, false, false, false, false, false, false, false, false, false, false, false, false] rfl rfl (any_of HT_.out (by kernel_rfl)) (fun _ _ _ h => h) (Or.inl ⟨by rfl, ?_⟩) ?_ ?_
                                 rotate_left
                                 ·intro w'
                                  go_simp
                                  with_reducible rfl
                                 rotate_left
                                 ·simp only [Act.put, List.setIfInBounds_toArray, List.set_cons_zero, List.set_cons_succ, i64_w, i32_w]
                                  rfl
                                 refine pure_ (i := 4) (N := some 178) (v := ?_) (a' := ?_) #[true, true, true, false, true, false, false, false, false, false, false, false, false, false, false] rfl rfl (any_of HT_.out (by kernel_rfl)) (fun _ _ _ h => h) (Or.inl ⟨by rfl, ?_⟩) ?_ ?_
                                 rotate_left
                                 ·intro w'
                                  go_simp
                                  with_reducible rfl
                                 rotate_left
                                 ·simp only [Act.put, List.setIfInBounds_toArray, List.set_cons_zero, List.set_cons_succ, i64_w, i32_w]
                                  rfl
                                 refine pure_ (i := 5) (N := some 179) (v := ?_) (a' := ?_) #[true, true, true, false, true, true, false, false, false, false, false, false, false, false, false] rfl rfl (any_of HT_.out (by kernel_rfl)) (fun _ _ _ h => h) (Or.inl ⟨by rfl, ?_⟩) ?_ ?_
                                 rotate_left
                                 ·intro w'
                                  go_simp
                                  with_reducible rfl
                                 rotate_left
                                 ·simp only [Act.put, List.setIfInBounds_toArray, List.set_cons_zero, List.set_cons_succ, i64_w, i32_w]
                                  rfl
                                 refine pure_ (i := 6) (N := some 180) (v := ?_) (a' := ?_) #[true, true, true, false, true, true, true, false, false, false, false, false, false, false, false] rfl rfl (any_of HT_.out (by kernel_rfl)) (fun _ _ _ h => h) (Or.inl ⟨by rfl, ?_⟩) ?_ ?_
                                 rotate_left
                                 ·intro w'
                                  go_simp
                                  with_reducible rfl
                                 rotate_left
                                 ·simp only [Act.put, List.setIfInBounds_toArray, List.set_cons_zero, List.set_cons_succ, i64_w, i32_w]
                                  rfl
                                 refine pure_ (i := 8) (N := some 182) (v := ?_) (a' := ?_) #[true, true, true, false, true, true, true, false, true, false, false, false, false, false, false] rfl rfl (any_of HT_.out (by kernel_rfl)) (fun _ _ _ h => h) (Or.inl ⟨by rfl, ?_⟩) ?_ ?_
                                 rotate_left
                                 ·intro w'
                                  go_simp
                                  with_reducible rfl
                                 rotate_left
                                 ·simp only [Act.put, List.setIfInBounds_toArray, List.set_cons_zero, List.set_cons_succ, i64_w, i32_w]
                                  rfl
                                 refine pure_ (i := 9) (N := some 183) (v := ?_) (a' := ?_) #[true, true, true, false, true, true, true, false, true, true, false, false, false, false, false] rfl rfl (any_of HT_.out (by kernel_rfl)) (fun _ _ _ h => h) (Or.inl ⟨by rfl, ?_⟩) ?_ ?_
                                 rotate_left
                                 ·intro w'
                                  go_simp
                                  with_reducible rfl
                                 rotate_left
                                 ·simp only [Act.put, List.setIfInBounds_toArray, List.set_cons_zero, List.set_cons_succ, i64_w, i32_w]
                                  rfl
                                 refine pure_ (i := 10) (N := some 184) (v := ?_) (a' := ?_) #[true, true, true, false, true, true, true, false, true, true, true, false, false, false, false] rfl rfl (any_of HT_.out (by kernel_rfl)) (fun _ _ _ h => h) (Or.inl ⟨by rfl, ?_⟩) ?_ ?_
                                 rotate_left
                                 ·intro w'
                                  go_simp
                                  with_reducible rfl
                                 rotate_left
                                 ·simp only [Act.put, List.setIfInBounds_toArray, List.set_cons_zero, List.set_cons_succ, i64_w, i32_w]
                                  rfl
                                 refine pure_ (i := 12) (N := some 186) (v := ?_) (a' := ?_) #[true, true, true, false, true, true, true, false, true, true, true, false, true, false, false] rfl rfl (any_of HT_.out (by kernel_rfl)) (fun _ _ _ h => h) (Or.inl ⟨by rfl, ?_⟩) ?_ ?_
                                 rotate_left
                                 ·intro w'
                                  go_simp
                                  with_reducible rfl
                                 rotate_left
                                 ·simp only [Act.put, List.setIfInBounds_toArray, List.set_cons_zero, List.set_cons_succ, i64_w, i32_w]
                                  rfl
                                 refine take_ (i := 3) (N := some 177) (v := ?_) (a' := ?_) #[true, true, true, true, true, true, true, false, true, true, true, false, true, false, false] rfl rfl (take_ofW HT_.out HW_.out (by kernel_rfl)) (fun _ _ _ h => h) (Or.inl ⟨by rfl, ?_⟩) hHeld ?_ ?_
                                 rotate_left
                                 ·rintro w' ⟨s0, s1, s2, s3, s4, s5, s6, s7, s8, s9, s10, s11⟩
                                  go_simp
                                  with_reducible rfl
                                 rotate_left
                                 ·simp only [Act.put, List.setIfInBounds_toArray, List.set_cons_zero, List.set_cons_succ, i64_w, i32_w]
                                  rfl
                                 refine take_ (i := 7) (N := some 181) (v := ?_) (a' := ?_) #[true, true, true, true, true, true, true, true, true, true, true, false, true, false, false] rfl rfl (take_ofW HT_.out HW_.out (by kernel_rfl)) (fun _ _ _ h => h) (Or.inl ⟨by rfl, ?_⟩) hHeld ?_ ?_
                                 rotate_left
                                 ·rintro w' ⟨s0, s1, s2, s3, s4, s5, s6, s7, s8, s9, s10, s11⟩
                                  go_simp
                                  with_reducible rfl
                                 rotate_left
                                 ·simp only [Act.put, List.setIfInBounds_toArray, List.set_cons_zero, List.set_cons_succ, i64_w, i32_w]
                                  rfl
                                 refine take_ (i := 11) (N := some 185) (v := ?_) (a' := ?_) #[true, true, true, true, true, true, true, true, true, true, true, true, true, false, false] rfl rfl (take_ofW HT_.out HW_.out (by kernel_rfl)) (fun _ _ _ h => h) (Or.inl ⟨by rfl, ?_⟩) hHeld ?_ ?_
                                 rotate_left
                                 ·rintro w' ⟨s0, s1, s2, s3, s4, s5, s6, s7, s8, s9, s10, s11⟩
                                  go_simp
                                  with_reducible rfl
                                 rotate_left
                                 ·simp only [Act.put, List.setIfInBounds_toArray, List.set_cons_zero, List.set_cons_succ, i64_w, i32_w]
                                  rfl
                                 refine one_ (i := 13) (N := some 187) #[true, true, true, true, true, true, true, true, true, true, true, true, true, true, false] rfl rfl (one_of HT_.out (by kernel_rfl)) (by decide) (fun K hK => ?_)
                                 refine goes_ Try.func15 (by kernel_rfl) rfl #[.agg #[.int .i64 ((rd_T37 ((rd_T45 l1 x16_70).f1) x171_7).f0), .int .i64 ((rd_T37 ((rd_T45 l1 x16_70).f1) x171_7).f1), .int .i64 ((rd_T37 ((rd_T45 l1 x16_70).f1) x171_7).f2), .int .i64 ((rd_T37 ((rd_T45 l1 x16_70).f1) x171_7).f3)], .agg #[.int .i64 ((rd_T37 ((rd_T45 l1 (ji84)).f1) x171_7).f0), .int .i64 ((rd_T37 ((rd_T45 l1 (ji84)).f1) x171_7).f1), .int .i64 ((rd_T37 ((rd_T45 l1 (ji84)).f1) x171_7).f2), .int .i64 ((rd_T37 ((rd_T45 l1 (ji84)).f1) x171_7).f3)], .int .i64 t271] (by rfl) rfl rfl (by (try simp only [List.map_toArray, List.map_cons, List.map_nil]); first | done | (simp only [hji84]; rfl) | rfl | (simp only [List.length_drop, List.length_take]; rfl)) ?_
                                 with_reducible refine (quat_Blend.calls k7 ((rd_T37 ((rd_T45 l1 x16_70).f1) x171_7).f0) ((rd_T37 ((rd_T45 l1 x16_70).f1) x171_7).f1) ((rd_T37 ((rd_T45 l1 x16_70).f1) x171_7).f2) ((rd_T37 ((rd_T45 l1 x16_70).f1) x171_7).f3) ((rd_T37 ((rd_T45 l1 (ji84)).f1) x171_7).f0) ((rd_T37 ((rd_T45 l1 (ji84)).f1) x171_7).f1) ((rd_T37 ((rd_T45 l1 (ji84)).f1) x171_7).f2) ((rd_T37 ((rd_T45 l1 (ji84)).f1) x171_7).f3) t271 t275 t276 t277 t278 _ A100.out).mono ?_
                                 rintro e w103 ⟨rfl, hb⟩
                                 have HS0_ := (hb.cell (World.block_lt_of_cell? _ _ (hHeld.1))).trans (hHeld.1)
                                 have HS1_ := (hb.cell (World.block_lt_of_cell? _ _ (hHeld.2.1))).trans (hHeld.2.1)
                                 have HS2_ := (hb.cell (World.block_lt_of_cell? _ _ (hHeld.2.2.1))).trans (hHeld.2.2.1)
                                 have HS3_ := (hb.cell (World.block_lt_of_cell? _ _ (hHeld.2.2.2.1))).trans (hHeld.2.2.2.1)
                                 have HS4_ := (hb.cell (World.block_lt_of_cell? _ _ (hHeld.2.2.2.2.1))).trans (hHeld.2.2.2.2.1)
                                 have HS5_ := (hb.cell (World.block_lt_of_cell? _ _ (hHeld.2.2.2.2.2.1))).trans (hHeld.2.2.2.2.2.1)
                                 have HS6_ := (hb.cell (World.block_lt_of_cell? _ _ (hHeld.2.2.2.2.2.2.1))).trans (hHeld.2.2.2.2.2.2.1)
                                 have HS7_ := (hb.cell (World.block_lt_of_cell? _ _ (hHeld.2.2.2.2.2.2.2.1))).trans (hHeld.2.2.2.2.2.2.2.1)
                                 have HS8_ := (hb.cell (World.block_lt_of_cell? _ _ (hHeld.2.2.2.2.2.2.2.2.1))).trans (hHeld.2.2.2.2.2.2.2.2.1)
                                 have HS9_ := (hb.cell (World.block_lt_of_cell? _ _ (hHeld.2.2.2.2.2.2.2.2.2.1))).trans (hHeld.2.2.2.2.2.2.2.2.2.1)
                                 have HS10_ := (hb.cell (World.block_lt_of_cell? _ _ (hHeld.2.2.2.2.2.2.2.2.2.2.1))).trans (hHeld.2.2.2.2.2.2.2.2.2.2.1)
                                 have HS11_ := (hb.cell (World.block_lt_of_cell? _ _ (hHeld.2.2.2.2.2.2.2.2.2.2.2))).trans (hHeld.2.2.2.2.2.2.2.2.2.2.2)
                                 refine ⟨_, rfl, ?_⟩
                                 have n0_ := Aside0.mk (Kd.R_below (by (with_reducible repeat (first | apply Kd.R_alloc | apply Kd.R_drewN | apply Kd.R_drew)); exact HO_14.out) hb)
                                 have n1_ := Aside0.mk (Kd.C_below (by repeat (first | (with_reducible exact HR264_1.out) | (with_reducible refine Kd.C_alloc ?_ _) | (with_reducible refine Kd.C_drewN ?_ _) | (with_reducible refine Kd.C_drew ?_) | exact HR264_1.out)) hb)
                                 have n2_ := Aside0.mk (Kd.C_below (by repeat (first | (with_reducible exact HR265_1.out) | (with_reducible refine Kd.C_alloc ?_ _) | (with_reducible refine Kd.C_drewN ?_ _) | (with_reducible refine Kd.C_drew ?_) | exact HR265_1.out)) hb)
                                 have n3_ := Aside0.mk (Kd.C_below (by repeat (first | (with_reducible exact HR267_1.out) | (with_reducible refine Kd.C_alloc ?_ _) | (with_reducible refine Kd.C_drewN ?_ _) | (with_reducible refine Kd.C_drew ?_) | exact HR267_1.out)) hb)
                                 have n4_ := Aside0.mk (Kd.C_below (by repeat (first | (with_reducible exact HR268_1.out) | (with_reducible refine Kd.C_alloc ?_ _) | (with_reducible refine Kd.C_drewN ?_ _) | (with_reducible refine Kd.C_drew ?_) | exact HR268_1.out)) hb)
                                 have n5_ := Aside0.mk (Kd.C_below (by repeat (first | (with_reducible exact HR269_1.out) | (with_reducible refine Kd.C_alloc ?_ _) | (with_reducible refine Kd.C_drewN ?_ _) | (with_reducible refine Kd.C_drew ?_) | exact HR269_1.out)) hb)
                                 have n6_ := Aside0.mk (Kd.C_below (by repeat (first | (with_reducible exact HR270_1.out) | (with_reducible refine Kd.C_alloc ?_ _) | (with_reducible refine Kd.C_drewN ?_ _) | (with_reducible refine Kd.C_drew ?_) | exact HR270_1.out)) hb)
                                 have n7_ := Aside0.mk (below_step (by repeat (first | (with_reducible first | exact HB.out | apply below_alloc | apply pw_below_drewN | apply below_drew1) | exact HB.out)) hb)
                                 clear HO_14
                                 clear HR264_1
                                 clear HR265_1
                                 clear HR267_1
                                 clear HR268_1
                                 clear HR269_1
                                 clear HR270_1
                                 clear HB
                                 have HO_14 := n0_
                                 have HR264_1 := n1_
                                 have HR265_1 := n2_
                                 have HR267_1 := n3_
                                 have HR268_1 := n4_
                                 have HR269_1 := n5_
                                 have HR270_1 := n6_
                                 have HB := n7_
                                 clear n0_ n1_ n2_ n3_ n4_ n5_ n6_ n7_
                                 (try clear hb)
                                 (try clear hb2)
                                 (try clear hk)
                                 (try clear hi)
                                 refine hK.out _ _ ⟨HS0_, HS1_, HS2_, HS3_, HS4_, HS5_, HS6_, HS7_, HS8_, HS9_, HS10_, HS11_⟩ (fun hHeld => ?_)
                                 clear hK K
                                 refine norm_ (a' := ?_) ?_ ?_
                                 rotate_left
                                 ·show Act.put _ (some 187) _ = _
                                  simp only [Act.put, List.setIfInBounds_toArray, List.set_cons_zero, List.set_cons_succ, i64_w, i32_w]
                                  rfl
                                 refine pure_ (i := 14) (N := some 188) (v := ?_) (a' := ?_) #[true, true, true, true, true, true, true, true, true, true, true, true, true, true, true] rfl rfl (any_of HT_.out (by kernel_rfl)) (fun _ _ _ h => h) (Or.inl ⟨by rfl, ?_⟩) ?_ ?_
                                 rotate_left
                                 ·intro w'
                                  go_simp
                                  with_reducible rfl
                                 rotate_left
                                 ·simp only [Act.put, List.setIfInBounds_toArray, List.set_cons_zero, List.set_cons_succ, i64_w, i32_w]
                                  rfl
                                 refine done_ (done_of HT_.out (by kernel_rfl)) ?_
                                 try go_wp2
                                 go_roundg k7
                                 case measure => have := HJ5.out; have := HJ18.out; have := HJ20.out; have := HK4.out; have := HJ70.out; have := HJ79.out; have := HK7.out; omega
                                 case rel => exact ⟨(wrap64 (x171_7 + 1)), (by first | rfl | (simp; done) | (simp [*]; done)), H', ⟨by have := HJ5.out; have := HJ18.out; have := HJ20.out; have := HK4.out; have := HJ70.out; have := HJ79.out; have := HK7.out; omega⟩, ⟨by (with_reducible repeat (first | apply Kd.R_alloc | apply Kd.R_drewN | apply Kd.R_drew)); exact HO_14.out⟩, ⟨by repeat (first | (with_reducible exact HR264_1.out) | (with_reducible refine Kd.C_alloc ?_ _) | (with_reducible refine Kd.C_drewN ?_ _) | (with_reducible refine Kd.C_drew ?_) | exact HR264_1.out)⟩, ⟨by repeat (first | (with_reducible exact HR265_1.out) | (with_reducible refine Kd.C_alloc ?_ _) | (with_reducible refine Kd.C_drewN ?_ _) | (with_reducible refine Kd.C_drew ?_) | exact HR265_1.out)⟩, ⟨by repeat (first | (with_reducible exact HR267_1.out) | (with_reducible refine Kd.C_alloc ?_ _) | (with_reducible refine Kd.C_drewN ?_ _) | (with_reducible refine Kd.C_drew ?_) | exact HR267_1.out)⟩, ⟨by repeat (first | (with_reducible exact HR268_1.out) | (with_reducible refine Kd.C_alloc ?_ _) | (with_reducible refine Kd.C_drewN ?_ _) | (with_reducible refine Kd.C_drew ?_) | exact HR268_1.out)⟩, ⟨by repeat (first | (with_reducible exact HR269_1.out) | (with_reducible refine Kd.C_alloc ?_ _) | (with_reducible refine Kd.C_drewN ?_ _) | (with_reducible refine Kd.C_drew ?_) | exact HR269_1.out)⟩, ⟨by repeat (first | (with_reducible exact HR270_1.out) | (with_reducible refine Kd.C_alloc ?_ _) | (with_reducible refine Kd.C_drewN ?_ _) | (with_reducible refine Kd.C_drew ?_) | exact HR270_1.out)⟩, ⟨by repeat (first | (with_reducible first | exact HB.out | apply below_alloc | apply pw_below_drewN | apply below_drew1) | exact HB.out)⟩⟩
                               ·rw [if_neg c99] at H
                                exact absurd H (by simp)
                              ·rw [if_neg c98] at H
                               exact absurd H (by simp)
                             ·rw [if_neg c97] at H
                              exact absurd H (by simp)
                            ·rw [if_neg c96] at H
                             exact absurd H (by simp)
                           ·rw [if_neg c95] at H
                            have c95b0 : decide (x171_7 < (t259.length : Int)) = false := decide_eq_false c95
                            clear c95
                            obtain rfl := Option.some.inj H
                            go_wp2
                            go_ret
                            exact ⟨by first | rfl | (simp [errW_none, errW_some] <;> rfl) | (simp only [← hji84]; first | rfl | (simp [errW_none, errW_some] <;> rfl)) | (simp [*, errW_none, errW_some] <;> rfl), by repeat (first | (with_reducible first | exact HB.out | apply below_alloc | apply pw_below_drewN | apply below_drew1) | exact HB.out)⟩
                        ·rw [if_neg c91] at H
                         exact absurd H (by simp)
                       ·rw [if_neg c90] at H
                        exact absurd H (by simp)
                      ·rw [if_neg c88] at H
                       exact absurd H (by simp)
                     ·rw [if_neg c87] at H
                      exact absurd H (by simp)
                    ·rw [if_neg c86] at H
                     exact absurd H (by simp)
                   ·rw [if_neg c85] at H
                    exact absurd H (by simp)
                  ·replace c83 := Bool.eq_false_iff.mpr c83
                   subst c83
                   have H1 : (if t260 = 0 then (if (t259.length : Int) = (l0.length : Int) then (tourlaw5_BonesPlay.l1002 kj79 t259 ((rd_T45 l1 x16_70).f1) ((rd_T45 l1 x16_70).f1) 0 (t259.length : Int) 0) else (none)) else (none)) = some r := by rw [if_neg (show ¬ (false = true) by decide)] at H; exact H
                   clear H
                   have H := H1
                   clear H1
                   by_cases c104 : t260 = 0
                   ·rw [if_pos c104] at H
                    have c104b0 : (t260 == 0) = true := beq_iff_eq.mpr c104
                    have c104b1 : (t260 != 0) = false := bne_eq_false_iff_eq.mpr c104
                    clear c104
                    by_cases c105 : (t259.length : Int) = (l0.length : Int)
                    ·rw [if_pos c105] at H
                     have c105b0 : ((t259.length : Int) == (l0.length : Int)) = true := beq_iff_eq.mpr c105
                     have c105b1 : ((t259.length : Int) != (l0.length : Int)) = false := bne_eq_false_iff_eq.mpr c105
                     have c105b2 : (t259.length == l0.length) = true := by first | simpa using c105 | (simp at c105 ⊢; omega)
                     clear c105
                     have H' := Aside0.mk H
                     clear H
                     obtain ⟨Ao106, co106, eo106⟩ := Kd.R_slice HO_14.out
                     subst eo106
                     go_wp2
                     go_loopg [171] kj79 (fun kq v171 w' => ∃ (x171_7 : Int), v171 = .int .i64 x171_7 ∧ Aside0 (tourlaw5_BonesPlay.l1002 kq t259 ((rd_T45 l1 x16_70).f1) ((rd_T45 l1 x16_70).f1) 0 (t259.length : Int) x171_7 = some r) ∧ Aside0 (kq ≤ kj79) ∧ Aside0 (Kd.R k37 37 w' w.heap.size (fun k_ => (w.heap.size ≤ k_)) (.slice Ao106 t259.length co106) t259) ∧ Aside0 (Kd.C k37 w' A264_1 ((rd_T45 l1 x16_70).f1).length ((rd_T45 l1 x16_70).f1)) ∧ Aside0 (Kd.C k37 w' A264_1 ((rd_T45 l1 x16_70).f1).length ((rd_T45 l1 x16_70).f1)) ∧ Aside0 (Below w.heap.size w w'))
                     case atStart => exact ⟨(0), (by first | rfl | (simp; done) | (simp [*]; done)), H', ⟨Nat.le_refl _⟩, ⟨by (with_reducible repeat (first | apply Kd.R_alloc | apply Kd.R_drewN | apply Kd.R_drew)); exact HO_14.out⟩, ⟨by repeat (first | (with_reducible exact HR264_1.out) | (with_reducible refine Kd.C_alloc ?_ _) | (with_reducible refine Kd.C_drewN ?_ _) | (with_reducible refine Kd.C_drew ?_) | exact HR264_1.out)⟩, ⟨by repeat (first | (with_reducible exact HR265_1.out) | (with_reducible refine Kd.C_alloc ?_ _) | (with_reducible refine Kd.C_drewN ?_ _) | (with_reducible refine Kd.C_drew ?_) | exact HR265_1.out)⟩, ⟨by repeat (first | (with_reducible first | exact HB.out | apply below_alloc | apply pw_below_drewN | apply below_drew1) | exact HB.out)⟩⟩
                     case round =>
                      clear H'
                      try clear c1
                      try clear c2
                      try clear p2
                      try clear q2
                      try clear hx2
                      try clear c3
                      try clear c4
                      try clear p6
                      try clear c7
                      try clear c8
                      try clear c9
                      try clear c10
                      try clear c11
                      try clear c12
                      try clear c13
                      try clear c14
                      try clear c15
                      try clear c16
                      try clear c16b0
                      try clear c16b1
                      try clear c18
                      try clear c20
                      try clear c20b0
                      try clear c20b1
                      try clear c22
                      try clear c23
                      try clear c23b0
                      try clear c24
                      try clear c24b0
                      try clear c25
                      try clear c25b0
                      try clear p25
                      try clear q25
                      try clear hx25
                      try clear c26
                      try clear c26b0
                      try clear c26b1
                      try clear p26
                      try clear q26
                      try clear hx26
                      try clear c27
                      try clear p27
                      try clear q27
                      try clear hx27
                      try clear c28
                      try clear c28b0
                      try clear c28b1
                      try clear c29
                      try clear c29b0
                      try clear c39
                      try clear c39b0
                      try clear p64
                      try clear c70
                      try clear c70b0
                      try clear c70b1
                      try clear c73
                      try clear c73b0
                      try clear c75
                      try clear c75b0
                      try clear c76
                      try clear c76b0
                      try clear c77
                      try clear c77b0
                      try clear c78
                      try clear c78b0
                      try clear c79
                      try clear c79b0
                      try clear c82
                      try clear c82b0
                      try clear c83
                      try clear c85
                      try clear c85b0
                      try clear c86
                      try clear c86b0
                      try clear c87
                      try clear c87b0
                      try clear c88
                      try clear c88b0
                      try clear c90
                      try clear c90b0
                      try clear c90b1
                      try clear c91
                      try clear c91b0
                      try clear c91b1
                      try clear c91b2
                      try clear c95
                      try clear c95b0
                      try clear c96
                      try clear c96b0
                      try clear c97
                      try clear c97b0
                      try clear c98
                      try clear c98b0
                      try clear c99
                      try clear c99b0
                      try clear c101
                      try clear c101b0
                      try clear c104
                      try clear c104b0
                      try clear c104b1
                      try clear c105
                      try clear c105b0
                      try clear c105b1
                      try clear c105b2
                      try clear hcz31_0
                      try clear hcz31_1
                      try clear hcz33_0
                      try clear hcz33_1
                      try clear hcz38_0
                      try clear hcz38_1
                      try clear hcz41_0
                      try clear hcz41_1
                      try clear hcz43_0
                      try clear hcz43_1
                      try clear hcz48_0
                      try clear hcz48_1
                      try clear hcz50_0
                      try clear hcz50_1
                      try clear hcz52_0
                      try clear hcz52_1
                      try clear hcz57_0
                      try clear hcz57_1
                      try clear hcz59_0
                      try clear hcz59_1
                      try clear hcz61_0
                      try clear hcz61_1
                      try clear hcz66_0
                      try clear hcz66_1
                      try clear hcz68_0
                      try clear hcz68_1
                      try clear hfz31_0
                      try clear hfz31_1
                      try clear hfz33_0
                      try clear hfz33_1
                      try clear hfz38_0
                      try clear hfz38_1
                      try clear hfz41_0
                      try clear hfz41_1
                      try clear hfz43_0
                      try clear hfz43_1
                      try clear hfz48_0
                      try clear hfz48_1
                      try clear hfz50_0
                      try clear hfz50_1
                      try clear hfz52_0
                      try clear hfz52_1
                      try clear hfz57_0
                      try clear hfz57_1
                      try clear hfz59_0
                      try clear hfz59_1
                      try clear hfz61_0
                      try clear hfz61_1
                      try clear hfz66_0
                      try clear hfz66_1
                      try clear hfz68_0
                      try clear hfz68_1
                      try clear hx253_0
                      try clear hx253_1
                      try clear hx263_0
                      try clear hx263_1
                      try clear hx264_0
                      try clear hx264_1
                      try clear hx265_0
                      try clear hx265_1
                      try clear hx266_0
                      try clear hx266_1
                      try clear hx267_0
                      try clear hx267_1
                      try clear hx268_0
                      try clear hx268_1
                      try clear hx269_0
                      try clear hx269_1
                      try clear hx270_0
                      try clear hx270_1
                      try clear hx272_0
                      try clear hx272_1
                      try clear hx272_2
                      try clear hx272_3
                      try clear hx273_0
                      try clear hx273_1
                      try clear hx273_2
                      try clear hx273_3
                      try clear hx274_0
                      try clear hx274_1
                      try clear hx274_2
                      try clear hx274_3
                      try clear p2
                      try clear p25
                      try clear p253
                      try clear p26
                      try clear p263
                      try clear p264
                      try clear p265
                      try clear p266
                      try clear p267
                      try clear p268
                      try clear p269
                      try clear p27
                      try clear p270
                      try clear p272
                      try clear p273
                      try clear p274
                      try clear p6
                      try clear p64
                      try clear q2
                      try clear q25
                      try clear q253
                      try clear q26
                      try clear q263
                      try clear q264
                      try clear q265
                      try clear q266
                      try clear q267
                      try clear q268
                      try clear q269
                      try clear q27
                      try clear q270
                      try clear q272
                      try clear q273
                      try clear q274
                      obtain ⟨x171_7, rfl, HA, HK7, HO_14, HR264_1, HR265_1, HB⟩ := hrel
                      cases gk with
                      | zero => exact absurd HA.out (by simp [tourlaw5_BonesPlay.l1002])
                      | succ k7 =>
                       have H := HA.out
                       clear HA
                       simp only [tourlaw5_BonesPlay.l1002] at H
                       by_cases c107 : x171_7 < (t259.length : Int)
                       ·rw [if_pos c107] at H
                        have c107b0 : decide (x171_7 < (t259.length : Int)) = true := decide_eq_true c107
                        clear c107
                        by_cases c108 : 0 ≤ x171_7
                        ·rw [if_pos c108] at H
                         have c108b0 : decide (0 ≤ x171_7) = true := decide_eq_true c108
                         clear c108
                         by_cases c109 : x171_7 < (t259.length : Int)
                         ·rw [if_pos c109] at H
                          have c109b0 : decide (x171_7 < (t259.length : Int)) = true := decide_eq_true c109
                          clear c109
                          by_cases c110 : x171_7 < (((rd_T45 l1 x16_70).f1).length : Int)
                          ·rw [if_pos c110] at H
                           have c110b0 : decide (x171_7 < (((rd_T45 l1 x16_70).f1).length : Int)) = true := decide_eq_true c110
                           clear c110
                           by_cases c111 : x171_7 < (((rd_T45 l1 x16_70).f1).length : Int)
                           ·rw [if_pos c111] at H
                            have c111b0 : decide (x171_7 < (((rd_T45 l1 x16_70).f1).length : Int)) = true := decide_eq_true c111
                            clear c111
                            replace H := Option.bind_eq_some_iff.mp H
                            obtain ⟨⟨t282, t283, t284, t285⟩, A1120, H⟩ := H
                            replace H : (if (!(((rd_T37 t259 x171_7).f0) == t282) || (!(((rd_T37 t259 x171_7).f1) == t283) || (!(((rd_T37 t259 x171_7).f2) == t284) || (!(((rd_T37 t259 x171_7).f3) == t285))))) = true then (none) else (tourlaw5_BonesPlay.l1002 k7 t259 ((rd_T45 l1 x16_70).f1) ((rd_T45 l1 x16_70).f1) 0 (t259.length : Int) (wrap64 (x171_7 + 1)))) = some r := H
                            have A112 := Aside0.mk A1120
                            clear A1120
                            by_cases c113 : (!(((rd_T37 t259 x171_7).f0) == t282) || (!(((rd_T37 t259 x171_7).f1) == t283) || (!(((rd_T37 t259 x171_7).f2) == t284) || (!(((rd_T37 t259 x171_7).f3) == t285))))) = true
                            ·rw [if_pos c113] at H
                             exact absurd H (by simp)
                            ·rw [if_neg c113] at H
                             have c113b0 : (!(((rd_T37 t259 x171_7).f0) == t282) || (!(((rd_T37 t259 x171_7).f1) == t283) || (!(((rd_T37 t259 x171_7).f2) == t284) || (!(((rd_T37 t259 x171_7).f3) == t285))))) = false := by simpa using c113
                             clear c113
                             have H' := Aside0.mk H
                             clear H
                             try go_wp2
                             have n0_ := Aside0.mk (Kd.R_drew HO_14.out)
                             have n1_ := Aside0.mk (Kd.C_drew HR264_1.out)
                             have n2_ := Aside0.mk (Kd.C_drew HR265_1.out)
                             have n3_ := Aside0.mk (below_drew1 HB.out)
                             clear HO_14
                             clear HR264_1
                             clear HR265_1
                             clear HB
                             have HO_14 := n0_
                             have HR264_1 := n1_
                             have HR265_1 := n2_
                             have HB := n3_
                             clear n0_ n1_ n2_ n3_
                             have p279 : 0 ≤ (x171_7 : Int) := of_decide_eq_true (by first | (with_reducible assumption) | assumption)
                             have q279 : x171_7 < (t259.length : Int) := of_decide_eq_true (by first | (with_reducible assumption) | assumption)
                             obtain ⟨ad279, e279, hx279_0, hx279_1, hx279_2, hx279_3⟩ := at_T37 (Kd.R_reads' HO_14.out).2.2 x171_7 p279 q279
                             cases e279
                             replace p279 := eq_true p279
                             replace q279 := eq_true q279
                             have p280 : 0 ≤ (x171_7 : Int) := of_decide_eq_true (by first | (with_reducible assumption) | assumption)
                             have q280 : x171_7 < (((rd_T45 l1 x16_70).f1).length : Int) := of_decide_eq_true (by first | (with_reducible assumption) | assumption)
                             obtain ⟨ad280, e280, hx280_0, hx280_1, hx280_2, hx280_3⟩ := at_T37 HR264_1.out x171_7 p280 q280
                             cases e280
                             replace p280 := eq_true p280
                             replace q280 := eq_true q280
                             have p281 : 0 ≤ (x171_7 : Int) := of_decide_eq_true (by first | (with_reducible assumption) | assumption)
                             have q281 : x171_7 < (((rd_T45 l1 x16_70).f1).length : Int) := of_decide_eq_true (by first | (with_reducible assumption) | assumption)
                             obtain ⟨ad281, e281, hx281_0, hx281_1, hx281_2, hx281_3⟩ := at_T37 HR265_1.out x171_7 p281 q281
                             obtain rfl : ad280 = ad281 := (by injection e281)
                             replace p281 := eq_true p281
                             replace q281 := eq_true q281
                             refine start_ (n := 15) (S := fun w' => w'.cell? (ad279.add ((x171_7).toNat * 4)) = some (.int .i64 ((rd_T37 t259 x171_7).f0)) ∧ w'.cell? ⟨(ad279.add ((x171_7).toNat * 4)).block, (ad279.add ((x171_7).toNat * 4)).off + 1, none⟩ = some (.int .i64 ((rd_T37 t259 x171_7).f1)) ∧ w'.cell? ⟨(ad279.add ((x171_7).toNat * 4)).block, (ad279.add ((x171_7).toNat * 4)).off + 2, none⟩ = some (.int .i64 ((rd_T37 t259 x171_7).f2)) ∧ w'.cell? ⟨(ad279.add ((x171_7).toNat * 4)).block, (ad279.add ((x171_7).toNat * 4)).off + 3, none⟩ = some (.int .i64 ((rd_T37 t259 x171_7).f3)) ∧ w'.cell? (ad280.add ((x171_7).toNat * 4)) = some (.int .i64 ((rd_T37 ((rd_T45 l1 x16_70).f1) x171_7).f0)) ∧ w'.cell? ⟨(ad280.add ((x171_7).toNat * 4)).block, (ad280.add ((x171_7).toNat * 4)).off + 1, none⟩ = some (.int .i64 ((rd_T37 ((rd_T45 l1 x16_70).f1) x171_7).f1)) ∧ w'.cell? ⟨(ad280.add ((x171_7).toNat * 4)).block, (ad280.add ((x171_7).toNat * 4)).off + 2, none⟩ = some (.int .i64 ((rd_T37 ((rd_T45 l1 x16_70).f1) x171_7).f2)) ∧ w'.cell? ⟨(ad280.add ((x171_7).toNat * 4)).block, (ad280.add ((x171_7).toNat * 4)).off + 3, none⟩ = some (.int .i64 ((rd_T37 ((rd_T45 l1 x16_70).f1) x171_7).f3)) ∧ w'.cell? (ad280.add ((x171_7).toNat * 4)) = some (.int .i64 ((rd_T37 ((rd_T45 l1 x16_70).f1) x171_7).f0)) ∧ w'.cell? ⟨(ad280.add ((x171_7).toNat * 4)).block, (ad280.add ((x171_7).toNat * 4)).off + 1, none⟩ = some (.int .i64 ((rd_T37 ((rd_T45 l1 x16_70).f1) x171_7).f1)) ∧ w'.cell? ⟨(ad280.add ((x171_7).toNat * 4)).block, (ad280.add ((x171_7).toNat * 4)).off + 2, none⟩ = some (.int .i64 ((rd_T37 ((rd_T45 l1 x16_70).f1) x171_7).f2)) ∧ w'.cell? ⟨(ad280.add ((x171_7).toNat * 4)).block, (ad280.add ((x171_7).toNat * 4)).off + 3, none⟩ = some (.int .i64 ((rd_T37 ((rd_T45 l1 x16_70).f1) x171_7).f3))) (ds := []) #[false, false, false, false, false, false, false, false, false, false, false, false, false, false, false] (by kernel_rfl) rfl rfl ⟨hx279_0, hx279_1, hx279_2, hx279_3, hx280_0, hx280_1, hx280_2, hx280_3, hx281_0, hx281_1, hx281_2, hx281_3⟩ (fun hHeld => ?_); refine with_tabW tourlaw5_BonesPlay.tab32 tourlaw5_BonesPlay.bits32 (fun HT_ HW_ => ?_)
                             generalize wr.drew = w114 at HO_14 HR264_1 HR265_1 HB hx279_0 hx279_1 hx279_2 hx279_3 hx280_0 hx280_1 hx280_2 hx280_3 hx281_0 hx281_1 hx281_2 hx281_3 hHeld ⊢
                             refine pure_ (i := 0) (N := some 174) (v := ?_) (a' := ?_) #[true, false, false, false, false, false, false, false, false, false, false, false, false, false, false] rfl rfl (any_of HT_.out (by kernel_rfl)) (fun _ _ _ h => h) (Or.inl ⟨by rfl, ?_⟩) ?_ ?_
                             rotate_left
                             ·intro w'
                              go_simp
                              with_reducible rfl
                             rotate_left
                             ·simp only [Act.put, List.setIfInBounds_toArray, List.set_cons_zero, List.set_cons_succ, i64_w, i32_w]
                              rfl
                             refine pure_ (i := 1) (N := some 175) (v := ?_) (a' := ?_) #[true, true, false, false, false, false, false, false, false, false, false, false, false, false, false] rfl rfl (any_of HT_.out (by kernel_rfl)) (fun _ _ _ h => h) (Or.inl ⟨by rfl, ?_⟩) ?_ ?_
                             rotate_left
                             ·intro w'
                              go_simp
                              with_reducible rfl
                             rotate_left
                             ·simp only [Act.put, List.setIfInBounds_toArray, List.set_cons_zero, List.set_cons_succ, i64_w, i32_w]
                              rfl
                             refine pure_ (i := 2) (N := some 176) (v := ?_) (a' := ?_) #[true, true, true, false, false, false, false, false, false, false, false, false, false, false, false] rfl rfl (any_of HT_.out (by kernel_rfl)) (fun _ _ _ h => h) (Or.inl ⟨by rfl, ?_⟩) ?_ ?_
                             rotate_left
                             ·intro w'
                              go_simp
                              with_reducible rfl
                             rotate_left
                             ·simp only [Act.put, List.setIfInBounds_toArray, List.set_cons_zero, List.set_cons_succ, i64_w, i32_w]
                              rfl
                             refine pure_ (i := 4) (N := some 178) (v := ?_) (a' := ?_) #[true, true, true, false, true, false, false, false, false, false, false, false, false, false, false] rfl rfl (any_of HT_.out (by kernel_rfl)) (fun _ _ _ h => h) (Or.inl ⟨by rfl, ?_⟩) ?_ ?_
                             rotate_left
                             ·intro w'
                              go_simp
                              with_reducible rfl
                             rotate_left
                             ·simp only [Act.put, List.setIfInBounds_toArray, List.set_cons_zero, List.set_cons_succ, i64_w, i32_w]
                              rfl
                             refine pure_ (i := 5) (N := some 179) (v := ?_) (a' := ?_) #[true, true, true, false, true, true, false, false, false, false, false, false, false, false, false] rfl rfl (any_of HT_.out (by kernel_rfl)) (fun _ _ _ h => h) (Or.inl ⟨by rfl, ?_⟩) ?_ ?_
                             rotate_left
                             ·intro w'
                              go_simp
                              with_reducible rfl
                             rotate_left
                             ·simp only [Act.put, List.setIfInBounds_toArray, List.set_cons_zero, List.set_cons_succ, i64_w, i32_w]
                              rfl
                             refine pure_ (i := 6) (N := some 180) (v := ?_) (a' := ?_) #[true, true, true, false, true, true, true, false, false, false, false, false, false, false, false] rfl rfl (any_of HT_.out (by kernel_rfl)) (fun _ _ _ h => h) (Or.inl ⟨by rfl, ?_⟩) ?_ ?_
                             rotate_left
                             ·intro w'
                              go_simp
                              with_reducible rfl
                             rotate_left
                             ·simp only [Act.put, List.setIfInBounds_toArray, List.set_cons_zero, List.set_cons_succ, i64_w, i32_w]
                              rfl
                             refine pure_ (i := 8) (N := some 182) (v := ?_) (a' := ?_) #[true, true, true, false, true, true, true, false, true, false, false, false, false, false, false] rfl rfl (any_of HT_.out (by kernel_rfl)) (fun _ _ _ h => h) (Or.inl ⟨by rfl, ?_⟩) ?_ ?_
                             rotate_left
                             ·intro w'
                              go_simp
                              with_reducible rfl
                             rotate_left
                             ·simp only [Act.put, List.setIfInBounds_toArray, List.set_cons_zero, List.set_cons_succ, i64_w, i32_w]
                              rfl
                             refine pure_ (i := 9) (N := some 183) (v := ?_) (a' := ?_) #[true, true, true, false, true, true, true, false, true, true, false, false, false, false, false] rfl rfl (any_of HT_.out (by kernel_rfl)) (fun _ _ _ h => h) (Or.inl ⟨by rfl, ?_⟩) ?_ ?_
                             rotate_left
                             ·intro w'
                              go_simp
                              with_reducible rfl
                             rotate_left
                             ·simp only [Act.put, List.setIfInBounds_toArray, List.set_cons_zero, List.set_cons_succ, i64_w, i32_w]
                              rfl
                             refine pure_ (i := 10) (N := some 184) (v := ?_) (a' := ?_) #[true, true, true, false, true, true, true, false, true, true, true, false, false, false, false] rfl rfl (any_of HT_.out (by kernel_rfl)) (fun _ _ _ h => h) (Or.inl ⟨by rfl, ?_⟩) ?_ ?_
                             rotate_left
                             ·intro w'
                              go_simp
                              with_reducible rfl
                             rotate_left
                             ·simp only [Act.put, List.setIfInBounds_toArray, List.set_cons_zero, List.set_cons_succ, i64_w, i32_w]
                              rfl
                             refine pure_ (i := 12) (N := some 186) (v := ?_) (a' := ?_) #[true, true, true, false, true, true, true, false, true, true, true, false, true, false, false] rfl rfl (any_of HT_.out (by kernel_rfl)) (fun _ _ _ h => h) (Or.inl ⟨by rfl, ?_⟩) ?_ ?_
                             rotate_left
                             ·intro w'
                              go_simp
                              with_reducible rfl
                             rotate_left
                             ·simp only [Act.put, List.setIfInBounds_toArray, List.set_cons_zero, List.set_cons_succ, i64_w, i32_w]
                              rfl
                             refine take_ (i := 3) (N := some 177) (v := ?_) (a' := ?_) #[true, true, true, true, true, true, true, false, true, true, true, false, true, false, false] rfl rfl (take_ofW HT_.out HW_.out (by kernel_rfl)) (fun _ _ _ h => h) (Or.inl ⟨by rfl, ?_⟩) hHeld ?_ ?_
                             rotate_left
                             ·rintro w' ⟨s0, s1, s2, s3, s4, s5, s6, s7, s8, s9, s10, s11⟩
                              go_simp
                              with_reducible rfl
                             rotate_left
                             ·simp only [Act.put, List.setIfInBounds_toArray, List.set_cons_zero, List.set_cons_succ, i64_w, i32_w]
                              rfl
                             refine take_ (i := 7) (N := some 181) (v := ?_) (a' := ?_) #[true, true, true, true, true, true, true, true, true, true, true, false, true, false, false] rfl rfl (take_ofW HT_.out HW_.out (by kernel_rfl)) (fun _ _ _ h => h) (Or.inl ⟨by rfl, ?_⟩) hHeld ?_ ?_
                             rotate_left
                             ·rintro w' ⟨s0, s1, s2, s3, s4, s5, s6, s7, s8, s9, s10, s11⟩
                              go_simp
                              with_reducible rfl
                             rotate_left
                             ·simp only [Act.put, List.setIfInBounds_toArray, List.set_cons_zero, List.set_cons_succ, i64_w, i32_w]
                              rfl
                             refine take_ (i := 11) (N := some 185) (v := ?_) (a' := ?_) #[true, true, true, true, true, true, true, true, true, true, true, true, true, false, false] rfl rfl (take_ofW HT_.out HW_.out (by kernel_rfl)) (fun _ _ _ h => h) (Or.inl ⟨by rfl, ?_⟩) hHeld ?_ ?_
                             rotate_left
                             ·rintro w' ⟨s0, s1, s2, s3, s4, s5, s6, s7, s8, s9, s10, s11⟩
                              go_simp
                              with_reducible rfl
                             rotate_left
                             ·simp only [Act.put, List.setIfInBounds_toArray, List.set_cons_zero, List.set_cons_succ, i64_w, i32_w]
                              rfl
                             refine one_ (i := 13) (N := some 187) #[true, true, true, true, true, true, true, true, true, true, true, true, true, true, false] rfl rfl (one_of HT_.out (by kernel_rfl)) (by decide) (fun K hK => ?_)
                             refine goes_ Try.func15 (by kernel_rfl) rfl #[.agg #[.int .i64 ((rd_T37 ((rd_T45 l1 x16_70).f1) x171_7).f0), .int .i64 ((rd_T37 ((rd_T45 l1 x16_70).f1) x171_7).f1), .int .i64 ((rd_T37 ((rd_T45 l1 x16_70).f1) x171_7).f2), .int .i64 ((rd_T37 ((rd_T45 l1 x16_70).f1) x171_7).f3)], .agg #[.int .i64 ((rd_T37 ((rd_T45 l1 x16_70).f1) x171_7).f0), .int .i64 ((rd_T37 ((rd_T45 l1 x16_70).f1) x171_7).f1), .int .i64 ((rd_T37 ((rd_T45 l1 x16_70).f1) x171_7).f2), .int .i64 ((rd_T37 ((rd_T45 l1 x16_70).f1) x171_7).f3)], .int .i64 0] (by rfl) rfl rfl (by (try simp only [List.map_toArray, List.map_cons, List.map_nil]); first | done | rfl | (simp only [List.length_drop, List.length_take]; rfl)) ?_
                             with_reducible refine (quat_Blend.calls k7 ((rd_T37 ((rd_T45 l1 x16_70).f1) x171_7).f0) ((rd_T37 ((rd_T45 l1 x16_70).f1) x171_7).f1) ((rd_T37 ((rd_T45 l1 x16_70).f1) x171_7).f2) ((rd_T37 ((rd_T45 l1 x16_70).f1) x171_7).f3) ((rd_T37 ((rd_T45 l1 x16_70).f1) x171_7).f0) ((rd_T37 ((rd_T45 l1 x16_70).f1) x171_7).f1) ((rd_T37 ((rd_T45 l1 x16_70).f1) x171_7).f2) ((rd_T37 ((rd_T45 l1 x16_70).f1) x171_7).f3) 0 t282 t283 t284 t285 _ A112.out).mono ?_
                             rintro e w115 ⟨rfl, hb⟩
                             have HS0_ := (hb.cell (World.block_lt_of_cell? _ _ (hHeld.1))).trans (hHeld.1)
                             have HS1_ := (hb.cell (World.block_lt_of_cell? _ _ (hHeld.2.1))).trans (hHeld.2.1)
                             have HS2_ := (hb.cell (World.block_lt_of_cell? _ _ (hHeld.2.2.1))).trans (hHeld.2.2.1)
                             have HS3_ := (hb.cell (World.block_lt_of_cell? _ _ (hHeld.2.2.2.1))).trans (hHeld.2.2.2.1)
                             have HS4_ := (hb.cell (World.block_lt_of_cell? _ _ (hHeld.2.2.2.2.1))).trans (hHeld.2.2.2.2.1)
                             have HS5_ := (hb.cell (World.block_lt_of_cell? _ _ (hHeld.2.2.2.2.2.1))).trans (hHeld.2.2.2.2.2.1)
                             have HS6_ := (hb.cell (World.block_lt_of_cell? _ _ (hHeld.2.2.2.2.2.2.1))).trans (hHeld.2.2.2.2.2.2.1)
                             have HS7_ := (hb.cell (World.block_lt_of_cell? _ _ (hHeld.2.2.2.2.2.2.2.1))).trans (hHeld.2.2.2.2.2.2.2.1)
                             have HS8_ := (hb.cell (World.block_lt_of_cell? _ _ (hHeld.2.2.2.2.2.2.2.2.1))).trans (hHeld.2.2.2.2.2.2.2.2.1)
                             have HS9_ := (hb.cell (World.block_lt_of_cell? _ _ (hHeld.2.2.2.2.2.2.2.2.2.1))).trans (hHeld.2.2.2.2.2.2.2.2.2.1)
                             have HS10_ := (hb.cell (World.block_lt_of_cell? _ _ (hHeld.2.2.2.2.2.2.2.2.2.2.1))).trans (hHeld.2.2.2.2.2.2.2.2.2.2.1)
                             have HS11_ := (hb.cell (World.block_lt_of_cell? _ _ (hHeld.2.2.2.2.2.2.2.2.2.2.2))).trans (hHeld.2.2.2.2.2.2.2.2.2.2.2)
                             refine ⟨_, rfl, ?_⟩
                             have n0_ := Aside0.mk (Kd.R_below (by (with_reducible repeat (first | apply Kd.R_alloc | apply Kd.R_drewN | apply Kd.R_drew)); exact HO_14.out) hb)
                             have n1_ := Aside0.mk (Kd.C_below (by repeat (first | (with_reducible exact HR264_1.out) | (with_reducible refine Kd.C_alloc ?_ _) | (with_reducible refine Kd.C_drewN ?_ _) | (with_reducible refine Kd.C_drew ?_) | exact HR264_1.out)) hb)
                             have n2_ := Aside0.mk (Kd.C_below (by repeat (first | (with_reducible exact HR265_1.out) | (with_reducible refine Kd.C_alloc ?_ _) | (with_reducible refine Kd.C_drewN ?_ _) | (with_reducible refine Kd.C_drew ?_) | exact HR265_1.out)) hb)
                             have n3_ := Aside0.mk (below_step (by repeat (first | (with_reducible first | exact HB.out | apply below_alloc | apply pw_below_drewN | apply below_drew1) | exact HB.out)) hb)
                             clear HO_14
                             clear HR264_1
                             clear HR265_1
                             clear HB
                             have HO_14 := n0_
                             have HR264_1 := n1_
                             have HR265_1 := n2_
                             have HB := n3_
                             clear n0_ n1_ n2_ n3_
                             (try clear hb)
                             (try clear hb2)
                             (try clear hk)
                             (try clear hi)
                             refine hK.out _ _ ⟨HS0_, HS1_, HS2_, HS3_, HS4_, HS5_, HS6_, HS7_, HS8_, HS9_, HS10_, HS11_⟩ (fun hHeld => ?_)
                             clear hK K
                             refine norm_ (a' := ?_) ?_ ?_
                             rotate_left
                             ·show Act.put _ (some 187) _ = _
                              simp only [Act.put, List.setIfInBounds_toArray, List.set_cons_zero, List.set_cons_succ, i64_w, i32_w]
                              rfl
                             refine pure_ (i := 14) (N := some 188) (v := ?_) (a' := ?_) #[true, true, true, true, true, true, true, true, true, true, true, true, true, true, true] rfl rfl (any_of HT_.out (by kernel_rfl)) (fun _ _ _ h => h) (Or.inl ⟨by rfl, ?_⟩) ?_ ?_
                             rotate_left
                             ·intro w'
                              go_simp
                              with_reducible rfl
                             rotate_left
                             ·simp only [Act.put, List.setIfInBounds_toArray, List.set_cons_zero, List.set_cons_succ, i64_w, i32_w]
                              rfl
                             refine done_ (done_of HT_.out (by kernel_rfl)) ?_
                             try go_wp2
                             go_roundg k7
                             case measure => have := HJ5.out; have := HJ18.out; have := HJ20.out; have := HK4.out; have := HJ70.out; have := HJ79.out; have := HK7.out; omega
                             case rel => exact ⟨(wrap64 (x171_7 + 1)), (by first | rfl | (simp; done) | (simp [*]; done)), H', ⟨by have := HJ5.out; have := HJ18.out; have := HJ20.out; have := HK4.out; have := HJ70.out; have := HJ79.out; have := HK7.out; omega⟩, ⟨by (with_reducible repeat (first | apply Kd.R_alloc | apply Kd.R_drewN | apply Kd.R_drew)); exact HO_14.out⟩, ⟨by repeat (first | (with_reducible exact HR264_1.out) | (with_reducible refine Kd.C_alloc ?_ _) | (with_reducible refine Kd.C_drewN ?_ _) | (with_reducible refine Kd.C_drew ?_) | exact HR264_1.out)⟩, ⟨by repeat (first | (with_reducible exact HR265_1.out) | (with_reducible refine Kd.C_alloc ?_ _) | (with_reducible refine Kd.C_drewN ?_ _) | (with_reducible refine Kd.C_drew ?_) | exact HR265_1.out)⟩, ⟨by repeat (first | (with_reducible first | exact HB.out | apply below_alloc | apply pw_below_drewN | apply below_drew1) | exact HB.out)⟩⟩
                           ·rw [if_neg c111] at H
                            exact absurd H (by simp)
                          ·rw [if_neg c110] at H
                           exact absurd H (by simp)
                         ·rw [if_neg c109] at H
                          exact absurd H (by simp)
                        ·rw [if_neg c108] at H
                         exact absurd H (by simp)
                       ·rw [if_neg c107] at H
                        have c107b0 : decide (x171_7 < (t259.length : Int)) = false := decide_eq_false c107
                        clear c107
                        obtain rfl := Option.some.inj H
                        go_wp2
                        go_ret
                        exact ⟨by first | rfl | (simp [errW_none, errW_some] <;> rfl) | (simp [*, errW_none, errW_some] <;> rfl), by repeat (first | (with_reducible first | exact HB.out | apply below_alloc | apply pw_below_drewN | apply below_drew1) | exact HB.out)⟩
                    ·rw [if_neg c105] at H
                     exact absurd H (by simp)
                   ·rw [if_neg c104] at H
                    exact absurd H (by simp)
               ·rw [if_neg c79] at H
                exact absurd H (by simp)
              ·rw [if_neg c78] at H
               exact absurd H (by simp)
           ·rw [if_neg c70] at H
            have c70b0 : (x10_4 == 0) = false := beq_eq_false_iff_ne.mpr c70
            have c70b1 : (x10_4 != 0) = true := bne_iff_ne.mpr c70
            by_cases c116 : t260 = x10_4
            ·rw [if_pos c116] at H
             have c116b0 : (t260 == x10_4) = true := beq_iff_eq.mpr c116
             have c116b1 : (t260 != x10_4) = false := bne_eq_false_iff_eq.mpr c116
             clear c116
             obtain rfl := Option.some.inj H
             go_wp2_with (first | ((with_reducible refine gate_callee (f := 12) rfl ?_); refine goesL_ (some 80) rfl rfl Try.func12 (by kernel_rfl) rfl #[.slice A0 l0.length c0, .slice A1 l1.length c1, .int .i64 a2] rfl (by (try simp only [List.map_toArray, List.map_cons, List.map_nil]); first | done | rfl | (simp only [List.length_drop, List.length_take]; rfl)) ?_; (with_reducible refine (bones_Play.calls k4 _ _ l0 _ _ l1 a2 t259 t260 _ ?side1 ?side2 ?side3 ?side4 A69.out).mono ?_); (case side1 => repeat (first | exact (Kd.C_below HR0.out HB.out) | (with_reducible refine Kd.C_alloc ?_ _) | (with_reducible refine Kd.C_drewN ?_ _) | (with_reducible refine Kd.C_drew ?_))); (case side2 => exact HC0.out); (case side3 => repeat (first | exact (Kd.V_reads' HO_1.out).2.2 | (with_reducible refine Kd.C_alloc ?_ _) | (with_reducible refine Kd.C_drewN ?_ _) | (with_reducible refine Kd.C_drew ?_))); (case side4 => exact (Kd.V_reads' HO_1.out).2.1); rintro e w117 ⟨v261, rfl, ho0, hb⟩; refine ⟨_, rfl, ?_⟩; have n0_ := Aside0.mk (Kd.V_elder' (by (with_reducible repeat (first | apply Kd.V_alloc | apply Kd.V_drewN | apply Kd.V_drew)); exact HO_1.out) (Kd.R_base ho0) hb); have n1_ := Aside0.mk (Kd.V_elder' (by (with_reducible repeat (first | apply Kd.V_alloc | apply Kd.V_drewN | apply Kd.V_drew)); exact HO_47.out) (Kd.R_base ho0) hb); have n2_ := Aside0.mk (Kd.R_lower (Kd.R_newM (M := fun k_ => (w.heap.size ≤ k_)) ho0 (below_size (by repeat (first | (with_reducible first | exact HB.out | apply below_alloc | apply pw_below_drewN | apply below_drew1) | exact HB.out))) (fun k_ h_ => h_)) (below_size (by repeat (first | (with_reducible first | exact HB.out | apply below_alloc | apply pw_below_drewN | apply below_drew1) | exact HB.out)))); have n3_ := Aside0.mk (below_step (by repeat (first | (with_reducible first | exact HB.out | apply below_alloc | apply pw_below_drewN | apply below_drew1) | exact HB.out)) hb); clear HO_1; clear HO_47; clear HB; have HO_1 := n0_; have HO_47 := n1_; have HO262 := n2_; have HB := n3_; clear n0_ n1_ n2_ n3_; (try clear hb); (try clear hb2); (try clear hk); (try clear hi); (try clear ho0); obtain ⟨Ao118, co118, eo118⟩ := Kd.R_slice HO262.out; subst eo118))
             go_ret
             exact ⟨by first | rfl | (simp [errW_none, errW_some] <;> rfl) | (simp [*, errW_none, errW_some] <;> rfl), by repeat (first | (with_reducible first | exact HB.out | apply below_alloc | apply pw_below_drewN | apply below_drew1) | exact HB.out)⟩
            ·rw [if_neg c116] at H
             exact absurd H (by simp)

end Go.Proofs.Ytfallkiaojefnaa.PBonesPlay
