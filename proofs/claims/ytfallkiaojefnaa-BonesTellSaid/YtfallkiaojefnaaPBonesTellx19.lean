-- Printed by a program: the print with changes of this session (wip/printpatch.py).
import Derived.Test.YtfallkiaojefnaaPBonesTellx0
import Derived.Test.YtfallkiaojefnaaPBonesTellx1
import Derived.Test.YtfallkiaojefnaaPBonesTellx2
import Derived.Test.YtfallkiaojefnaaPBonesTellx3
import Derived.Test.YtfallkiaojefnaaPBonesTellx6
import Derived.Test.YtfallkiaojefnaaPBonesTellx13
import Derived.Test.YtfallkiaojefnaaPBonesTellx14
import Derived.Test.YtfallkiaojefnaaPBonesTellx15
import Derived.Test.YtfallkiaojefnaaPBonesTellx16
import Derived.Test.YtfallkiaojefnaaPBonesTellx17
import Derived.Test.YtfallkiaojefnaaPBonesTellx18
namespace Go.Proofs.Ytfallkiaojefnaa.PBonesTell
open Go.Proofs.Ytfallkiaojefnaa.Fnv Go.Proofs.Ytfallkiaojefnaa.Ary Go.Proofs.Ytfallkiaojefnaa.Ext
open Go.RowKit Go.Proofs.YtfallkiaojefnaaW.PrintWords Go.Proofs.YtfallkiaojefnaaW.PrintLast Go.Proofs.YtfallkiaojefnaaW.PrintMore
attribute [local go_sem] max2_int min2_int max_two min_two max_three min_three max_four min_four   -- for this text's walks alone
set_option linter.unusedVariables false
set_option linter.unusedSimpArgs false

attribute [local go_sem high] eqA33 eqA37 eqA39
/-! ### tourlaw5_BonesTell: function 5 -/
mutual
def tourlaw5_BonesTell.j0 : Nat → List (S35) → List (S37) → List (S37) → Int → Bool → Option (Bool)
 | 0, _, _, _, _, _ => none
 | k + 1, x0, x1, x2, x3, x41 => if x41 = true then (none) else ((tourref5_BonesFault.f k x0 (([x1] : List (List (S37))))).bind fun t358 => ((bones_Places.f k x0 x1).bind fun bt359 => ((bones_Check.f k x0).bind fun t363 => ((tourref5_BonesFault.f k x0 ([] : List (List (S37)))).bind fun t364 => (if t363 = t364 then (if bt359.2 = t358 then (if t358 = 0 then (tourlaw5_BonesTell.j1 k x0 x1 x2 x3 bt359.1 ((bt359.1.length : Int) != (x0.length : Int))) else (if (bt359.1.length : Int) > 0 then (tourlaw5_BonesTell.j1 k x0 x1 x2 x3 bt359.1 true) else (tourlaw5_BonesTell.j1 k x0 x1 x2 x3 bt359.1 false))) else (tourlaw5_BonesTell.j1 k x0 x1 x2 x3 bt359.1 true)) else (tourlaw5_BonesTell.j1 k x0 x1 x2 x3 bt359.1 true))))))
def tourlaw5_BonesTell.j1 : Nat → List (S35) → List (S37) → List (S37) → Int → List (S39) → Bool → Option (Bool)
 | 0, _, _, _, _, _, _ => none
 | k + 1, x0, x1, x2, x3, x12, x81 => if x81 = true then (none) else (tourlaw5_BonesTell.l0 k x0 x1 x2 x3 x12 (x12.length : Int) 0)
def tourlaw5_BonesTell.l0 : Nat → List (S35) → List (S37) → List (S37) → Int → List (S39) → Int → Int → Option (Bool)
 | 0, _, _, _, _, _, _, _ => none
 | k + 1, x0, x1, x2, x3, x12, x83, x84 => if x84 < x83 then (if 0 ≤ x84 then (if x84 < (x12.length : Int) then ((tourref5_PlaceOf.f k x0 x1 x84).bind fun bt366 => (if ((!(((rd_T39 x12 x84).f0.f0) == bt366.1) || (!(((rd_T39 x12 x84).f0.f1) == bt366.2.1) || (!(((rd_T39 x12 x84).f0.f2) == bt366.2.2.1)))) || ((!(((rd_T39 x12 x84).f1.f0) == bt366.2.2.2.1) || (!(((rd_T39 x12 x84).f1.f1) == bt366.2.2.2.2.1) || (!(((rd_T39 x12 x84).f1.f2) == bt366.2.2.2.2.2.1) || (!(((rd_T39 x12 x84).f1.f3) == bt366.2.2.2.2.2.2))))))) = true then (none) else (tourlaw5_BonesTell.l0 k x0 x1 x2 x3 x12 x83 (wrap64 (x84 + 1))))) else (none)) else (none)) else ((tourref5_BonesFault.f k x0 (([x1, x2] : List (List (S37))))).bind fun t376 => (if t376 = 0 then (if x3 < 0 then (tourlaw5_BonesTell.j3 k x0 x1 x2 x3 t376 true) else (tourlaw5_BonesTell.j3 k x0 x1 x2 x3 t376 (decide (x3 > 65536)))) else (tourlaw5_BonesTell.j3 k x0 x1 x2 x3 t376 false)))
def tourlaw5_BonesTell.j3 : Nat → List (S35) → List (S37) → List (S37) → Int → Int → Bool → Option (Bool)
 | 0, _, _, _, _, _, _ => none
 | k + 1, x0, x1, x2, x3, x11, x111 => if x111 = true then (tourlaw5_BonesTell.j4 k x0 x1 x2 x3 1) else (tourlaw5_BonesTell.j4 k x0 x1 x2 x3 x11)
def tourlaw5_BonesTell.j4 : Nat → List (S35) → List (S37) → List (S37) → Int → Int → Option (Bool)
 | 0, _, _, _, _, _ => none
 | k + 1, x0, x1, x2, x3, x11 => (bones_Blend.f k x0 x1 x2 x3).bind fun bt377 => (if bt377.2 = x11 then (if x11 = 0 then (tourlaw5_BonesTell.j5 k x1 x2 x3 bt377.1 ((bt377.1.length : Int) != (x0.length : Int))) else (if (bt377.1.length : Int) > 0 then (tourlaw5_BonesTell.j5 k x1 x2 x3 bt377.1 true) else (tourlaw5_BonesTell.j5 k x1 x2 x3 bt377.1 false))) else (tourlaw5_BonesTell.j5 k x1 x2 x3 bt377.1 true))
def tourlaw5_BonesTell.j5 : Nat → List (S37) → List (S37) → Int → List (S37) → Bool → Option (Bool)
 | 0, _, _, _, _, _ => none
 | k + 1, x1, x2, x3, x15, x142 => if x142 = true then (none) else (tourlaw5_BonesTell.l1 k x1 x2 x3 x15 (x15.length : Int) 0)
def tourlaw5_BonesTell.l1 : Nat → List (S37) → List (S37) → Int → List (S37) → Int → Int → Option (Bool)
 | 0, _, _, _, _, _, _ => none
 | k + 1, x1, x2, x3, x15, x144, x145 => if x145 < x144 then (if 0 ≤ x145 then (if x145 < (x15.length : Int) then (if x145 < (x1.length : Int) then (if x145 < (x2.length : Int) then ((quat_Blend.f k ((rd_T37 x1 x145).f0) ((rd_T37 x1 x145).f1) ((rd_T37 x1 x145).f2) ((rd_T37 x1 x145).f3) ((rd_T37 x2 x145).f0) ((rd_T37 x2 x145).f1) ((rd_T37 x2 x145).f2) ((rd_T37 x2 x145).f3) x3).bind fun bt384 => (if (!(((rd_T37 x15 x145).f0) == bt384.1) || (!(((rd_T37 x15 x145).f1) == bt384.2.1) || (!(((rd_T37 x15 x145).f2) == bt384.2.2.1) || (!(((rd_T37 x15 x145).f3) == bt384.2.2.2))))) = true then (none) else (tourlaw5_BonesTell.l1 k x1 x2 x3 x15 x144 (wrap64 (x145 + 1))))) else (none)) else (none)) else (none)) else (none)) else (some true)
end
def tourlaw5_BonesTell.f (k : Nat) (l0 : List (S35)) (l1 : List (S37)) (l2 : List (S37)) (a3 : Int) : Option (Bool) := if 1 ≤ 8796093022208 then ((bones_Rest.f k (List.replicate 1 z35)).bind fun t347 => ((bones_Places.f k (([(⟨(-1), (⟨1, 2, 3⟩ : S33)⟩ : S35)] : List (S35))) t347).bind fun bt350 => (if bt350.2 = 0 then (if (bt350.1.length : Int) = 1 then (if 0 < (bt350.1.length : Int) then (tourlaw5_BonesTell.j0 k l0 l1 l2 a3 (!(((rd_T39 bt350.1 0).f0.f0) == 1) || (!(((rd_T39 bt350.1 0).f0.f1) == 2) || (!(((rd_T39 bt350.1 0).f0.f2) == 3))))) else (none)) else (tourlaw5_BonesTell.j0 k l0 l1 l2 a3 true)) else (tourlaw5_BonesTell.j0 k l0 l1 l2 a3 true)))) else (none)
theorem tourlaw5_BonesTell.mono_l : ∀ k, (∀ y0 y1 y2 y3 y4, LeO (tourlaw5_BonesTell.j0 k y0 y1 y2 y3 y4) (tourlaw5_BonesTell.j0 (k + 1) y0 y1 y2 y3 y4)) ∧ (∀ y0 y1 y2 y3 y4 y5, LeO (tourlaw5_BonesTell.j1 k y0 y1 y2 y3 y4 y5) (tourlaw5_BonesTell.j1 (k + 1) y0 y1 y2 y3 y4 y5)) ∧ (∀ y0 y1 y2 y3 y4 y5 y6, LeO (tourlaw5_BonesTell.l0 k y0 y1 y2 y3 y4 y5 y6) (tourlaw5_BonesTell.l0 (k + 1) y0 y1 y2 y3 y4 y5 y6)) ∧ (∀ y0 y1 y2 y3 y4 y5, LeO (tourlaw5_BonesTell.j3 k y0 y1 y2 y3 y4 y5) (tourlaw5_BonesTell.j3 (k + 1) y0 y1 y2 y3 y4 y5)) ∧ (∀ y0 y1 y2 y3 y4, LeO (tourlaw5_BonesTell.j4 k y0 y1 y2 y3 y4) (tourlaw5_BonesTell.j4 (k + 1) y0 y1 y2 y3 y4)) ∧ (∀ y0 y1 y2 y3 y4, LeO (tourlaw5_BonesTell.j5 k y0 y1 y2 y3 y4) (tourlaw5_BonesTell.j5 (k + 1) y0 y1 y2 y3 y4)) ∧ (∀ y0 y1 y2 y3 y4 y5, LeO (tourlaw5_BonesTell.l1 k y0 y1 y2 y3 y4 y5) (tourlaw5_BonesTell.l1 (k + 1) y0 y1 y2 y3 y4 y5))
 | 0 => ⟨fun _ _ _ _ _ r h => by simp [tourlaw5_BonesTell.j0] at h, fun _ _ _ _ _ _ r h => by simp [tourlaw5_BonesTell.j1] at h, fun _ _ _ _ _ _ _ r h => by simp [tourlaw5_BonesTell.l0] at h, fun _ _ _ _ _ _ r h => by simp [tourlaw5_BonesTell.j3] at h, fun _ _ _ _ _ r h => by simp [tourlaw5_BonesTell.j4] at h, fun _ _ _ _ _ r h => by simp [tourlaw5_BonesTell.j5] at h, fun _ _ _ _ _ _ r h => by simp [tourlaw5_BonesTell.l1] at h⟩
 | k + 1 => by
  obtain ⟨ih0, ih1, ih2, ih3, ih4, ih5, ih6⟩ := tourlaw5_BonesTell.mono_l k
  refine ⟨?_, ?_, ?_, ?_, ?_, ?_, ?_⟩
  ·intro y0 y1 y2 y3 y4
   unfold tourlaw5_BonesTell.j0
   repeat' first
   | (with_reducible exact ih0 _ _ _ _ _)
   | (with_reducible exact ih1 _ _ _ _ _ _)
   | (with_reducible exact ih2 _ _ _ _ _ _ _)
   | (with_reducible exact ih3 _ _ _ _ _ _)
   | (with_reducible exact ih4 _ _ _ _ _)
   | (with_reducible exact ih5 _ _ _ _ _)
   | (with_reducible exact ih6 _ _ _ _ _ _)
   | (with_reducible exact bones_Blend.mono _ _ _ _ _)
   | (with_reducible exact bones_Check.mono _ _)
   | (with_reducible exact bones_Places.mono _ _ _)
   | (with_reducible exact bones_Rest.mono _ _)
   | (with_reducible exact quat_Blend.mono _ _ _ _ _ _ _ _ _ _)
   | (with_reducible exact tourref5_BonesFault.mono _ _ _)
   | (with_reducible exact tourref5_PlaceOf.mono _ _ _ _)
   | (with_reducible exact LeO.refl _)
   | (with_reducible exact LeO.none _)
   | (with_reducible refine LeO.ite ?_ ?_)
   | (with_reducible refine LeO.bind ?_ (fun _ => ?_))
   | exact ih0 _ _ _ _ _
   | exact ih1 _ _ _ _ _ _
   | exact ih2 _ _ _ _ _ _ _
   | exact ih3 _ _ _ _ _ _
   | exact ih4 _ _ _ _ _
   | exact ih5 _ _ _ _ _
   | exact ih6 _ _ _ _ _ _
   | exact bones_Blend.mono _ _ _ _ _
   | exact bones_Check.mono _ _
   | exact bones_Places.mono _ _ _
   | exact bones_Rest.mono _ _
   | exact quat_Blend.mono _ _ _ _ _ _ _ _ _ _
   | exact tourref5_BonesFault.mono _ _ _
   | exact tourref5_PlaceOf.mono _ _ _ _
   | exact LeO.none _
   | refine LeO.ite ?_ ?_
   | refine LeO.bind ?_ (fun _ => ?_)
  ·intro y0 y1 y2 y3 y4 y5
   unfold tourlaw5_BonesTell.j1
   repeat' first
   | (with_reducible exact ih0 _ _ _ _ _)
   | (with_reducible exact ih1 _ _ _ _ _ _)
   | (with_reducible exact ih2 _ _ _ _ _ _ _)
   | (with_reducible exact ih3 _ _ _ _ _ _)
   | (with_reducible exact ih4 _ _ _ _ _)
   | (with_reducible exact ih5 _ _ _ _ _)
   | (with_reducible exact ih6 _ _ _ _ _ _)
   | (with_reducible exact bones_Blend.mono _ _ _ _ _)
   | (with_reducible exact bones_Check.mono _ _)
   | (with_reducible exact bones_Places.mono _ _ _)
   | (with_reducible exact bones_Rest.mono _ _)
   | (with_reducible exact quat_Blend.mono _ _ _ _ _ _ _ _ _ _)
   | (with_reducible exact tourref5_BonesFault.mono _ _ _)
   | (with_reducible exact tourref5_PlaceOf.mono _ _ _ _)
   | (with_reducible exact LeO.refl _)
   | (with_reducible exact LeO.none _)
   | (with_reducible refine LeO.ite ?_ ?_)
   | (with_reducible refine LeO.bind ?_ (fun _ => ?_))
   | exact ih0 _ _ _ _ _
   | exact ih1 _ _ _ _ _ _
   | exact ih2 _ _ _ _ _ _ _
   | exact ih3 _ _ _ _ _ _
   | exact ih4 _ _ _ _ _
   | exact ih5 _ _ _ _ _
   | exact ih6 _ _ _ _ _ _
   | exact bones_Blend.mono _ _ _ _ _
   | exact bones_Check.mono _ _
   | exact bones_Places.mono _ _ _
   | exact bones_Rest.mono _ _
   | exact quat_Blend.mono _ _ _ _ _ _ _ _ _ _
   | exact tourref5_BonesFault.mono _ _ _
   | exact tourref5_PlaceOf.mono _ _ _ _
   | exact LeO.none _
   | refine LeO.ite ?_ ?_
   | refine LeO.bind ?_ (fun _ => ?_)
  ·intro y0 y1 y2 y3 y4 y5 y6
   unfold tourlaw5_BonesTell.l0
   repeat' first
   | (with_reducible exact ih0 _ _ _ _ _)
   | (with_reducible exact ih1 _ _ _ _ _ _)
   | (with_reducible exact ih2 _ _ _ _ _ _ _)
   | (with_reducible exact ih3 _ _ _ _ _ _)
   | (with_reducible exact ih4 _ _ _ _ _)
   | (with_reducible exact ih5 _ _ _ _ _)
   | (with_reducible exact ih6 _ _ _ _ _ _)
   | (with_reducible exact bones_Blend.mono _ _ _ _ _)
   | (with_reducible exact bones_Check.mono _ _)
   | (with_reducible exact bones_Places.mono _ _ _)
   | (with_reducible exact bones_Rest.mono _ _)
   | (with_reducible exact quat_Blend.mono _ _ _ _ _ _ _ _ _ _)
   | (with_reducible exact tourref5_BonesFault.mono _ _ _)
   | (with_reducible exact tourref5_PlaceOf.mono _ _ _ _)
   | (with_reducible exact LeO.refl _)
   | (with_reducible exact LeO.none _)
   | (with_reducible refine LeO.ite ?_ ?_)
   | (with_reducible refine LeO.bind ?_ (fun _ => ?_))
   | exact ih0 _ _ _ _ _
   | exact ih1 _ _ _ _ _ _
   | exact ih2 _ _ _ _ _ _ _
   | exact ih3 _ _ _ _ _ _
   | exact ih4 _ _ _ _ _
   | exact ih5 _ _ _ _ _
   | exact ih6 _ _ _ _ _ _
   | exact bones_Blend.mono _ _ _ _ _
   | exact bones_Check.mono _ _
   | exact bones_Places.mono _ _ _
   | exact bones_Rest.mono _ _
   | exact quat_Blend.mono _ _ _ _ _ _ _ _ _ _
   | exact tourref5_BonesFault.mono _ _ _
   | exact tourref5_PlaceOf.mono _ _ _ _
   | exact LeO.none _
   | refine LeO.ite ?_ ?_
   | refine LeO.bind ?_ (fun _ => ?_)
  ·intro y0 y1 y2 y3 y4 y5
   unfold tourlaw5_BonesTell.j3
   repeat' first
   | (with_reducible exact ih0 _ _ _ _ _)
   | (with_reducible exact ih1 _ _ _ _ _ _)
   | (with_reducible exact ih2 _ _ _ _ _ _ _)
   | (with_reducible exact ih3 _ _ _ _ _ _)
   | (with_reducible exact ih4 _ _ _ _ _)
   | (with_reducible exact ih5 _ _ _ _ _)
   | (with_reducible exact ih6 _ _ _ _ _ _)
   | (with_reducible exact bones_Blend.mono _ _ _ _ _)
   | (with_reducible exact bones_Check.mono _ _)
   | (with_reducible exact bones_Places.mono _ _ _)
   | (with_reducible exact bones_Rest.mono _ _)
   | (with_reducible exact quat_Blend.mono _ _ _ _ _ _ _ _ _ _)
   | (with_reducible exact tourref5_BonesFault.mono _ _ _)
   | (with_reducible exact tourref5_PlaceOf.mono _ _ _ _)
   | (with_reducible exact LeO.refl _)
   | (with_reducible exact LeO.none _)
   | (with_reducible refine LeO.ite ?_ ?_)
   | (with_reducible refine LeO.bind ?_ (fun _ => ?_))
   | exact ih0 _ _ _ _ _
   | exact ih1 _ _ _ _ _ _
   | exact ih2 _ _ _ _ _ _ _
   | exact ih3 _ _ _ _ _ _
   | exact ih4 _ _ _ _ _
   | exact ih5 _ _ _ _ _
   | exact ih6 _ _ _ _ _ _
   | exact bones_Blend.mono _ _ _ _ _
   | exact bones_Check.mono _ _
   | exact bones_Places.mono _ _ _
   | exact bones_Rest.mono _ _
   | exact quat_Blend.mono _ _ _ _ _ _ _ _ _ _
   | exact tourref5_BonesFault.mono _ _ _
   | exact tourref5_PlaceOf.mono _ _ _ _
   | exact LeO.none _
   | refine LeO.ite ?_ ?_
   | refine LeO.bind ?_ (fun _ => ?_)
  ·intro y0 y1 y2 y3 y4
   unfold tourlaw5_BonesTell.j4
   repeat' first
   | (with_reducible exact ih0 _ _ _ _ _)
   | (with_reducible exact ih1 _ _ _ _ _ _)
   | (with_reducible exact ih2 _ _ _ _ _ _ _)
   | (with_reducible exact ih3 _ _ _ _ _ _)
   | (with_reducible exact ih4 _ _ _ _ _)
   | (with_reducible exact ih5 _ _ _ _ _)
   | (with_reducible exact ih6 _ _ _ _ _ _)
   | (with_reducible exact bones_Blend.mono _ _ _ _ _)
   | (with_reducible exact bones_Check.mono _ _)
   | (with_reducible exact bones_Places.mono _ _ _)
   | (with_reducible exact bones_Rest.mono _ _)
   | (with_reducible exact quat_Blend.mono _ _ _ _ _ _ _ _ _ _)
   | (with_reducible exact tourref5_BonesFault.mono _ _ _)
   | (with_reducible exact tourref5_PlaceOf.mono _ _ _ _)
   | (with_reducible exact LeO.refl _)
   | (with_reducible exact LeO.none _)
   | (with_reducible refine LeO.ite ?_ ?_)
   | (with_reducible refine LeO.bind ?_ (fun _ => ?_))
   | exact ih0 _ _ _ _ _
   | exact ih1 _ _ _ _ _ _
   | exact ih2 _ _ _ _ _ _ _
   | exact ih3 _ _ _ _ _ _
   | exact ih4 _ _ _ _ _
   | exact ih5 _ _ _ _ _
   | exact ih6 _ _ _ _ _ _
   | exact bones_Blend.mono _ _ _ _ _
   | exact bones_Check.mono _ _
   | exact bones_Places.mono _ _ _
   | exact bones_Rest.mono _ _
   | exact quat_Blend.mono _ _ _ _ _ _ _ _ _ _
   | exact tourref5_BonesFault.mono _ _ _
   | exact tourref5_PlaceOf.mono _ _ _ _
   | exact LeO.none _
   | refine LeO.ite ?_ ?_
   | refine LeO.bind ?_ (fun _ => ?_)
  ·intro y0 y1 y2 y3 y4
   unfold tourlaw5_BonesTell.j5
   repeat' first
   | (with_reducible exact ih0 _ _ _ _ _)
   | (with_reducible exact ih1 _ _ _ _ _ _)
   | (with_reducible exact ih2 _ _ _ _ _ _ _)
   | (with_reducible exact ih3 _ _ _ _ _ _)
   | (with_reducible exact ih4 _ _ _ _ _)
   | (with_reducible exact ih5 _ _ _ _ _)
   | (with_reducible exact ih6 _ _ _ _ _ _)
   | (with_reducible exact bones_Blend.mono _ _ _ _ _)
   | (with_reducible exact bones_Check.mono _ _)
   | (with_reducible exact bones_Places.mono _ _ _)
   | (with_reducible exact bones_Rest.mono _ _)
   | (with_reducible exact quat_Blend.mono _ _ _ _ _ _ _ _ _ _)
   | (with_reducible exact tourref5_BonesFault.mono _ _ _)
   | (with_reducible exact tourref5_PlaceOf.mono _ _ _ _)
   | (with_reducible exact LeO.refl _)
   | (with_reducible exact LeO.none _)
   | (with_reducible refine LeO.ite ?_ ?_)
   | (with_reducible refine LeO.bind ?_ (fun _ => ?_))
   | exact ih0 _ _ _ _ _
   | exact ih1 _ _ _ _ _ _
   | exact ih2 _ _ _ _ _ _ _
   | exact ih3 _ _ _ _ _ _
   | exact ih4 _ _ _ _ _
   | exact ih5 _ _ _ _ _
   | exact ih6 _ _ _ _ _ _
   | exact bones_Blend.mono _ _ _ _ _
   | exact bones_Check.mono _ _
   | exact bones_Places.mono _ _ _
   | exact bones_Rest.mono _ _
   | exact quat_Blend.mono _ _ _ _ _ _ _ _ _ _
   | exact tourref5_BonesFault.mono _ _ _
   | exact tourref5_PlaceOf.mono _ _ _ _
   | exact LeO.none _
   | refine LeO.ite ?_ ?_
   | refine LeO.bind ?_ (fun _ => ?_)
  ·intro y0 y1 y2 y3 y4 y5
   unfold tourlaw5_BonesTell.l1
   repeat' first
   | (with_reducible exact ih0 _ _ _ _ _)
   | (with_reducible exact ih1 _ _ _ _ _ _)
   | (with_reducible exact ih2 _ _ _ _ _ _ _)
   | (with_reducible exact ih3 _ _ _ _ _ _)
   | (with_reducible exact ih4 _ _ _ _ _)
   | (with_reducible exact ih5 _ _ _ _ _)
   | (with_reducible exact ih6 _ _ _ _ _ _)
   | (with_reducible exact bones_Blend.mono _ _ _ _ _)
   | (with_reducible exact bones_Check.mono _ _)
   | (with_reducible exact bones_Places.mono _ _ _)
   | (with_reducible exact bones_Rest.mono _ _)
   | (with_reducible exact quat_Blend.mono _ _ _ _ _ _ _ _ _ _)
   | (with_reducible exact tourref5_BonesFault.mono _ _ _)
   | (with_reducible exact tourref5_PlaceOf.mono _ _ _ _)
   | (with_reducible exact LeO.refl _)
   | (with_reducible exact LeO.none _)
   | (with_reducible refine LeO.ite ?_ ?_)
   | (with_reducible refine LeO.bind ?_ (fun _ => ?_))
   | exact ih0 _ _ _ _ _
   | exact ih1 _ _ _ _ _ _
   | exact ih2 _ _ _ _ _ _ _
   | exact ih3 _ _ _ _ _ _
   | exact ih4 _ _ _ _ _
   | exact ih5 _ _ _ _ _
   | exact ih6 _ _ _ _ _ _
   | exact bones_Blend.mono _ _ _ _ _
   | exact bones_Check.mono _ _
   | exact bones_Places.mono _ _ _
   | exact bones_Rest.mono _ _
   | exact quat_Blend.mono _ _ _ _ _ _ _ _ _ _
   | exact tourref5_BonesFault.mono _ _ _
   | exact tourref5_PlaceOf.mono _ _ _ _
   | exact LeO.none _
   | refine LeO.ite ?_ ?_
   | refine LeO.bind ?_ (fun _ => ?_)
theorem tourlaw5_BonesTell.mono : ∀ a0 a1 a2 a3 k, LeO (tourlaw5_BonesTell.f k a0 a1 a2 a3) (tourlaw5_BonesTell.f (k + 1) a0 a1 a2 a3) := by
 intro a0 a1 a2 a3 k
 obtain ⟨ih0, ih1, ih2, ih3, ih4, ih5, ih6⟩ := tourlaw5_BonesTell.mono_l k
 unfold tourlaw5_BonesTell.f
 repeat' first
   | (with_reducible exact ih0 _ _ _ _ _)
   | (with_reducible exact ih1 _ _ _ _ _ _)
   | (with_reducible exact ih2 _ _ _ _ _ _ _)
   | (with_reducible exact ih3 _ _ _ _ _ _)
   | (with_reducible exact ih4 _ _ _ _ _)
   | (with_reducible exact ih5 _ _ _ _ _)
   | (with_reducible exact ih6 _ _ _ _ _ _)
   | (with_reducible exact bones_Blend.mono _ _ _ _ _)
   | (with_reducible exact bones_Check.mono _ _)
   | (with_reducible exact bones_Places.mono _ _ _)
   | (with_reducible exact bones_Rest.mono _ _)
   | (with_reducible exact quat_Blend.mono _ _ _ _ _ _ _ _ _ _)
   | (with_reducible exact tourref5_BonesFault.mono _ _ _)
   | (with_reducible exact tourref5_PlaceOf.mono _ _ _ _)
   | (with_reducible exact LeO.refl _)
   | (with_reducible exact LeO.none _)
   | (with_reducible refine LeO.ite ?_ ?_)
   | (with_reducible refine LeO.bind ?_ (fun _ => ?_))
   | exact ih0 _ _ _ _ _
   | exact ih1 _ _ _ _ _ _
   | exact ih2 _ _ _ _ _ _ _
   | exact ih3 _ _ _ _ _ _
   | exact ih4 _ _ _ _ _
   | exact ih5 _ _ _ _ _
   | exact ih6 _ _ _ _ _ _
   | exact bones_Blend.mono _ _ _ _ _
   | exact bones_Check.mono _ _
   | exact bones_Places.mono _ _ _
   | exact bones_Rest.mono _ _
   | exact quat_Blend.mono _ _ _ _ _ _ _ _ _ _
   | exact tourref5_BonesFault.mono _ _ _
   | exact tourref5_PlaceOf.mono _ _ _ _
   | exact LeO.none _
   | refine LeO.ite ?_ ?_
   | refine LeO.bind ?_ (fun _ => ?_)
def tourlaw5_BonesTell.T11 : Bool × List (List Nat × List Nat) := (true, [([], []), ([], []), ([0, 1], [0, 1]), ([2], [2]), ([], []), ([], []), ([], []), ([4, 5, 6], [4, 5, 6]), ([3, 7], [3, 7])])
def tourlaw5_BonesTell.B11 : List Nat := [0, 0, 3, 7, 0, 0, 0, 112, 255]
theorem tourlaw5_BonesTell.tab11 : rtab .any (opsOf Try.f5 11) = tourlaw5_BonesTell.T11 := by kernel_rfl
theorem tourlaw5_BonesTell.bits11 : waitsOk tourlaw5_BonesTell.T11.2 tourlaw5_BonesTell.B11 = true := by kernel_rfl
def tourlaw5_BonesTell.T23 : Bool × List (List Nat × List Nat) := (true, [([], []), ([], []), ([0, 1], [0, 1]), ([2], [2]), ([], []), ([], []), ([4, 5], [4, 5]), ([6], [6]), ([], []), ([], []), ([8, 9], [8, 9]), ([10], [10]), ([], []), ([7, 11, 12], [7, 11, 12]), ([3, 13], [3, 13])])
def tourlaw5_BonesTell.B23 : List Nat := [0, 0, 3, 7, 0, 0, 48, 112, 0, 0, 768, 1792, 0, 8176, 16383]
theorem tourlaw5_BonesTell.tab23 : rtab .any (opsOf Try.f5 23) = tourlaw5_BonesTell.T23 := by kernel_rfl
theorem tourlaw5_BonesTell.bits23 : waitsOk tourlaw5_BonesTell.T23.2 tourlaw5_BonesTell.B23 = true := by kernel_rfl
set_option maxHeartbeats 8000000 in
set_option maxRecDepth 100000 in
theorem tourlaw5_BonesTell.calls (k : Nat) (A0 : Option Addr) (c0 : Nat) (l0 : List (S35)) (P1_ : Nat → Prop) (A1 : Option Addr) (c1 : Nat) (l1 : List (S37)) (P2_ : Nat → Prop) (A2 : Option Addr) (c2 : Nat) (l2 : List (S37)) (a3 : Int) (r : Bool) (w : World) (hr0 : Kd.C k35 w A0 l0.length l0) (hc0 : l0.length ≤ c0) (hs1 : Kd.V k37 37 w w.heap.size (fun k_ => P1_ k_) (.slice A1 l1.length c1) l1) (hs2 : Kd.V k37 37 w w.heap.size (fun k_ => P2_ k_) (.slice A2 l2.length c2) l2) (h : tourlaw5_BonesTell.f k l0 l1 l2 a3 = some r) :
  Calls Try.prog 5 #[.slice A0 l0.length c0, .slice A1 l1.length c1, .slice A2 l2.length c2, .int .i64 a3] w fun e w' => e = .returned (.bool r) ∧ Below w.heap.size w w' := by
 have hu33 := Try.underlying33
 have hu35 := Try.underlying35
 have hu39 := Try.underlying39
 have hu37 := Try.underlying37
 have HR0 := Aside0.mk hr0
 have HC0 := Aside0.mk hc0
 clear hr0 hc0
 have HO1 := Aside0.mk (show Kd.V k37 37 w w.heap.size (fun k_ => ((P1_ k_ ∨ P2_ k_) ∨ w.heap.size ≤ k_)) (.slice A1 l1.length c1) l1 from Kd.V_mono hs1 (fun k_ hk => .inl (.inl hk)))
 have HO2 := Aside0.mk (show Kd.V k37 37 w w.heap.size (fun k_ => ((P1_ k_ ∨ P2_ k_) ∨ w.heap.size ≤ k_)) (.slice A2 l2.length c2) l2 from Kd.V_mono hs2 (fun k_ hk => .inl (.inr hk)))
 have HB := Aside0.mk (Below.refl w.heap.size w)
 have H : (if 1 ≤ 8796093022208 then ((bones_Rest.f k (List.replicate 1 z35)).bind fun t347 => ((bones_Places.f k (([(⟨(-1), (⟨1, 2, 3⟩ : S33)⟩ : S35)] : List (S35))) t347).bind fun bt350 => (if bt350.2 = 0 then (if (bt350.1.length : Int) = 1 then (if 0 < (bt350.1.length : Int) then (tourlaw5_BonesTell.j0 k l0 l1 l2 a3 (!(((rd_T39 bt350.1 0).f0.f0) == 1) || (!(((rd_T39 bt350.1 0).f0.f1) == 2) || (!(((rd_T39 bt350.1 0).f0.f2) == 3))))) else (none)) else (tourlaw5_BonesTell.j0 k l0 l1 l2 a3 true)) else (tourlaw5_BonesTell.j0 k l0 l1 l2 a3 true)))) else (none)) = some r := h
 clear h
 obtain ⟨y341, hy341⟩ : ∃ y_ : List (S35), y_ = (([(⟨(-1), (⟨1, 2, 3⟩ : S33)⟩ : S35)] : List (S35))) := ⟨_, rfl⟩
 replace H : (if 1 ≤ 8796093022208 then ((bones_Rest.f k (List.replicate 1 z35)).bind fun t347 => ((bones_Places.f k y341 t347).bind fun bt350 => (if bt350.2 = 0 then (if (bt350.1.length : Int) = 1 then (if 0 < (bt350.1.length : Int) then (tourlaw5_BonesTell.j0 k l0 l1 l2 a3 (!(((rd_T39 bt350.1 0).f0.f0) == 1) || (!(((rd_T39 bt350.1 0).f0.f1) == 2) || (!(((rd_T39 bt350.1 0).f0.f2) == 3))))) else (none)) else (tourlaw5_BonesTell.j0 k l0 l1 l2 a3 true)) else (tourlaw5_BonesTell.j0 k l0 l1 l2 a3 true)))) else (none)) = some r := by first | (rw [hy341]; with_reducible exact H) | (have H2_ := (Option.bind_some _ _).symm.trans H; rw [hy341]; with_reducible exact H2_) | (have H2_ := (Option.bind_some _ _).symm.trans H; with_reducible exact H2_) | with_reducible exact H | (rw [hy341]; exact H) | exact H
 have Ny341 := Aside0.mk hy341
 clear hy341
 by_cases c5 : 1 ≤ 8796093022208
 ·rw [if_pos c5] at H
  have c5b0 := eq_true c5
  have c5b1 : decide (1 ≤ 8796093022208) = true := decide_eq_true c5
  clear c5
  obtain ⟨y344, hy344⟩ : ∃ y_ : List (S35), y_ = (List.replicate 1 z35) := ⟨_, rfl⟩
  replace H : ((bones_Rest.f k y344).bind fun t347 => ((bones_Places.f k y341 t347).bind fun bt350 => (if bt350.2 = 0 then (if (bt350.1.length : Int) = 1 then (if 0 < (bt350.1.length : Int) then (tourlaw5_BonesTell.j0 k l0 l1 l2 a3 (!(((rd_T39 bt350.1 0).f0.f0) == 1) || (!(((rd_T39 bt350.1 0).f0.f1) == 2) || (!(((rd_T39 bt350.1 0).f0.f2) == 3))))) else (none)) else (tourlaw5_BonesTell.j0 k l0 l1 l2 a3 true)) else (tourlaw5_BonesTell.j0 k l0 l1 l2 a3 true)))) = some r := by first | (rw [hy344]; with_reducible exact H) | (have H2_ := (Option.bind_some _ _).symm.trans H; rw [hy344]; with_reducible exact H2_) | (have H2_ := (Option.bind_some _ _).symm.trans H; with_reducible exact H2_) | with_reducible exact H | (rw [hy344]; exact H) | exact H
  have Ny344 := Aside0.mk hy344
  clear hy344
  replace H := Option.bind_eq_some_iff.mp H
  obtain ⟨t347, A60, H⟩ := H
  replace H : ((bones_Places.f k y341 t347).bind fun bt350 => (if bt350.2 = 0 then (if (bt350.1.length : Int) = 1 then (if 0 < (bt350.1.length : Int) then (tourlaw5_BonesTell.j0 k l0 l1 l2 a3 (!(((rd_T39 bt350.1 0).f0.f0) == 1) || (!(((rd_T39 bt350.1 0).f0.f1) == 2) || (!(((rd_T39 bt350.1 0).f0.f2) == 3))))) else (none)) else (tourlaw5_BonesTell.j0 k l0 l1 l2 a3 true)) else (tourlaw5_BonesTell.j0 k l0 l1 l2 a3 true))) = some r := H
  have A6 := Aside0.mk A60
  clear A60
  replace H := Option.bind_eq_some_iff.mp H
  obtain ⟨⟨t350, t351⟩, A70, H⟩ := H
  replace H : (if t351 = 0 then (if (t350.length : Int) = 1 then (if 0 < (t350.length : Int) then (tourlaw5_BonesTell.j0 k l0 l1 l2 a3 (!(((rd_T39 t350 0).f0.f0) == 1) || (!(((rd_T39 t350 0).f0.f1) == 2) || (!(((rd_T39 t350 0).f0.f2) == 3))))) else (none)) else (tourlaw5_BonesTell.j0 k l0 l1 l2 a3 true)) else (tourlaw5_BonesTell.j0 k l0 l1 l2 a3 true)) = some r := H
  have A7 := Aside0.mk A70
  clear A70
  have HC8 := Aside0.mk H
  clear H
  go_enter Try.func5, Try.ntmps5
  go_upto_region 2 with (first | ((with_reducible refine gate_dst (N := 21) rfl ?_); (try (refine gate_guard (by rfl) ?_; dsimp only)); refine Kd.R_lit k35 _ 35 ?hg (N := 21) ?hd (xs := ([(⟨(-1), (⟨1, 2, 3⟩ : S33)⟩ : S35)] : List (S35))) (inner := [.int .i64 (-1), .int .i64 1, .int .i64 2, .int .i64 3]) (ok := fun _ => True) (okp := fun _ => True) ?hr ?hp (fun _ hk => hk) trivial (Below.refl _ _) (Nat.le_refl _) (by simp) ?_; (case hd => rfl); (case hg => rfl); (case hr => first | (go_simp; done) | (go_simp; rfl)); (case hp => exact (Reps.c4 (show Kd.M k35 _ _ _ (⟨(-1), (⟨1, 2, 3⟩ : S33)⟩ : S35) [.int .i64 (-1), .int .i64 1, .int .i64 2, .int .i64 3] from (k35_mkM _ _ _ (⟨(-1), (⟨1, 2, 3⟩ : S33)⟩ : S35) )) (Reps.none _ _))); intro v342 w9 ho10 hb hg_ hnew_; clear hg_ hnew_; (first | rw [← Ny341.out] at ho10 | (simp only [Int.reduceToNat] at ho10; rw [← Ny341.out] at ho10)); have n0_ := Aside0.mk (Kd.V_elder' (by (with_reducible repeat (first | apply Kd.V_alloc | apply Kd.V_drewN | apply Kd.V_drew)); exact HO1.out) (Kd.R_base ho10) hb); have n1_ := Aside0.mk (Kd.V_elder' (by (with_reducible repeat (first | apply Kd.V_alloc | apply Kd.V_drewN | apply Kd.V_drew)); exact HO2.out) (Kd.R_base ho10) hb); have n2_ := Aside0.mk (Kd.R_lower (Kd.R_newM (M := fun k_ => (w.heap.size ≤ k_)) ho10 (below_size (by repeat (first | (with_reducible first | exact HB.out | apply below_alloc | apply pw_below_drewN | apply below_drew1) | exact HB.out))) (fun k_ h_ => h_)) (below_size (by repeat (first | (with_reducible first | exact HB.out | apply below_alloc | apply pw_below_drewN | apply below_drew1) | exact HB.out)))); have n3_ := Aside0.mk (below_step (by repeat (first | (with_reducible first | exact HB.out | apply below_alloc | apply pw_below_drewN | apply below_drew1) | exact HB.out)) hb); clear HO1; clear HO2; clear HB; have HO1 := n0_; have HO2 := n1_; have HO343 := n2_; have HB := n3_; clear n0_ n1_ n2_ n3_; clear hb ho10) | ((with_reducible refine gate_dst (N := 22) rfl ?_); (try (refine gate_guard (by rfl) ?_; dsimp only)); refine Kd.R_make k35 _ 35 rfl (N := 22) rfl 24 _ _ rfl 1 rfl rfl Try.underlying24 (.agg #[(.int .i64 0), (.int .i64 0), (.int .i64 0), (.int .i64 0)]) 32 info35 rfl (by decide) (by omega) z35 (ok := fun _ => True) (okp := fun _ => True) (k35_mkM _ _ _ z35 ) (fun _ hk => hk) trivial (by omega) (by omega) (Below.refl _ _) (Nat.le_refl _) ?_; intro v345 w11 ho12 hb hg_ hnew_; clear hg_ hnew_; (first | rw [← Ny344.out] at ho12 | (simp only [Int.reduceToNat] at ho12; rw [← Ny344.out] at ho12)); have n0_ := Aside0.mk (Kd.V_elder' (by (with_reducible repeat (first | apply Kd.V_alloc | apply Kd.V_drewN | apply Kd.V_drew)); exact HO1.out) (Kd.R_base ho12) hb); have n1_ := Aside0.mk (Kd.V_elder' (by (with_reducible repeat (first | apply Kd.V_alloc | apply Kd.V_drewN | apply Kd.V_drew)); exact HO2.out) (Kd.R_base ho12) hb); have n2_ := Aside0.mk (Kd.R_elder' (by (with_reducible repeat (first | apply Kd.R_alloc | apply Kd.R_drewN | apply Kd.R_drew)); exact HO343.out) (Kd.R_base ho12) hb); have n3_ := Aside0.mk (Kd.R_lower (Kd.R_new' (Kd.R_newM (M := fun k_ => (w.heap.size ≤ k_)) ho12 (below_size (by repeat (first | (with_reducible first | exact HB.out | apply below_alloc | apply pw_below_drewN | apply below_drew1) | exact HB.out))) (fun k_ h_ => h_)) (Kd.R_lt (by (with_reducible repeat (first | apply Kd.R_alloc | apply Kd.R_drewN | apply Kd.R_drew)); exact HO343.out))) (below_size (by repeat (first | (with_reducible first | exact HB.out | apply below_alloc | apply pw_below_drewN | apply below_drew1) | exact HB.out)))); have n4_ := Aside0.mk (below_step (by repeat (first | (with_reducible first | exact HB.out | apply below_alloc | apply pw_below_drewN | apply below_drew1) | exact HB.out)) hb); clear HO1; clear HO2; clear HO343; clear HB; have HO1 := n0_; have HO2 := n1_; have HO343 := n2_; have HO346 := n3_; have HB := n4_; clear n0_ n1_ n2_ n3_ n4_; clear hb ho12; obtain ⟨Ao13, co13, eo13⟩ := Kd.R_slice HO346.out; subst eo13) | ((with_reducible refine gate_callee (f := 11) rfl ?_); refine goesL_ (some 23) rfl rfl Try.func11 (by kernel_rfl) rfl #[.slice Ao13 y344.length co13] rfl (by (try simp only [zm1, zm2, zm3]); first | done | rfl) ?_; (with_reducible refine (bones_Rest.calls k _ _ y344 t347 _ ?side1 ?side2 A6.out).mono ?_); (case side1 => repeat (first | exact (Kd.R_reads' HO346.out).2.2 | (with_reducible refine Kd.C_alloc ?_ _) | (with_reducible refine Kd.C_drewN ?_ _) | (with_reducible refine Kd.C_drew ?_))); (case side2 => exact (Kd.R_reads' HO346.out).2.1); rintro e w14 ⟨v348, rfl, ho0, hb⟩; refine ⟨_, rfl, ?_⟩; have n0_ := Aside0.mk (Kd.V_elder' (by (with_reducible repeat (first | apply Kd.V_alloc | apply Kd.V_drewN | apply Kd.V_drew)); exact HO1.out) (Kd.R_base ho0) hb); have n1_ := Aside0.mk (Kd.V_elder' (by (with_reducible repeat (first | apply Kd.V_alloc | apply Kd.V_drewN | apply Kd.V_drew)); exact HO2.out) (Kd.R_base ho0) hb); have n2_ := Aside0.mk (Kd.R_below (by (with_reducible repeat (first | apply Kd.R_alloc | apply Kd.R_drewN | apply Kd.R_drew)); exact HO343.out) hb); have n3_ := Aside0.mk (Kd.R_below (by (with_reducible repeat (first | apply Kd.R_alloc | apply Kd.R_drewN | apply Kd.R_drew)); exact HO346.out) hb); have n4_ := Aside0.mk (Kd.R_lower (Kd.R_newM (M := fun k_ => (w.heap.size ≤ k_)) ho0 (below_size (by repeat (first | (with_reducible first | exact HB.out | apply below_alloc | apply pw_below_drewN | apply below_drew1) | exact HB.out))) (fun k_ h_ => h_)) (below_size (by repeat (first | (with_reducible first | exact HB.out | apply below_alloc | apply pw_below_drewN | apply below_drew1) | exact HB.out)))); have n5_ := Aside0.mk (below_step (by repeat (first | (with_reducible first | exact HB.out | apply below_alloc | apply pw_below_drewN | apply below_drew1) | exact HB.out)) hb); clear HO1; clear HO2; clear HO343; clear HO346; clear HB; have HO1 := n0_; have HO2 := n1_; have HO343 := n2_; have HO346 := n3_; have HO349 := n4_; have HB := n5_; clear n0_ n1_ n2_ n3_ n4_ n5_; (try clear hb); (try clear hb2); (try clear hk); (try clear hi); (try clear ho0); obtain ⟨Ao15, co15, eo15⟩ := Kd.R_slice HO343.out; subst eo15; obtain ⟨Ao16, co16, eo16⟩ := Kd.R_slice HO349.out; subst eo16) | ((with_reducible refine gate_callee (f := 10) rfl ?_); refine goesL_ (some 24) rfl rfl Try.func10 (by kernel_rfl) rfl #[.slice Ao15 y341.length co15, .slice Ao16 t347.length co16] rfl (by (try simp only [zm1, zm2, zm3]); first | done | rfl) ?_; (with_reducible refine (bones_Places.calls k _ _ y341 _ _ t347 t350 t351 _ ?side1 ?side2 ?side3 ?side4 A7.out).mono ?_); (case side1 => repeat (first | exact (Kd.R_reads' HO343.out).2.2 | (with_reducible refine Kd.C_alloc ?_ _) | (with_reducible refine Kd.C_drewN ?_ _) | (with_reducible refine Kd.C_drew ?_))); (case side2 => exact (Kd.R_reads' HO343.out).2.1); (case side3 => repeat (first | exact (Kd.R_reads' HO349.out).2.2 | (with_reducible refine Kd.C_alloc ?_ _) | (with_reducible refine Kd.C_drewN ?_ _) | (with_reducible refine Kd.C_drew ?_))); (case side4 => exact (Kd.R_reads' HO349.out).2.1); rintro e w17 ⟨v352, rfl, ho0, hb⟩; refine ⟨_, rfl, ?_⟩; have n0_ := Aside0.mk (Kd.V_elder' (by (with_reducible repeat (first | apply Kd.V_alloc | apply Kd.V_drewN | apply Kd.V_drew)); exact HO1.out) (Kd.R_base ho0) hb); have n1_ := Aside0.mk (Kd.V_elder' (by (with_reducible repeat (first | apply Kd.V_alloc | apply Kd.V_drewN | apply Kd.V_drew)); exact HO2.out) (Kd.R_base ho0) hb); have n2_ := Aside0.mk (Kd.R_below (by (with_reducible repeat (first | apply Kd.R_alloc | apply Kd.R_drewN | apply Kd.R_drew)); exact HO343.out) hb); have n3_ := Aside0.mk (Kd.R_below (by (with_reducible repeat (first | apply Kd.R_alloc | apply Kd.R_drewN | apply Kd.R_drew)); exact HO346.out) hb); have n4_ := Aside0.mk (Kd.R_below (by (with_reducible repeat (first | apply Kd.R_alloc | apply Kd.R_drewN | apply Kd.R_drew)); exact HO349.out) hb); have n5_ := Aside0.mk (Kd.R_lower (Kd.R_newM (M := fun k_ => (w.heap.size ≤ k_)) ho0 (below_size (by repeat (first | (with_reducible first | exact HB.out | apply below_alloc | apply pw_below_drewN | apply below_drew1) | exact HB.out))) (fun k_ h_ => h_)) (below_size (by repeat (first | (with_reducible first | exact HB.out | apply below_alloc | apply pw_below_drewN | apply below_drew1) | exact HB.out)))); have n6_ := Aside0.mk (below_step (by repeat (first | (with_reducible first | exact HB.out | apply below_alloc | apply pw_below_drewN | apply below_drew1) | exact HB.out)) hb); clear HO1; clear HO2; clear HO343; clear HO346; clear HO349; clear HB; have HO1 := n0_; have HO2 := n1_; have HO343 := n2_; have HO346 := n3_; have HO349 := n4_; have HO353 := n5_; have HB := n6_; clear n0_ n1_ n2_ n3_ n4_ n5_ n6_; (try clear hb); (try clear hb2); (try clear hk); (try clear hi); (try clear ho0)))
  (try simp only [Act.put, zq1, zq2, zq3])
  go_cut [41] (fun v41 wc => ∃ (kq : Nat) (x41_7 : Bool), v41 = .bool x41_7 ∧ Aside0 (tourlaw5_BonesTell.j0 kq l0 l1 l2 a3 x41_7 = some r) ∧ Aside0 (kq ≤ k) ∧ Aside0 (Kd.V k37 37 wc w.heap.size (fun k_ => ((P1_ k_ ∨ P2_ k_) ∨ w.heap.size ≤ k_)) (.slice A1 l1.length c1) l1) ∧ Aside0 (Kd.V k37 37 wc w.heap.size (fun k_ => ((P1_ k_ ∨ P2_ k_) ∨ w.heap.size ≤ k_)) (.slice A2 l2.length c2) l2) ∧ Aside0 (Below w.heap.size w wc))
  case first =>
   have H := HC8.out
   clear HC8
   by_cases c18 : t351 = 0
   ·rw [if_pos c18] at H
    have c18b0 : (t351 == 0) = true := beq_iff_eq.mpr c18
    have c18b1 : (t351 != 0) = false := bne_eq_false_iff_eq.mpr c18
    clear c18
    (first | rw [c18b0] | (simp only [i64_w, i32_w]; rw [c18b0]) | skip)
    by_cases c19 : (t350.length : Int) = 1
    ·rw [if_pos c19] at H
     have c19b0 : ((t350.length : Int) == 1) = true := beq_iff_eq.mpr c19
     have c19b1 : ((t350.length : Int) != 1) = false := bne_eq_false_iff_eq.mpr c19
     clear c19
     by_cases c20 : 0 < (t350.length : Int)
     ·rw [if_pos c20] at H
      have c20b0 : decide (0 < (t350.length : Int)) = true := decide_eq_true c20
      have c20b1 : decide (0 < t350.length) = true := decide_eq_true (by omega)
      clear c20
      have H' := Aside0.mk H
      clear H
      obtain ⟨Ao21, co21, eo21⟩ := Kd.R_slice HO353.out
      subst eo21
      have p354 : 0 ≤ (0 : Int) := (by omega)
      have q354 : 0 < (t350.length : Int) := of_decide_eq_true (by first | (with_reducible assumption) | assumption)
      obtain ⟨ad354, e354, hx354_0, hx354_1, hx354_2, hx354_3, hx354_4, hx354_5, hx354_6⟩ := at_T39 (Kd.R_reads' HO353.out).2.2 0 p354 q354
      cases e354
      have qi354 : (0 < t350.length) = True := eq_true (by omega)
      (try rw [show ((0 : Int)).toNat = 0 from rfl] at hx354_0)
      (try rw [show 0 * 7 = 0 from rfl] at hx354_0)
      (try rw [Addr.add_zero'] at hx354_0)
      (try rw [show ((0 : Int)).toNat = 0 from rfl] at hx354_1)
      (try rw [show 0 * 7 = 0 from rfl] at hx354_1)
      (try rw [Addr.add_zero'] at hx354_1)
      (try rw [show ((0 : Int)).toNat = 0 from rfl] at hx354_2)
      (try rw [show 0 * 7 = 0 from rfl] at hx354_2)
      (try rw [Addr.add_zero'] at hx354_2)
      (try rw [show ((0 : Int)).toNat = 0 from rfl] at hx354_3)
      (try rw [show 0 * 7 = 0 from rfl] at hx354_3)
      (try rw [Addr.add_zero'] at hx354_3)
      (try rw [show ((0 : Int)).toNat = 0 from rfl] at hx354_4)
      (try rw [show 0 * 7 = 0 from rfl] at hx354_4)
      (try rw [Addr.add_zero'] at hx354_4)
      (try rw [show ((0 : Int)).toNat = 0 from rfl] at hx354_5)
      (try rw [show 0 * 7 = 0 from rfl] at hx354_5)
      (try rw [Addr.add_zero'] at hx354_5)
      (try rw [show ((0 : Int)).toNat = 0 from rfl] at hx354_6)
      (try rw [show 0 * 7 = 0 from rfl] at hx354_6)
      (try rw [Addr.add_zero'] at hx354_6)
      replace p354 := eq_true p354
      replace q354 := eq_true q354
      go_wp2
      go_meet
      case rel => exact ⟨_, ((!(((rd_T39 t350 0).f0.f0) == 1) || (!(((rd_T39 t350 0).f0.f1) == 2) || (!(((rd_T39 t350 0).f0.f2) == 3))))), (by first | rfl | (simp; done) | (simp [*]; done)), H', ⟨by first | omega | exact Nat.le_refl _⟩, ⟨by (with_reducible repeat (first | apply Kd.V_alloc | apply Kd.V_drewN | apply Kd.V_drew)); exact Kd.V_mono HO1.out (fun _ hk => hk.1.1.1.1)⟩, ⟨by (with_reducible repeat (first | apply Kd.V_alloc | apply Kd.V_drewN | apply Kd.V_drew)); exact Kd.V_mono HO2.out (fun _ hk => hk.1.1.1.1)⟩, ⟨by repeat (first | (with_reducible first | exact HB.out | apply below_alloc | apply pw_below_drewN | apply below_drew1) | exact HB.out)⟩⟩
     ·rw [if_neg c20] at H
      exact absurd H (by simp)
    ·rw [if_neg c19] at H
     have c19b0 : ((t350.length : Int) == 1) = false := beq_eq_false_iff_ne.mpr c19
     have c19b1 : ((t350.length : Int) != 1) = true := bne_iff_ne.mpr c19
     have H' := Aside0.mk H
     clear H
     obtain ⟨Ao22, co22, eo22⟩ := Kd.R_slice HO353.out
     subst eo22
     go_wp2
     go_meet
     case rel => exact ⟨_, (true), (by first | rfl | (simp; done) | (simp [*]; done)), H', ⟨by first | omega | exact Nat.le_refl _⟩, ⟨by (with_reducible repeat (first | apply Kd.V_alloc | apply Kd.V_drewN | apply Kd.V_drew)); exact Kd.V_mono HO1.out (fun _ hk => hk.1.1.1.1)⟩, ⟨by (with_reducible repeat (first | apply Kd.V_alloc | apply Kd.V_drewN | apply Kd.V_drew)); exact Kd.V_mono HO2.out (fun _ hk => hk.1.1.1.1)⟩, ⟨by repeat (first | (with_reducible first | exact HB.out | apply below_alloc | apply pw_below_drewN | apply below_drew1) | exact HB.out)⟩⟩
   ·rw [if_neg c18] at H
    have c18b0 : (t351 == 0) = false := beq_eq_false_iff_ne.mpr c18
    have c18b1 : (t351 != 0) = true := bne_iff_ne.mpr c18
    (first | rw [c18b0] | (simp only [i64_w, i32_w]; rw [c18b0]) | skip)
    have H' := Aside0.mk H
    clear H
    go_wp2
    go_meet
    case rel => exact ⟨_, (true), (by first | rfl | (simp; done) | (simp [*]; done)), H', ⟨by first | omega | exact Nat.le_refl _⟩, ⟨by (with_reducible repeat (first | apply Kd.V_alloc | apply Kd.V_drewN | apply Kd.V_drew)); exact Kd.V_mono HO1.out (fun _ hk => hk.1.1.1.1)⟩, ⟨by (with_reducible repeat (first | apply Kd.V_alloc | apply Kd.V_drewN | apply Kd.V_drew)); exact Kd.V_mono HO2.out (fun _ hk => hk.1.1.1.1)⟩, ⟨by repeat (first | (with_reducible first | exact HB.out | apply below_alloc | apply pw_below_drewN | apply below_drew1) | exact HB.out)⟩⟩
  case rest =>
   clear HC8
   try clear c1; try clear c2; try clear p2; try clear p3; try clear q3; try clear hx3; try clear qi3; try clear c4
   try clear c5; try clear c5b0; try clear c5b1; try clear c10; try clear c11; try clear c18; try clear c18b0; try clear c18b1
   try clear c19; try clear c19b0; try clear c19b1; try clear c20; try clear c20b0; try clear c20b1; try clear hx354_0; try clear hx354_1
   try clear hx354_2; try clear hx354_3; try clear hx354_4; try clear hx354_5; try clear hx354_6; try clear p354; try clear q354
   obtain ⟨kq, x41_7, rfl, HA, HJ7, HO_1, HO_2, HB⟩ := hcut
   cases kq with
   | zero => exact absurd HA.out (by simp [tourlaw5_BonesTell.j0])
   | succ kj7 =>
    have H := HA.out
    clear HA
    simp only [tourlaw5_BonesTell.j0] at H
    by_cases c23 : x41_7 = true
    ·subst c23
     have H1 : (none) = some r := by rw [if_pos rfl] at H; exact H
     clear H
     have H := H1
     clear H1
     exact absurd H (by simp)
    ·replace c23 := Bool.eq_false_iff.mpr c23
     subst c23
     have H1 : ((tourref5_BonesFault.f kj7 l0 (([l1] : List (List (S37))))).bind fun t358 => ((bones_Places.f kj7 l0 l1).bind fun bt359 => ((bones_Check.f kj7 l0).bind fun t363 => ((tourref5_BonesFault.f kj7 l0 ([] : List (List (S37)))).bind fun t364 => (if t363 = t364 then (if bt359.2 = t358 then (if t358 = 0 then (tourlaw5_BonesTell.j1 kj7 l0 l1 l2 a3 bt359.1 ((bt359.1.length : Int) != (l0.length : Int))) else (if (bt359.1.length : Int) > 0 then (tourlaw5_BonesTell.j1 kj7 l0 l1 l2 a3 bt359.1 true) else (tourlaw5_BonesTell.j1 kj7 l0 l1 l2 a3 bt359.1 false))) else (tourlaw5_BonesTell.j1 kj7 l0 l1 l2 a3 bt359.1 true)) else (tourlaw5_BonesTell.j1 kj7 l0 l1 l2 a3 bt359.1 true)))))) = some r := by rw [if_neg (show ¬ (false = true) by decide)] at H; exact H
     clear H
     have H := H1
     clear H1
     obtain ⟨y355, hy355⟩ : ∃ y_ : List (List (S37)), y_ = (([l1] : List (List (S37)))) := ⟨_, rfl⟩
     replace H : ((tourref5_BonesFault.f kj7 l0 y355).bind fun t358 => ((bones_Places.f kj7 l0 l1).bind fun bt359 => ((bones_Check.f kj7 l0).bind fun t363 => ((tourref5_BonesFault.f kj7 l0 ([] : List (List (S37)))).bind fun t364 => (if t363 = t364 then (if bt359.2 = t358 then (if t358 = 0 then (tourlaw5_BonesTell.j1 kj7 l0 l1 l2 a3 bt359.1 ((bt359.1.length : Int) != (l0.length : Int))) else (if (bt359.1.length : Int) > 0 then (tourlaw5_BonesTell.j1 kj7 l0 l1 l2 a3 bt359.1 true) else (tourlaw5_BonesTell.j1 kj7 l0 l1 l2 a3 bt359.1 false))) else (tourlaw5_BonesTell.j1 kj7 l0 l1 l2 a3 bt359.1 true)) else (tourlaw5_BonesTell.j1 kj7 l0 l1 l2 a3 bt359.1 true)))))) = some r := by first | (rw [hy355]; with_reducible exact H) | (have H2_ := (Option.bind_some _ _).symm.trans H; rw [hy355]; with_reducible exact H2_) | (have H2_ := (Option.bind_some _ _).symm.trans H; with_reducible exact H2_) | with_reducible exact H | (rw [hy355]; exact H) | exact H
     have Ny355 := Aside0.mk hy355
     clear hy355
     replace H := Option.bind_eq_some_iff.mp H
     obtain ⟨t358, A240, H⟩ := H
     replace H : ((bones_Places.f kj7 l0 l1).bind fun bt359 => ((bones_Check.f kj7 l0).bind fun t363 => ((tourref5_BonesFault.f kj7 l0 ([] : List (List (S37)))).bind fun t364 => (if t363 = t364 then (if bt359.2 = t358 then (if t358 = 0 then (tourlaw5_BonesTell.j1 kj7 l0 l1 l2 a3 bt359.1 ((bt359.1.length : Int) != (l0.length : Int))) else (if (bt359.1.length : Int) > 0 then (tourlaw5_BonesTell.j1 kj7 l0 l1 l2 a3 bt359.1 true) else (tourlaw5_BonesTell.j1 kj7 l0 l1 l2 a3 bt359.1 false))) else (tourlaw5_BonesTell.j1 kj7 l0 l1 l2 a3 bt359.1 true)) else (tourlaw5_BonesTell.j1 kj7 l0 l1 l2 a3 bt359.1 true))))) = some r := H
     have A24 := Aside0.mk A240
     clear A240
     replace H := Option.bind_eq_some_iff.mp H
     obtain ⟨⟨t359, t360⟩, A250, H⟩ := H
     replace H : ((bones_Check.f kj7 l0).bind fun t363 => ((tourref5_BonesFault.f kj7 l0 ([] : List (List (S37)))).bind fun t364 => (if t363 = t364 then (if t360 = t358 then (if t358 = 0 then (tourlaw5_BonesTell.j1 kj7 l0 l1 l2 a3 t359 ((t359.length : Int) != (l0.length : Int))) else (if (t359.length : Int) > 0 then (tourlaw5_BonesTell.j1 kj7 l0 l1 l2 a3 t359 true) else (tourlaw5_BonesTell.j1 kj7 l0 l1 l2 a3 t359 false))) else (tourlaw5_BonesTell.j1 kj7 l0 l1 l2 a3 t359 true)) else (tourlaw5_BonesTell.j1 kj7 l0 l1 l2 a3 t359 true)))) = some r := H
     have A25 := Aside0.mk A250
     clear A250
     have HC26 := Aside0.mk H
     clear H
     go_upto_region 6 with (first | ((with_reducible refine gate_dst (N := 44) rfl ?_); (try (refine gate_guard (by rfl) ?_; dsimp only)); refine Kd.N_lit (Kd.slice 37 k37) _ 30 ?hg (N' := 44) ?hd (xs := ([l1] : List (List (S37)))) (inner := [.slice A1 l1.length c1]) (ok := (fun k_ => ((P1_ k_ ∨ P2_ k_) ∨ w.heap.size ≤ k_))) (okp := (fun k_ => ((P1_ k_ ∨ P2_ k_) ∨ w.heap.size ≤ k_))) ?hr ?hp (fun _ hk => hk) ((show ∀ k_, wc.heap.size ≤ k_ → (fun k_ => ((P1_ k_ ∨ P2_ k_) ∨ w.heap.size ≤ k_)) k_ from fun k_ hk => (.inr (Nat.le_trans (below_size (by repeat (first | (with_reducible first | exact HB.out | apply below_alloc | apply pw_below_drewN | apply below_drew1) | exact HB.out))) hk))) _ (Nat.le_refl _)) (Below.refl _ _) (Nat.le_refl _) (by simp) ?_; (case hd => rfl); (case hg => rfl); (case hr => first | (go_simp; done) | (go_simp; rfl)); (case hp => exact (Reps.one (show Kd.FK (Kd.slice 37 k37) _ _ l1 [.slice A1 l1.length c1] from (Kd.FK_slice_mk (Kd.V_reads' (Kd.V_mono (ok' := (fun k_ => ((P1_ k_ ∨ P2_ k_) ∨ w.heap.size ≤ k_))) (HO_1.out) (fun k_ hk => hk))).2.1 (Kd.V_F (Kd.V_mono (ok' := (fun k_ => ((P1_ k_ ∨ P2_ k_) ∨ w.heap.size ≤ k_))) (HO_1.out) (fun k_ hk => hk))))) (Reps.none _ _))); intro v356 w27 ho28 hb hg_ hnew_; clear hg_ hnew_; (first | rw [← Ny355.out] at ho28 | (simp only [Int.reduceToNat] at ho28; rw [← Ny355.out] at ho28)); have n0_ := Aside0.mk (Kd.V_elder' (by (with_reducible repeat (first | apply Kd.V_alloc | apply Kd.V_drewN | apply Kd.V_drew)); exact HO_1.out) (Kd.N_base ho28) hb); have n1_ := Aside0.mk (Kd.V_elder' (by (with_reducible repeat (first | apply Kd.V_alloc | apply Kd.V_drewN | apply Kd.V_drew)); exact HO_2.out) (Kd.N_base ho28) hb); have n2_ := Aside0.mk (Kd.N_lower ho28 (below_size (by repeat (first | (with_reducible first | exact HB.out | apply below_alloc | apply pw_below_drewN | apply below_drew1) | exact HB.out)))); have n3_ := Aside0.mk (below_step (by repeat (first | (with_reducible first | exact HB.out | apply below_alloc | apply pw_below_drewN | apply below_drew1) | exact HB.out)) hb); clear HO_1; clear HO_2; clear HB; have HO_1 := n0_; have HO_2 := n1_; have HO357 := n2_; have HB := n3_; clear n0_ n1_ n2_ n3_; clear hb ho28; obtain ⟨Ao29, co29, eo29⟩ := Kd.N_slice HO357.out; subst eo29) | ((with_reducible refine gate_callee (f := 13) rfl ?_); refine goesL_ (some 45) rfl rfl Try.func13 (by kernel_rfl) rfl #[.slice A0 l0.length c0, .slice Ao29 y355.length co29] rfl (by (try simp only [zm1, zm2, zm3]); first | done | rfl) ?_; (with_reducible refine (tourref5_BonesFault.calls kj7 _ _ l0 _ _ y355 t358 _ ?side1 ?side2 ?side3 ?side4 A24.out).mono ?_); (case side1 => repeat (first | exact (Kd.C_below HR0.out HB.out) | (with_reducible refine Kd.C_alloc ?_ _) | (with_reducible refine Kd.C_drewN ?_ _) | (with_reducible refine Kd.C_drew ?_))); (case side2 => exact HC0.out); (case side3 => repeat (first | exact (Kd.N_reads' HO357.out).2.2 | (with_reducible refine Kd.C_alloc ?_ _) | (with_reducible refine Kd.C_drewN ?_ _) | (with_reducible refine Kd.C_drew ?_))); (case side4 => exact (Kd.N_reads' HO357.out).2.1); rintro e w30 ⟨rfl, hb⟩; refine ⟨_, rfl, ?_⟩; have n0_ := Aside0.mk (Kd.V_below (by (with_reducible repeat (first | apply Kd.V_alloc | apply Kd.V_drewN | apply Kd.V_drew)); exact HO_1.out) hb); have n1_ := Aside0.mk (Kd.V_below (by (with_reducible repeat (first | apply Kd.V_alloc | apply Kd.V_drewN | apply Kd.V_drew)); exact HO_2.out) hb); have n2_ := Aside0.mk (Kd.N_below (by (with_reducible repeat (first | apply Kd.N_alloc | apply Kd.N_drewN | apply Kd.N_drew)); exact HO357.out) hb); have n3_ := Aside0.mk (below_step (by repeat (first | (with_reducible first | exact HB.out | apply below_alloc | apply pw_below_drewN | apply below_drew1) | exact HB.out)) hb); clear HO_1; clear HO_2; clear HO357; clear HB; have HO_1 := n0_; have HO_2 := n1_; have HO357 := n2_; have HB := n3_; clear n0_ n1_ n2_ n3_; (try clear hb); (try clear hb2); (try clear hk); (try clear hi)) | ((with_reducible refine gate_callee (f := 10) rfl ?_); refine goesL_ (some 49) rfl rfl Try.func10 (by kernel_rfl) rfl #[.slice A0 l0.length c0, .slice A1 l1.length c1] rfl (by (try simp only [zm1, zm2, zm3]); first | done | rfl) ?_; (with_reducible refine (bones_Places.calls kj7 _ _ l0 _ _ l1 t359 t360 _ ?side1 ?side2 ?side3 ?side4 A25.out).mono ?_); (case side1 => repeat (first | exact (Kd.C_below HR0.out HB.out) | (with_reducible refine Kd.C_alloc ?_ _) | (with_reducible refine Kd.C_drewN ?_ _) | (with_reducible refine Kd.C_drew ?_))); (case side2 => exact HC0.out); (case side3 => repeat (first | exact (Kd.V_reads' HO_1.out).2.2 | (with_reducible refine Kd.C_alloc ?_ _) | (with_reducible refine Kd.C_drewN ?_ _) | (with_reducible refine Kd.C_drew ?_))); (case side4 => exact (Kd.V_reads' HO_1.out).2.1); rintro e w31 ⟨v361, rfl, ho0, hb⟩; refine ⟨_, rfl, ?_⟩; have n0_ := Aside0.mk (Kd.V_elder' (by (with_reducible repeat (first | apply Kd.V_alloc | apply Kd.V_drewN | apply Kd.V_drew)); exact HO_1.out) (Kd.R_base ho0) hb); have n1_ := Aside0.mk (Kd.V_elder' (by (with_reducible repeat (first | apply Kd.V_alloc | apply Kd.V_drewN | apply Kd.V_drew)); exact HO_2.out) (Kd.R_base ho0) hb); have n2_ := Aside0.mk (Kd.N_elder' (by (with_reducible repeat (first | apply Kd.N_alloc | apply Kd.N_drewN | apply Kd.N_drew)); exact HO357.out) (Kd.R_base ho0) hb); have n3_ := Aside0.mk (Kd.R_lower (Kd.R_newM (M := fun k_ => (w.heap.size ≤ k_)) ho0 (below_size (by repeat (first | (with_reducible first | exact HB.out | apply below_alloc | apply pw_below_drewN | apply below_drew1) | exact HB.out))) (fun k_ h_ => h_)) (below_size (by repeat (first | (with_reducible first | exact HB.out | apply below_alloc | apply pw_below_drewN | apply below_drew1) | exact HB.out)))); have n4_ := Aside0.mk (below_step (by repeat (first | (with_reducible first | exact HB.out | apply below_alloc | apply pw_below_drewN | apply below_drew1) | exact HB.out)) hb); clear HO_1; clear HO_2; clear HO357; clear HB; have HO_1 := n0_; have HO_2 := n1_; have HO357 := n2_; have HO362 := n3_; have HB := n4_; clear n0_ n1_ n2_ n3_ n4_; (try clear hb); (try clear hb2); (try clear hk); (try clear hi); (try clear ho0)))
     (try simp only [Act.put, zq1, zq2, zq3])
     go_cut [81] (fun v81 wc => ∃ (kq : Nat) (x81_25 : Bool), v81 = .bool x81_25 ∧ Aside0 (tourlaw5_BonesTell.j1 kq l0 l1 l2 a3 t359 x81_25 = some r) ∧ Aside0 (kq ≤ kj7) ∧ Aside0 (Kd.V k37 37 wc w.heap.size (fun k_ => ((P1_ k_ ∨ P2_ k_) ∨ w.heap.size ≤ k_) ∧ some k_ ≠ (v361 : Value).ownBlock) (.slice A1 l1.length c1) l1) ∧ Aside0 (Kd.V k37 37 wc w.heap.size (fun k_ => ((P1_ k_ ∨ P2_ k_) ∨ w.heap.size ≤ k_) ∧ some k_ ≠ (v361 : Value).ownBlock) (.slice A2 l2.length c2) l2) ∧ Aside0 (Kd.R k39 39 wc w.heap.size (fun k_ => (w.heap.size ≤ k_)) v361 t359) ∧ Aside0 (Below w.heap.size w wc))
     case first =>
      have H := HC26.out
      clear HC26
      replace H := Option.bind_eq_some_iff.mp H
      obtain ⟨t363, A320, H⟩ := H
      replace H : ((tourref5_BonesFault.f kj7 l0 ([] : List (List (S37)))).bind fun t364 => (if t363 = t364 then (if t360 = t358 then (if t358 = 0 then (tourlaw5_BonesTell.j1 kj7 l0 l1 l2 a3 t359 ((t359.length : Int) != (l0.length : Int))) else (if (t359.length : Int) > 0 then (tourlaw5_BonesTell.j1 kj7 l0 l1 l2 a3 t359 true) else (tourlaw5_BonesTell.j1 kj7 l0 l1 l2 a3 t359 false))) else (tourlaw5_BonesTell.j1 kj7 l0 l1 l2 a3 t359 true)) else (tourlaw5_BonesTell.j1 kj7 l0 l1 l2 a3 t359 true))) = some r := H
      have A32 := Aside0.mk A320
      clear A320
      replace H := Option.bind_eq_some_iff.mp H
      obtain ⟨t364, A330, H⟩ := H
      replace H : (if t363 = t364 then (if t360 = t358 then (if t358 = 0 then (tourlaw5_BonesTell.j1 kj7 l0 l1 l2 a3 t359 ((t359.length : Int) != (l0.length : Int))) else (if (t359.length : Int) > 0 then (tourlaw5_BonesTell.j1 kj7 l0 l1 l2 a3 t359 true) else (tourlaw5_BonesTell.j1 kj7 l0 l1 l2 a3 t359 false))) else (tourlaw5_BonesTell.j1 kj7 l0 l1 l2 a3 t359 true)) else (tourlaw5_BonesTell.j1 kj7 l0 l1 l2 a3 t359 true)) = some r := H
      have A33 := Aside0.mk A330
      clear A330
      by_cases c34 : t363 = t364
      ·rw [if_pos c34] at H
       have c34b0 : (t363 == t364) = true := beq_iff_eq.mpr c34
       have c34b1 : (t363 != t364) = false := bne_eq_false_iff_eq.mpr c34
       clear c34
       (first | rw [c34b0] | (simp only [i64_w, i32_w]; rw [c34b0]) | skip)
       by_cases c35 : t360 = t358
       ·rw [if_pos c35] at H
        have c35b0 : (t360 == t358) = true := beq_iff_eq.mpr c35
        have c35b1 : (t360 != t358) = false := bne_eq_false_iff_eq.mpr c35
        clear c35
        by_cases c36 : t358 = 0
        ·rw [if_pos c36] at H
         have c36b0 : (t358 == 0) = true := beq_iff_eq.mpr c36
         have c36b1 : (t358 != 0) = false := bne_eq_false_iff_eq.mpr c36
         clear c36
         have H' := Aside0.mk H
         clear H
         go_wp2_with (first | ((with_reducible refine gate_callee (f := 16) rfl ?_); refine goesL_ (some 53) rfl rfl Try.func16 (by kernel_rfl) rfl #[.slice A0 l0.length c0] rfl (by (try simp only [zm1, zm2, zm3]); first | done | rfl) ?_; (with_reducible refine (bones_Check.calls kj7 _ _ l0 t363 _ ?side1 ?side2 A32.out).mono ?_); (case side1 => repeat (first | exact (Kd.C_below HR0.out HB.out) | (with_reducible refine Kd.C_alloc ?_ _) | (with_reducible refine Kd.C_drewN ?_ _) | (with_reducible refine Kd.C_drew ?_))); (case side2 => exact HC0.out); rintro e w37 ⟨rfl, hb⟩; refine ⟨_, rfl, ?_⟩; have n0_ := Aside0.mk (Kd.V_below (by (with_reducible repeat (first | apply Kd.V_alloc | apply Kd.V_drewN | apply Kd.V_drew)); exact HO_1.out) hb); have n1_ := Aside0.mk (Kd.V_below (by (with_reducible repeat (first | apply Kd.V_alloc | apply Kd.V_drewN | apply Kd.V_drew)); exact HO_2.out) hb); have n2_ := Aside0.mk (Kd.N_below (by (with_reducible repeat (first | apply Kd.N_alloc | apply Kd.N_drewN | apply Kd.N_drew)); exact HO357.out) hb); have n3_ := Aside0.mk (Kd.R_below (by (with_reducible repeat (first | apply Kd.R_alloc | apply Kd.R_drewN | apply Kd.R_drew)); exact HO362.out) hb); have n4_ := Aside0.mk (below_step (by repeat (first | (with_reducible first | exact HB.out | apply below_alloc | apply pw_below_drewN | apply below_drew1) | exact HB.out)) hb); clear HO_1; clear HO_2; clear HO357; clear HO362; clear HB; have HO_1 := n0_; have HO_2 := n1_; have HO357 := n2_; have HO362 := n3_; have HB := n4_; clear n0_ n1_ n2_ n3_ n4_; (try clear hb); (try clear hb2); (try clear hk); (try clear hi)) | ((with_reducible refine gate_callee (f := 13) rfl ?_); refine goesL_ (some 55) rfl rfl Try.func13 (by kernel_rfl) rfl #[.slice A0 l0.length c0, .slice none 0 0] rfl (by (try simp only [zm1, zm2, zm3]); first | done | rfl) ?_; (refine (tourref5_BonesFault.calls kj7 _ _ l0 _ _ ([] : List (List (S37))) t364 _ ?side1 ?side2 ?side3 ?side4 A33.out).mono ?_); (case side1 => repeat (first | exact (Kd.C_below HR0.out HB.out) | (with_reducible refine Kd.C_alloc ?_ _) | (with_reducible refine Kd.C_drewN ?_ _) | (with_reducible refine Kd.C_drew ?_))); (case side2 => exact HC0.out); (case side3 => exact Kd.C_nil _ _); (case side4 => exact Nat.le_refl _); rintro e w38 ⟨rfl, hb⟩; refine ⟨_, rfl, ?_⟩; have n0_ := Aside0.mk (Kd.V_below (by (with_reducible repeat (first | apply Kd.V_alloc | apply Kd.V_drewN | apply Kd.V_drew)); exact HO_1.out) hb); have n1_ := Aside0.mk (Kd.V_below (by (with_reducible repeat (first | apply Kd.V_alloc | apply Kd.V_drewN | apply Kd.V_drew)); exact HO_2.out) hb); have n2_ := Aside0.mk (Kd.N_below (by (with_reducible repeat (first | apply Kd.N_alloc | apply Kd.N_drewN | apply Kd.N_drew)); exact HO357.out) hb); have n3_ := Aside0.mk (Kd.R_below (by (with_reducible repeat (first | apply Kd.R_alloc | apply Kd.R_drewN | apply Kd.R_drew)); exact HO362.out) hb); have n4_ := Aside0.mk (below_step (by repeat (first | (with_reducible first | exact HB.out | apply below_alloc | apply pw_below_drewN | apply below_drew1) | exact HB.out)) hb); clear HO_1; clear HO_2; clear HO357; clear HO362; clear HB; have HO_1 := n0_; have HO_2 := n1_; have HO357 := n2_; have HO362 := n3_; have HB := n4_; clear n0_ n1_ n2_ n3_ n4_; (try clear hb); (try clear hb2); (try clear hk); (try clear hi); obtain ⟨Ao39, co39, eo39⟩ := Kd.R_slice HO362.out; subst eo39))
         go_meet
         case rel => exact ⟨_, (((t359.length : Int) != (l0.length : Int))), (by first | rfl | (simp; done) | (simp [*]; done)), H', ⟨by have := HJ7.out; first | omega | exact Nat.le_refl _⟩, ⟨by (with_reducible repeat (first | apply Kd.V_alloc | apply Kd.V_drewN | apply Kd.V_drew)); exact Kd.V_mono HO_1.out (fun _ hk => ⟨hk.1.1, hk.2⟩)⟩, ⟨by (with_reducible repeat (first | apply Kd.V_alloc | apply Kd.V_drewN | apply Kd.V_drew)); exact Kd.V_mono HO_2.out (fun _ hk => ⟨hk.1.1, hk.2⟩)⟩, ⟨by (with_reducible repeat (first | apply Kd.R_alloc | apply Kd.R_drewN | apply Kd.R_drew)); exact Kd.R_mono HO362.out (fun _ hk => hk.1)⟩, ⟨by repeat (first | (with_reducible first | exact HB.out | apply below_alloc | apply pw_below_drewN | apply below_drew1) | exact HB.out)⟩⟩
        ·rw [if_neg c36] at H
         have c36b0 : (t358 == 0) = false := beq_eq_false_iff_ne.mpr c36
         have c36b1 : (t358 != 0) = true := bne_iff_ne.mpr c36
         by_cases c40 : (t359.length : Int) > 0
         ·rw [if_pos c40] at H
          have c40b0 : decide (0 < (t359.length : Int)) = true := decide_eq_true c40
          have c40b1 : decide (0 < t359.length) = true := decide_eq_true (by omega)
          clear c40
          have H' := Aside0.mk H
          clear H
          go_wp2_with (first | ((with_reducible refine gate_callee (f := 16) rfl ?_); refine goesL_ (some 53) rfl rfl Try.func16 (by kernel_rfl) rfl #[.slice A0 l0.length c0] rfl (by (try simp only [zm1, zm2, zm3]); first | done | rfl) ?_; (with_reducible refine (bones_Check.calls kj7 _ _ l0 t363 _ ?side1 ?side2 A32.out).mono ?_); (case side1 => repeat (first | exact (Kd.C_below HR0.out HB.out) | (with_reducible refine Kd.C_alloc ?_ _) | (with_reducible refine Kd.C_drewN ?_ _) | (with_reducible refine Kd.C_drew ?_))); (case side2 => exact HC0.out); rintro e w41 ⟨rfl, hb⟩; refine ⟨_, rfl, ?_⟩; have n0_ := Aside0.mk (Kd.V_below (by (with_reducible repeat (first | apply Kd.V_alloc | apply Kd.V_drewN | apply Kd.V_drew)); exact HO_1.out) hb); have n1_ := Aside0.mk (Kd.V_below (by (with_reducible repeat (first | apply Kd.V_alloc | apply Kd.V_drewN | apply Kd.V_drew)); exact HO_2.out) hb); have n2_ := Aside0.mk (Kd.N_below (by (with_reducible repeat (first | apply Kd.N_alloc | apply Kd.N_drewN | apply Kd.N_drew)); exact HO357.out) hb); have n3_ := Aside0.mk (Kd.R_below (by (with_reducible repeat (first | apply Kd.R_alloc | apply Kd.R_drewN | apply Kd.R_drew)); exact HO362.out) hb); have n4_ := Aside0.mk (below_step (by repeat (first | (with_reducible first | exact HB.out | apply below_alloc | apply pw_below_drewN | apply below_drew1) | exact HB.out)) hb); clear HO_1; clear HO_2; clear HO357; clear HO362; clear HB; have HO_1 := n0_; have HO_2 := n1_; have HO357 := n2_; have HO362 := n3_; have HB := n4_; clear n0_ n1_ n2_ n3_ n4_; (try clear hb); (try clear hb2); (try clear hk); (try clear hi)) | ((with_reducible refine gate_callee (f := 13) rfl ?_); refine goesL_ (some 55) rfl rfl Try.func13 (by kernel_rfl) rfl #[.slice A0 l0.length c0, .slice none 0 0] rfl (by (try simp only [zm1, zm2, zm3]); first | done | rfl) ?_; (refine (tourref5_BonesFault.calls kj7 _ _ l0 _ _ ([] : List (List (S37))) t364 _ ?side1 ?side2 ?side3 ?side4 A33.out).mono ?_); (case side1 => repeat (first | exact (Kd.C_below HR0.out HB.out) | (with_reducible refine Kd.C_alloc ?_ _) | (with_reducible refine Kd.C_drewN ?_ _) | (with_reducible refine Kd.C_drew ?_))); (case side2 => exact HC0.out); (case side3 => exact Kd.C_nil _ _); (case side4 => exact Nat.le_refl _); rintro e w42 ⟨rfl, hb⟩; refine ⟨_, rfl, ?_⟩; have n0_ := Aside0.mk (Kd.V_below (by (with_reducible repeat (first | apply Kd.V_alloc | apply Kd.V_drewN | apply Kd.V_drew)); exact HO_1.out) hb); have n1_ := Aside0.mk (Kd.V_below (by (with_reducible repeat (first | apply Kd.V_alloc | apply Kd.V_drewN | apply Kd.V_drew)); exact HO_2.out) hb); have n2_ := Aside0.mk (Kd.N_below (by (with_reducible repeat (first | apply Kd.N_alloc | apply Kd.N_drewN | apply Kd.N_drew)); exact HO357.out) hb); have n3_ := Aside0.mk (Kd.R_below (by (with_reducible repeat (first | apply Kd.R_alloc | apply Kd.R_drewN | apply Kd.R_drew)); exact HO362.out) hb); have n4_ := Aside0.mk (below_step (by repeat (first | (with_reducible first | exact HB.out | apply below_alloc | apply pw_below_drewN | apply below_drew1) | exact HB.out)) hb); clear HO_1; clear HO_2; clear HO357; clear HO362; clear HB; have HO_1 := n0_; have HO_2 := n1_; have HO357 := n2_; have HO362 := n3_; have HB := n4_; clear n0_ n1_ n2_ n3_ n4_; (try clear hb); (try clear hb2); (try clear hk); (try clear hi); obtain ⟨Ao43, co43, eo43⟩ := Kd.R_slice HO362.out; subst eo43))
          go_meet
          case rel => exact ⟨_, (true), (by first | rfl | (simp; done) | (simp [*]; done)), H', ⟨by have := HJ7.out; first | omega | exact Nat.le_refl _⟩, ⟨by (with_reducible repeat (first | apply Kd.V_alloc | apply Kd.V_drewN | apply Kd.V_drew)); exact Kd.V_mono HO_1.out (fun _ hk => ⟨hk.1.1, hk.2⟩)⟩, ⟨by (with_reducible repeat (first | apply Kd.V_alloc | apply Kd.V_drewN | apply Kd.V_drew)); exact Kd.V_mono HO_2.out (fun _ hk => ⟨hk.1.1, hk.2⟩)⟩, ⟨by (with_reducible repeat (first | apply Kd.R_alloc | apply Kd.R_drewN | apply Kd.R_drew)); exact Kd.R_mono HO362.out (fun _ hk => hk.1)⟩, ⟨by repeat (first | (with_reducible first | exact HB.out | apply below_alloc | apply pw_below_drewN | apply below_drew1) | exact HB.out)⟩⟩
         ·rw [if_neg c40] at H
          have c40b0 : decide (0 < (t359.length : Int)) = false := decide_eq_false c40
          have c40b1 : decide (0 < t359.length) = false := decide_eq_false (by omega)
          clear c40
          have H' := Aside0.mk H
          clear H
          go_wp2_with (first | ((with_reducible refine gate_callee (f := 16) rfl ?_); refine goesL_ (some 53) rfl rfl Try.func16 (by kernel_rfl) rfl #[.slice A0 l0.length c0] rfl (by (try simp only [zm1, zm2, zm3]); first | done | rfl) ?_; (with_reducible refine (bones_Check.calls kj7 _ _ l0 t363 _ ?side1 ?side2 A32.out).mono ?_); (case side1 => repeat (first | exact (Kd.C_below HR0.out HB.out) | (with_reducible refine Kd.C_alloc ?_ _) | (with_reducible refine Kd.C_drewN ?_ _) | (with_reducible refine Kd.C_drew ?_))); (case side2 => exact HC0.out); rintro e w44 ⟨rfl, hb⟩; refine ⟨_, rfl, ?_⟩; have n0_ := Aside0.mk (Kd.V_below (by (with_reducible repeat (first | apply Kd.V_alloc | apply Kd.V_drewN | apply Kd.V_drew)); exact HO_1.out) hb); have n1_ := Aside0.mk (Kd.V_below (by (with_reducible repeat (first | apply Kd.V_alloc | apply Kd.V_drewN | apply Kd.V_drew)); exact HO_2.out) hb); have n2_ := Aside0.mk (Kd.N_below (by (with_reducible repeat (first | apply Kd.N_alloc | apply Kd.N_drewN | apply Kd.N_drew)); exact HO357.out) hb); have n3_ := Aside0.mk (Kd.R_below (by (with_reducible repeat (first | apply Kd.R_alloc | apply Kd.R_drewN | apply Kd.R_drew)); exact HO362.out) hb); have n4_ := Aside0.mk (below_step (by repeat (first | (with_reducible first | exact HB.out | apply below_alloc | apply pw_below_drewN | apply below_drew1) | exact HB.out)) hb); clear HO_1; clear HO_2; clear HO357; clear HO362; clear HB; have HO_1 := n0_; have HO_2 := n1_; have HO357 := n2_; have HO362 := n3_; have HB := n4_; clear n0_ n1_ n2_ n3_ n4_; (try clear hb); (try clear hb2); (try clear hk); (try clear hi)) | ((with_reducible refine gate_callee (f := 13) rfl ?_); refine goesL_ (some 55) rfl rfl Try.func13 (by kernel_rfl) rfl #[.slice A0 l0.length c0, .slice none 0 0] rfl (by (try simp only [zm1, zm2, zm3]); first | done | rfl) ?_; (refine (tourref5_BonesFault.calls kj7 _ _ l0 _ _ ([] : List (List (S37))) t364 _ ?side1 ?side2 ?side3 ?side4 A33.out).mono ?_); (case side1 => repeat (first | exact (Kd.C_below HR0.out HB.out) | (with_reducible refine Kd.C_alloc ?_ _) | (with_reducible refine Kd.C_drewN ?_ _) | (with_reducible refine Kd.C_drew ?_))); (case side2 => exact HC0.out); (case side3 => exact Kd.C_nil _ _); (case side4 => exact Nat.le_refl _); rintro e w45 ⟨rfl, hb⟩; refine ⟨_, rfl, ?_⟩; have n0_ := Aside0.mk (Kd.V_below (by (with_reducible repeat (first | apply Kd.V_alloc | apply Kd.V_drewN | apply Kd.V_drew)); exact HO_1.out) hb); have n1_ := Aside0.mk (Kd.V_below (by (with_reducible repeat (first | apply Kd.V_alloc | apply Kd.V_drewN | apply Kd.V_drew)); exact HO_2.out) hb); have n2_ := Aside0.mk (Kd.N_below (by (with_reducible repeat (first | apply Kd.N_alloc | apply Kd.N_drewN | apply Kd.N_drew)); exact HO357.out) hb); have n3_ := Aside0.mk (Kd.R_below (by (with_reducible repeat (first | apply Kd.R_alloc | apply Kd.R_drewN | apply Kd.R_drew)); exact HO362.out) hb); have n4_ := Aside0.mk (below_step (by repeat (first | (with_reducible first | exact HB.out | apply below_alloc | apply pw_below_drewN | apply below_drew1) | exact HB.out)) hb); clear HO_1; clear HO_2; clear HO357; clear HO362; clear HB; have HO_1 := n0_; have HO_2 := n1_; have HO357 := n2_; have HO362 := n3_; have HB := n4_; clear n0_ n1_ n2_ n3_ n4_; (try clear hb); (try clear hb2); (try clear hk); (try clear hi); obtain ⟨Ao46, co46, eo46⟩ := Kd.R_slice HO362.out; subst eo46))
          go_meet
          case rel => exact ⟨_, (false), (by first | rfl | (simp; done) | (simp [*]; done)), H', ⟨by have := HJ7.out; first | omega | exact Nat.le_refl _⟩, ⟨by (with_reducible repeat (first | apply Kd.V_alloc | apply Kd.V_drewN | apply Kd.V_drew)); exact Kd.V_mono HO_1.out (fun _ hk => ⟨hk.1.1, hk.2⟩)⟩, ⟨by (with_reducible repeat (first | apply Kd.V_alloc | apply Kd.V_drewN | apply Kd.V_drew)); exact Kd.V_mono HO_2.out (fun _ hk => ⟨hk.1.1, hk.2⟩)⟩, ⟨by (with_reducible repeat (first | apply Kd.R_alloc | apply Kd.R_drewN | apply Kd.R_drew)); exact Kd.R_mono HO362.out (fun _ hk => hk.1)⟩, ⟨by repeat (first | (with_reducible first | exact HB.out | apply below_alloc | apply pw_below_drewN | apply below_drew1) | exact HB.out)⟩⟩
       ·rw [if_neg c35] at H
        have c35b0 : (t360 == t358) = false := beq_eq_false_iff_ne.mpr c35
        have c35b1 : (t360 != t358) = true := bne_iff_ne.mpr c35
        have H' := Aside0.mk H
        clear H
        go_wp2_with (first | ((with_reducible refine gate_callee (f := 16) rfl ?_); refine goesL_ (some 53) rfl rfl Try.func16 (by kernel_rfl) rfl #[.slice A0 l0.length c0] rfl (by (try simp only [zm1, zm2, zm3]); first | done | rfl) ?_; (with_reducible refine (bones_Check.calls kj7 _ _ l0 t363 _ ?side1 ?side2 A32.out).mono ?_); (case side1 => repeat (first | exact (Kd.C_below HR0.out HB.out) | (with_reducible refine Kd.C_alloc ?_ _) | (with_reducible refine Kd.C_drewN ?_ _) | (with_reducible refine Kd.C_drew ?_))); (case side2 => exact HC0.out); rintro e w47 ⟨rfl, hb⟩; refine ⟨_, rfl, ?_⟩; have n0_ := Aside0.mk (Kd.V_below (by (with_reducible repeat (first | apply Kd.V_alloc | apply Kd.V_drewN | apply Kd.V_drew)); exact HO_1.out) hb); have n1_ := Aside0.mk (Kd.V_below (by (with_reducible repeat (first | apply Kd.V_alloc | apply Kd.V_drewN | apply Kd.V_drew)); exact HO_2.out) hb); have n2_ := Aside0.mk (Kd.N_below (by (with_reducible repeat (first | apply Kd.N_alloc | apply Kd.N_drewN | apply Kd.N_drew)); exact HO357.out) hb); have n3_ := Aside0.mk (Kd.R_below (by (with_reducible repeat (first | apply Kd.R_alloc | apply Kd.R_drewN | apply Kd.R_drew)); exact HO362.out) hb); have n4_ := Aside0.mk (below_step (by repeat (first | (with_reducible first | exact HB.out | apply below_alloc | apply pw_below_drewN | apply below_drew1) | exact HB.out)) hb); clear HO_1; clear HO_2; clear HO357; clear HO362; clear HB; have HO_1 := n0_; have HO_2 := n1_; have HO357 := n2_; have HO362 := n3_; have HB := n4_; clear n0_ n1_ n2_ n3_ n4_; (try clear hb); (try clear hb2); (try clear hk); (try clear hi)) | ((with_reducible refine gate_callee (f := 13) rfl ?_); refine goesL_ (some 55) rfl rfl Try.func13 (by kernel_rfl) rfl #[.slice A0 l0.length c0, .slice none 0 0] rfl (by (try simp only [zm1, zm2, zm3]); first | done | rfl) ?_; (refine (tourref5_BonesFault.calls kj7 _ _ l0 _ _ ([] : List (List (S37))) t364 _ ?side1 ?side2 ?side3 ?side4 A33.out).mono ?_); (case side1 => repeat (first | exact (Kd.C_below HR0.out HB.out) | (with_reducible refine Kd.C_alloc ?_ _) | (with_reducible refine Kd.C_drewN ?_ _) | (with_reducible refine Kd.C_drew ?_))); (case side2 => exact HC0.out); (case side3 => exact Kd.C_nil _ _); (case side4 => exact Nat.le_refl _); rintro e w48 ⟨rfl, hb⟩; refine ⟨_, rfl, ?_⟩; have n0_ := Aside0.mk (Kd.V_below (by (with_reducible repeat (first | apply Kd.V_alloc | apply Kd.V_drewN | apply Kd.V_drew)); exact HO_1.out) hb); have n1_ := Aside0.mk (Kd.V_below (by (with_reducible repeat (first | apply Kd.V_alloc | apply Kd.V_drewN | apply Kd.V_drew)); exact HO_2.out) hb); have n2_ := Aside0.mk (Kd.N_below (by (with_reducible repeat (first | apply Kd.N_alloc | apply Kd.N_drewN | apply Kd.N_drew)); exact HO357.out) hb); have n3_ := Aside0.mk (Kd.R_below (by (with_reducible repeat (first | apply Kd.R_alloc | apply Kd.R_drewN | apply Kd.R_drew)); exact HO362.out) hb); have n4_ := Aside0.mk (below_step (by repeat (first | (with_reducible first | exact HB.out | apply below_alloc | apply pw_below_drewN | apply below_drew1) | exact HB.out)) hb); clear HO_1; clear HO_2; clear HO357; clear HO362; clear HB; have HO_1 := n0_; have HO_2 := n1_; have HO357 := n2_; have HO362 := n3_; have HB := n4_; clear n0_ n1_ n2_ n3_ n4_; (try clear hb); (try clear hb2); (try clear hk); (try clear hi)))
        go_meet
        case rel => exact ⟨_, (true), (by first | rfl | (simp; done) | (simp [*]; done)), H', ⟨by have := HJ7.out; first | omega | exact Nat.le_refl _⟩, ⟨by (with_reducible repeat (first | apply Kd.V_alloc | apply Kd.V_drewN | apply Kd.V_drew)); exact Kd.V_mono HO_1.out (fun _ hk => ⟨hk.1.1, hk.2⟩)⟩, ⟨by (with_reducible repeat (first | apply Kd.V_alloc | apply Kd.V_drewN | apply Kd.V_drew)); exact Kd.V_mono HO_2.out (fun _ hk => ⟨hk.1.1, hk.2⟩)⟩, ⟨by (with_reducible repeat (first | apply Kd.R_alloc | apply Kd.R_drewN | apply Kd.R_drew)); exact Kd.R_mono HO362.out (fun _ hk => hk.1)⟩, ⟨by repeat (first | (with_reducible first | exact HB.out | apply below_alloc | apply pw_below_drewN | apply below_drew1) | exact HB.out)⟩⟩
      ·rw [if_neg c34] at H
       have c34b0 : (t363 == t364) = false := beq_eq_false_iff_ne.mpr c34
       have c34b1 : (t363 != t364) = true := bne_iff_ne.mpr c34
       (first | rw [c34b0] | (simp only [i64_w, i32_w]; rw [c34b0]) | skip)
       have H' := Aside0.mk H
       clear H
       go_wp2_with (first | ((with_reducible refine gate_callee (f := 16) rfl ?_); refine goesL_ (some 53) rfl rfl Try.func16 (by kernel_rfl) rfl #[.slice A0 l0.length c0] rfl (by (try simp only [zm1, zm2, zm3]); first | done | rfl) ?_; (with_reducible refine (bones_Check.calls kj7 _ _ l0 t363 _ ?side1 ?side2 A32.out).mono ?_); (case side1 => repeat (first | exact (Kd.C_below HR0.out HB.out) | (with_reducible refine Kd.C_alloc ?_ _) | (with_reducible refine Kd.C_drewN ?_ _) | (with_reducible refine Kd.C_drew ?_))); (case side2 => exact HC0.out); rintro e w49 ⟨rfl, hb⟩; refine ⟨_, rfl, ?_⟩; have n0_ := Aside0.mk (Kd.V_below (by (with_reducible repeat (first | apply Kd.V_alloc | apply Kd.V_drewN | apply Kd.V_drew)); exact HO_1.out) hb); have n1_ := Aside0.mk (Kd.V_below (by (with_reducible repeat (first | apply Kd.V_alloc | apply Kd.V_drewN | apply Kd.V_drew)); exact HO_2.out) hb); have n2_ := Aside0.mk (Kd.N_below (by (with_reducible repeat (first | apply Kd.N_alloc | apply Kd.N_drewN | apply Kd.N_drew)); exact HO357.out) hb); have n3_ := Aside0.mk (Kd.R_below (by (with_reducible repeat (first | apply Kd.R_alloc | apply Kd.R_drewN | apply Kd.R_drew)); exact HO362.out) hb); have n4_ := Aside0.mk (below_step (by repeat (first | (with_reducible first | exact HB.out | apply below_alloc | apply pw_below_drewN | apply below_drew1) | exact HB.out)) hb); clear HO_1; clear HO_2; clear HO357; clear HO362; clear HB; have HO_1 := n0_; have HO_2 := n1_; have HO357 := n2_; have HO362 := n3_; have HB := n4_; clear n0_ n1_ n2_ n3_ n4_; (try clear hb); (try clear hb2); (try clear hk); (try clear hi)) | ((with_reducible refine gate_callee (f := 13) rfl ?_); refine goesL_ (some 55) rfl rfl Try.func13 (by kernel_rfl) rfl #[.slice A0 l0.length c0, .slice none 0 0] rfl (by (try simp only [zm1, zm2, zm3]); first | done | rfl) ?_; (refine (tourref5_BonesFault.calls kj7 _ _ l0 _ _ ([] : List (List (S37))) t364 _ ?side1 ?side2 ?side3 ?side4 A33.out).mono ?_); (case side1 => repeat (first | exact (Kd.C_below HR0.out HB.out) | (with_reducible refine Kd.C_alloc ?_ _) | (with_reducible refine Kd.C_drewN ?_ _) | (with_reducible refine Kd.C_drew ?_))); (case side2 => exact HC0.out); (case side3 => exact Kd.C_nil _ _); (case side4 => exact Nat.le_refl _); rintro e w50 ⟨rfl, hb⟩; refine ⟨_, rfl, ?_⟩; have n0_ := Aside0.mk (Kd.V_below (by (with_reducible repeat (first | apply Kd.V_alloc | apply Kd.V_drewN | apply Kd.V_drew)); exact HO_1.out) hb); have n1_ := Aside0.mk (Kd.V_below (by (with_reducible repeat (first | apply Kd.V_alloc | apply Kd.V_drewN | apply Kd.V_drew)); exact HO_2.out) hb); have n2_ := Aside0.mk (Kd.N_below (by (with_reducible repeat (first | apply Kd.N_alloc | apply Kd.N_drewN | apply Kd.N_drew)); exact HO357.out) hb); have n3_ := Aside0.mk (Kd.R_below (by (with_reducible repeat (first | apply Kd.R_alloc | apply Kd.R_drewN | apply Kd.R_drew)); exact HO362.out) hb); have n4_ := Aside0.mk (below_step (by repeat (first | (with_reducible first | exact HB.out | apply below_alloc | apply pw_below_drewN | apply below_drew1) | exact HB.out)) hb); clear HO_1; clear HO_2; clear HO357; clear HO362; clear HB; have HO_1 := n0_; have HO_2 := n1_; have HO357 := n2_; have HO362 := n3_; have HB := n4_; clear n0_ n1_ n2_ n3_ n4_; (try clear hb); (try clear hb2); (try clear hk); (try clear hi)))
       go_meet
       case rel => exact ⟨_, (true), (by first | rfl | (simp; done) | (simp [*]; done)), H', ⟨by have := HJ7.out; first | omega | exact Nat.le_refl _⟩, ⟨by (with_reducible repeat (first | apply Kd.V_alloc | apply Kd.V_drewN | apply Kd.V_drew)); exact Kd.V_mono HO_1.out (fun _ hk => ⟨hk.1.1, hk.2⟩)⟩, ⟨by (with_reducible repeat (first | apply Kd.V_alloc | apply Kd.V_drewN | apply Kd.V_drew)); exact Kd.V_mono HO_2.out (fun _ hk => ⟨hk.1.1, hk.2⟩)⟩, ⟨by (with_reducible repeat (first | apply Kd.R_alloc | apply Kd.R_drewN | apply Kd.R_drew)); exact Kd.R_mono HO362.out (fun _ hk => hk.1)⟩, ⟨by repeat (first | (with_reducible first | exact HB.out | apply below_alloc | apply pw_below_drewN | apply below_drew1) | exact HB.out)⟩⟩
     case rest =>
      clear HC26
      try clear c1; try clear c2; try clear p2; try clear c3; try clear p3; try clear q3; try clear hx3; try clear qi3
      try clear c4; try clear c5; try clear c5b0; try clear c5b1; try clear c10; try clear c11; try clear c13; try clear c16
      try clear c18; try clear c18b0; try clear c18b1; try clear c19; try clear c19b0; try clear c19b1; try clear c20; try clear c20b0
      try clear c20b1; try clear c23; try clear c34; try clear c34b0; try clear c34b1; try clear c35; try clear c35b0; try clear c35b1
      try clear p35; try clear q35; try clear hx35; try clear qi35; try clear c36; try clear c36b0; try clear c36b1; try clear c40
      try clear c40b0; try clear c40b1; try clear hx354_0; try clear hx354_1; try clear hx354_2; try clear hx354_3; try clear hx354_4; try clear hx354_5
      try clear hx354_6; try clear p2; try clear p3; try clear p354; try clear q3; try clear q354
      obtain ⟨kq, x81_25, rfl, HA, HJ25, HO_1, HO_2, HO_12, HB⟩ := hcut
      cases kq with
      | zero => exact absurd HA.out (by simp [tourlaw5_BonesTell.j1])
      | succ kj25 =>
       have H := HA.out
       clear HA
       simp only [tourlaw5_BonesTell.j1] at H
       by_cases c51 : x81_25 = true
       ·subst c51
        have H1 : (none) = some r := by rw [if_pos rfl] at H; exact H
        clear H
        have H := H1
        clear H1
        exact absurd H (by simp)
       ·replace c51 := Bool.eq_false_iff.mpr c51
        subst c51
        have H1 : (tourlaw5_BonesTell.l0 kj25 l0 l1 l2 a3 t359 (t359.length : Int) 0) = some r := by rw [if_neg (show ¬ (false = true) by decide)] at H; exact H
        clear H
        have H := H1
        clear H1
        have H' := Aside0.mk H
        clear H
        obtain ⟨Ao52, co52, eo52⟩ := Kd.R_slice HO_12.out
        subst eo52
        go_wp2
        go_loopg [84] kj25 (fun kq v84 w' => ∃ (x84_3 : Int), v84 = .int .i64 x84_3 ∧ Aside0 (tourlaw5_BonesTell.l0 kq l0 l1 l2 a3 t359 (t359.length : Int) x84_3 = some r) ∧ Aside0 (kq ≤ kj25) ∧ Aside0 (Kd.V k37 37 w' w.heap.size (fun k_ => ((P1_ k_ ∨ P2_ k_) ∨ w.heap.size ≤ k_) ∧ some k_ ≠ ((.slice Ao52 t359.length co52) : Value).ownBlock) (.slice A1 l1.length c1) l1) ∧ Aside0 (Kd.V k37 37 w' w.heap.size (fun k_ => ((P1_ k_ ∨ P2_ k_) ∨ w.heap.size ≤ k_) ∧ some k_ ≠ ((.slice Ao52 t359.length co52) : Value).ownBlock) (.slice A2 l2.length c2) l2) ∧ Aside0 (Kd.R k39 39 w' w.heap.size (fun k_ => (w.heap.size ≤ k_)) (.slice Ao52 t359.length co52) t359) ∧ Aside0 (Below w.heap.size w w'))
        case atStart => exact ⟨(0), (by first | rfl | (simp; done) | (simp [*]; done)), H', ⟨Nat.le_refl _⟩, ⟨by (with_reducible repeat (first | apply Kd.V_alloc | apply Kd.V_drewN | apply Kd.V_drew)); exact HO_1.out⟩, ⟨by (with_reducible repeat (first | apply Kd.V_alloc | apply Kd.V_drewN | apply Kd.V_drew)); exact HO_2.out⟩, ⟨by (with_reducible repeat (first | apply Kd.R_alloc | apply Kd.R_drewN | apply Kd.R_drew)); exact HO_12.out⟩, ⟨by repeat (first | (with_reducible first | exact HB.out | apply below_alloc | apply pw_below_drewN | apply below_drew1) | exact HB.out)⟩⟩
        case round =>
         clear H'
         try clear c1; try clear c2; try clear p2; try clear c3; try clear p3; try clear q3; try clear hx3; try clear qi3
         try clear c4; try clear c5; try clear c5b0; try clear c5b1; try clear c10; try clear c11; try clear c13; try clear c16
         try clear c18; try clear c18b0; try clear c18b1; try clear c19; try clear c19b0; try clear c19b1; try clear c20; try clear c20b0
         try clear c20b1; try clear c23; try clear c34; try clear c34b0; try clear c34b1; try clear c35; try clear c35b0; try clear c35b1
         try clear p35; try clear q35; try clear hx35; try clear qi35; try clear c36; try clear c36b0; try clear c36b1; try clear c40
         try clear c40b0; try clear c40b1; try clear c51; try clear hx354_0; try clear hx354_1; try clear hx354_2; try clear hx354_3; try clear hx354_4
         try clear hx354_5; try clear hx354_6; try clear p2; try clear p3; try clear p35; try clear p354; try clear q3; try clear q35
         try clear q354
         obtain ⟨x84_3, rfl, HA, HK3, HO_1, HO_2, HO_12, HB⟩ := hrel
         cases gk with
         | zero => exact absurd HA.out (by simp [tourlaw5_BonesTell.l0])
         | succ k3 =>
          have H := HA.out
          clear HA
          simp only [tourlaw5_BonesTell.l0] at H
          by_cases c53 : x84_3 < (t359.length : Int)
          ·rw [if_pos c53] at H
           have c53b0 : decide (x84_3 < (t359.length : Int)) = true := decide_eq_true c53
           clear c53
           by_cases c54 : 0 ≤ x84_3
           ·rw [if_pos c54] at H
            have c54b0 : decide (0 ≤ x84_3) = true := decide_eq_true c54
            clear c54
            by_cases c55 : x84_3 < (t359.length : Int)
            ·rw [if_pos c55] at H
             have c55b0 : decide (x84_3 < (t359.length : Int)) = true := decide_eq_true c55
             clear c55
             replace H := Option.bind_eq_some_iff.mp H
             obtain ⟨⟨t366, t367, t368, t369, t370, t371, t372⟩, A560, H⟩ := H
             replace H : (if ((!(((rd_T39 t359 x84_3).f0.f0) == t366) || (!(((rd_T39 t359 x84_3).f0.f1) == t367) || (!(((rd_T39 t359 x84_3).f0.f2) == t368)))) || ((!(((rd_T39 t359 x84_3).f1.f0) == t369) || (!(((rd_T39 t359 x84_3).f1.f1) == t370) || (!(((rd_T39 t359 x84_3).f1.f2) == t371) || (!(((rd_T39 t359 x84_3).f1.f3) == t372))))))) = true then (none) else (tourlaw5_BonesTell.l0 k3 l0 l1 l2 a3 t359 (t359.length : Int) (wrap64 (x84_3 + 1)))) = some r := H
             have A56 := Aside0.mk A560
             clear A560
             by_cases c57 : ((!(((rd_T39 t359 x84_3).f0.f0) == t366) || (!(((rd_T39 t359 x84_3).f0.f1) == t367) || (!(((rd_T39 t359 x84_3).f0.f2) == t368)))) || ((!(((rd_T39 t359 x84_3).f1.f0) == t369) || (!(((rd_T39 t359 x84_3).f1.f1) == t370) || (!(((rd_T39 t359 x84_3).f1.f2) == t371) || (!(((rd_T39 t359 x84_3).f1.f3) == t372))))))) = true
             ·rw [if_pos c57] at H
              exact absurd H (by simp)
             ·rw [if_neg c57] at H
              have c57b0 : ((!(((rd_T39 t359 x84_3).f0.f0) == t366) || (!(((rd_T39 t359 x84_3).f0.f1) == t367) || (!(((rd_T39 t359 x84_3).f0.f2) == t368)))) || ((!(((rd_T39 t359 x84_3).f1.f0) == t369) || (!(((rd_T39 t359 x84_3).f1.f1) == t370) || (!(((rd_T39 t359 x84_3).f1.f2) == t371) || (!(((rd_T39 t359 x84_3).f1.f3) == t372))))))) = false := by simpa using c57
              clear c57
              have H' := Aside0.mk H
              clear H
              try go_wp2
              have n0_ := Aside0.mk (Kd.V_drew HO_1.out)
              have n1_ := Aside0.mk (Kd.V_drew HO_2.out)
              have n2_ := Aside0.mk (Kd.R_drew HO_12.out)
              have n3_ := Aside0.mk (below_drew1 HB.out)
              clear HO_1
              clear HO_2
              clear HO_12
              clear HB
              have HO_1 := n0_
              have HO_2 := n1_
              have HO_12 := n2_
              have HB := n3_
              clear n0_ n1_ n2_ n3_
              have p365 : 0 ≤ (x84_3 : Int) := of_decide_eq_true (by first | (with_reducible assumption) | assumption)
              have q365 : x84_3 < (t359.length : Int) := of_decide_eq_true (by first | (with_reducible assumption) | assumption)
              obtain ⟨ad365, e365, hx365_0, hx365_1, hx365_2, hx365_3, hx365_4, hx365_5, hx365_6⟩ := at_T39 (Kd.R_reads' HO_12.out).2.2 x84_3 p365 q365
              cases e365
              replace p365 := eq_true p365
              replace q365 := eq_true q365
              refine start_ (n := 9) (S := fun w' => w'.cell? (ad365.add ((x84_3).toNat * 7)) = some (.int .i64 ((rd_T39 t359 x84_3).f0.f0)) ∧ w'.cell? ⟨(ad365.add ((x84_3).toNat * 7)).block, (ad365.add ((x84_3).toNat * 7)).off + 1, none⟩ = some (.int .i64 ((rd_T39 t359 x84_3).f0.f1)) ∧ w'.cell? ⟨(ad365.add ((x84_3).toNat * 7)).block, (ad365.add ((x84_3).toNat * 7)).off + 2, none⟩ = some (.int .i64 ((rd_T39 t359 x84_3).f0.f2)) ∧ w'.cell? ⟨(ad365.add ((x84_3).toNat * 7)).block, (ad365.add ((x84_3).toNat * 7)).off + 3, none⟩ = some (.int .i64 ((rd_T39 t359 x84_3).f1.f0)) ∧ w'.cell? ⟨(ad365.add ((x84_3).toNat * 7)).block, (ad365.add ((x84_3).toNat * 7)).off + 4, none⟩ = some (.int .i64 ((rd_T39 t359 x84_3).f1.f1)) ∧ w'.cell? ⟨(ad365.add ((x84_3).toNat * 7)).block, (ad365.add ((x84_3).toNat * 7)).off + 5, none⟩ = some (.int .i64 ((rd_T39 t359 x84_3).f1.f2)) ∧ w'.cell? ⟨(ad365.add ((x84_3).toNat * 7)).block, (ad365.add ((x84_3).toNat * 7)).off + 6, none⟩ = some (.int .i64 ((rd_T39 t359 x84_3).f1.f3))) (ds := []) (ab 9 0) (by kernel_rfl) rfl rfl ⟨hx365_0, hx365_1, hx365_2, hx365_3, hx365_4, hx365_5, hx365_6⟩ (fun hHeld => ?_); refine with_tabW tourlaw5_BonesTell.tab11 tourlaw5_BonesTell.bits11 (fun HT_ HW_ => ?_)
              generalize wr.drew = w58 at HO_1 HO_2 HO_12 HB hx365_0 hx365_1 hx365_2 hx365_3 hx365_4 hx365_5 hx365_6 hHeld ⊢
              refine pure_ (i := 0) (N := some 87) (v := ?_) (a' := ?_) (ab 9 1) rfl rfl (any_of HT_.out (by kernel_rfl)) (fun _ _ _ h => h) (Or.inl ⟨by rfl, ?_⟩) ?_ ?_
              rotate_left
              ·intro w'
               go_simp
               with_reducible rfl
              rotate_left
              ·simp only [Act.put, zq1, zq2, zq3, i64_w, i32_w]
               rfl
              refine pure_ (i := 1) (N := some 88) (v := ?_) (a' := ?_) (ab 9 3) rfl rfl (any_of HT_.out (by kernel_rfl)) (fun _ _ _ h => h) (Or.inl ⟨by rfl, ?_⟩) ?_ ?_
              rotate_left
              ·intro w'
               go_simp
               with_reducible rfl
              rotate_left
              ·simp only [Act.put, zq1, zq2, zq3, i64_w, i32_w]
               rfl
              refine pure_ (i := 2) (N := some 89) (v := ?_) (a' := ?_) (ab 9 7) rfl rfl (any_of HT_.out (by kernel_rfl)) (fun _ _ _ h => h) (Or.inl ⟨by rfl, ?_⟩) ?_ ?_
              rotate_left
              ·intro w'
               go_simp
               with_reducible rfl
              rotate_left
              ·simp only [Act.put, zq1, zq2, zq3, i64_w, i32_w]
               rfl
              refine pure_ (i := 4) (N := some 91) (v := ?_) (a' := ?_) (ab 9 23) rfl rfl (any_of HT_.out (by kernel_rfl)) (fun _ _ _ h => h) (Or.inl ⟨by rfl, ?_⟩) ?_ ?_
              rotate_left
              ·intro w'
               go_simp
               with_reducible rfl
              rotate_left
              ·simp only [Act.put, zq1, zq2, zq3, i64_w, i32_w]
               rfl
              refine pure_ (i := 5) (N := some 92) (v := ?_) (a' := ?_) (ab 9 55) rfl rfl (any_of HT_.out (by kernel_rfl)) (fun _ _ _ h => h) (Or.inl ⟨by rfl, ?_⟩) ?_ ?_
              rotate_left
              ·intro w'
               go_simp
               with_reducible rfl
              rotate_left
              ·simp only [Act.put, zq1, zq2, zq3, i64_w, i32_w]
               rfl
              refine pure_ (i := 6) (N := some 93) (v := ?_) (a' := ?_) (ab 9 119) rfl rfl (any_of HT_.out (by kernel_rfl)) (fun _ _ _ h => h) (Or.inl ⟨by rfl, ?_⟩) ?_ ?_
              rotate_left
              ·intro w'
               go_simp
               with_reducible rfl
              rotate_left
              ·simp only [Act.put, zq1, zq2, zq3, i64_w, i32_w]
               rfl
              refine take_ (i := 3) (N := some 90) (v := ?_) (a' := ?_) (ab 9 127) rfl rfl (take_ofW HT_.out HW_.out (by kernel_rfl)) (fun _ _ _ h => h) (Or.inl ⟨by rfl, ?_⟩) hHeld ?_ ?_
              rotate_left
              ·rintro w' ⟨s0, s1, s2, s3, s4, s5, s6⟩
               go_simp
               with_reducible rfl
              rotate_left
              ·simp only [Act.put, zq1, zq2, zq3, i64_w, i32_w]
               rfl
              refine one_ (i := 7) (N := some 94) (ab 9 255) rfl rfl (one_of HT_.out (by kernel_rfl)) (by decide) (fun K hK => ?_)
              refine goes_ Try.func17 (by kernel_rfl) rfl #[.slice A0 l0.length c0, .slice A1 l1.length c1, .int .i64 x84_3] (by rfl) rfl rfl (by (try simp only [zm1, zm2, zm3]); first | done | rfl) ?_
              with_reducible refine (tourref5_PlaceOf.calls k3 _ _ l0 _ _ l1 x84_3 t366 t367 t368 t369 t370 t371 t372 _ ?side1 ?side2 ?side3 ?side4 A56.out).mono ?_
              (case side1 => repeat (first | exact (Kd.C_below HR0.out HB.out) | (with_reducible refine Kd.C_alloc ?_ _) | (with_reducible refine Kd.C_drewN ?_ _) | (with_reducible refine Kd.C_drew ?_)))
              (case side2 => exact HC0.out)
              (case side3 => repeat (first | exact (Kd.V_reads' HO_1.out).2.2 | (with_reducible refine Kd.C_alloc ?_ _) | (with_reducible refine Kd.C_drewN ?_ _) | (with_reducible refine Kd.C_drew ?_)))
              (case side4 => exact (Kd.V_reads' HO_1.out).2.1)
              rintro e w59 ⟨rfl, hb⟩
              have HS0_ := (hb.cell (World.block_lt_of_cell? _ _ (hHeld.1))).trans (hHeld.1)
              have HS1_ := (hb.cell (World.block_lt_of_cell? _ _ (hHeld.2.1))).trans (hHeld.2.1)
              have HS2_ := (hb.cell (World.block_lt_of_cell? _ _ (hHeld.2.2.1))).trans (hHeld.2.2.1)
              have HS3_ := (hb.cell (World.block_lt_of_cell? _ _ (hHeld.2.2.2.1))).trans (hHeld.2.2.2.1)
              have HS4_ := (hb.cell (World.block_lt_of_cell? _ _ (hHeld.2.2.2.2.1))).trans (hHeld.2.2.2.2.1)
              have HS5_ := (hb.cell (World.block_lt_of_cell? _ _ (hHeld.2.2.2.2.2.1))).trans (hHeld.2.2.2.2.2.1)
              have HS6_ := (hb.cell (World.block_lt_of_cell? _ _ (hHeld.2.2.2.2.2.2))).trans (hHeld.2.2.2.2.2.2)
              refine ⟨_, rfl, ?_⟩
              have n0_ := Aside0.mk (Kd.V_below (by (with_reducible repeat (first | apply Kd.V_alloc | apply Kd.V_drewN | apply Kd.V_drew)); exact HO_1.out) hb)
              have n1_ := Aside0.mk (Kd.V_below (by (with_reducible repeat (first | apply Kd.V_alloc | apply Kd.V_drewN | apply Kd.V_drew)); exact HO_2.out) hb)
              have n2_ := Aside0.mk (Kd.R_below (by (with_reducible repeat (first | apply Kd.R_alloc | apply Kd.R_drewN | apply Kd.R_drew)); exact HO_12.out) hb)
              have n3_ := Aside0.mk (below_step (by repeat (first | (with_reducible first | exact HB.out | apply below_alloc | apply pw_below_drewN | apply below_drew1) | exact HB.out)) hb)
              clear HO_1
              clear HO_2
              clear HO_12
              clear HB
              have HO_1 := n0_
              have HO_2 := n1_
              have HO_12 := n2_
              have HB := n3_
              clear n0_ n1_ n2_ n3_
              (try clear hb)
              (try clear hb2)
              (try clear hk)
              (try clear hi)
              refine hK.out _ _ ⟨HS0_, HS1_, HS2_, HS3_, HS4_, HS5_, HS6_⟩ (fun hHeld => ?_)
              clear hK K
              refine norm_ (a' := ?_) ?_ ?_
              rotate_left
              ·show Act.put _ (some 94) _ = _
               simp only [Act.put, zq1, zq2, zq3, i64_w, i32_w]
               rfl
              refine pure_ (i := 8) (N := some 95) (v := ?_) (a' := ?_) (ab 9 511) rfl rfl (any_of HT_.out (by kernel_rfl)) (fun _ _ _ h => h) (Or.inl ⟨by rfl, ?_⟩) ?_ ?_
              rotate_left
              ·intro w'
               go_simp
               with_reducible rfl
              rotate_left
              ·simp only [Act.put, zq1, zq2, zq3, i64_w, i32_w]
               rfl
              refine done_ (done_of HT_.out (by kernel_rfl)) ?_
              try go_wp2
              go_roundg k3
              case measure => have := HJ7.out; have := HJ25.out; have := HK3.out; omega
              case rel => exact ⟨(wrap64 (x84_3 + 1)), (by first | rfl | (simp; done) | (simp [*]; done)), H', ⟨by have := HJ7.out; have := HJ25.out; have := HK3.out; omega⟩, ⟨by (with_reducible repeat (first | apply Kd.V_alloc | apply Kd.V_drewN | apply Kd.V_drew)); exact HO_1.out⟩, ⟨by (with_reducible repeat (first | apply Kd.V_alloc | apply Kd.V_drewN | apply Kd.V_drew)); exact HO_2.out⟩, ⟨by (with_reducible repeat (first | apply Kd.R_alloc | apply Kd.R_drewN | apply Kd.R_drew)); exact HO_12.out⟩, ⟨by repeat (first | (with_reducible first | exact HB.out | apply below_alloc | apply pw_below_drewN | apply below_drew1) | exact HB.out)⟩⟩
            ·rw [if_neg c55] at H
             exact absurd H (by simp)
           ·rw [if_neg c54] at H
            exact absurd H (by simp)
          ·rw [if_neg c53] at H
           have c53b0 : decide (x84_3 < (t359.length : Int)) = false := decide_eq_false c53
           clear c53
           obtain ⟨y373, hy373⟩ : ∃ y_ : List (List (S37)), y_ = (([l1, l2] : List (List (S37)))) := ⟨_, rfl⟩
           replace H : ((tourref5_BonesFault.f k3 l0 y373).bind fun t376 => (if t376 = 0 then (if a3 < 0 then (tourlaw5_BonesTell.j3 k3 l0 l1 l2 a3 t376 true) else (tourlaw5_BonesTell.j3 k3 l0 l1 l2 a3 t376 (decide (a3 > 65536)))) else (tourlaw5_BonesTell.j3 k3 l0 l1 l2 a3 t376 false))) = some r := by first | (rw [hy373]; with_reducible exact H) | (have H2_ := (Option.bind_some _ _).symm.trans H; rw [hy373]; with_reducible exact H2_) | (have H2_ := (Option.bind_some _ _).symm.trans H; with_reducible exact H2_) | with_reducible exact H | (rw [hy373]; exact H) | exact H
           have Ny373 := Aside0.mk hy373
           clear hy373
           replace H := Option.bind_eq_some_iff.mp H
           obtain ⟨t376, A600, H⟩ := H
           replace H : (if t376 = 0 then (if a3 < 0 then (tourlaw5_BonesTell.j3 k3 l0 l1 l2 a3 t376 true) else (tourlaw5_BonesTell.j3 k3 l0 l1 l2 a3 t376 (decide (a3 > 65536)))) else (tourlaw5_BonesTell.j3 k3 l0 l1 l2 a3 t376 false)) = some r := H
           have A60 := Aside0.mk A600
           clear A600
           have HC61 := Aside0.mk H
           clear H
           go_upto_region 15 with (first | ((with_reducible refine gate_dst (N := 100) rfl ?_); (try (refine gate_guard (by rfl) ?_; dsimp only)); refine Kd.N_lit (Kd.slice 37 k37) _ 30 ?hg (N' := 100) ?hd (xs := ([l1, l2] : List (List (S37)))) (inner := [.slice A1 l1.length c1, .slice A2 l2.length c2]) (ok := (fun k_ => ((P1_ k_ ∨ P2_ k_) ∨ w.heap.size ≤ k_) ∧ some k_ ≠ (.slice Ao52 t359.length co52 : Value).ownBlock)) (okp := (fun k_ => ((P1_ k_ ∨ P2_ k_) ∨ w.heap.size ≤ k_) ∧ some k_ ≠ (.slice Ao52 t359.length co52 : Value).ownBlock)) ?hr ?hp (fun _ hk => hk) ((show ∀ k_, wr.heap.size ≤ k_ → (fun k_ => ((P1_ k_ ∨ P2_ k_) ∨ w.heap.size ≤ k_) ∧ some k_ ≠ (.slice Ao52 t359.length co52 : Value).ownBlock) k_ from fun k_ hk => ⟨(.inr (Nat.le_trans (below_size (by repeat (first | (with_reducible first | exact HB.out | apply below_alloc | apply pw_below_drewN | apply below_drew1) | exact HB.out))) hk)), Kd.fresh' (Kd.R_lt (by (with_reducible repeat (first | apply Kd.R_alloc | apply Kd.R_drewN | apply Kd.R_drew)); exact HO_12.out)) k_ hk⟩) _ (Nat.le_refl _)) (Below.refl _ _) (Nat.le_refl _) (by simp) ?_; (case hd => rfl); (case hg => rfl); (case hr => first | (go_simp; done) | (go_simp; rfl)); (case hp => exact (Reps.one (show Kd.FK (Kd.slice 37 k37) _ _ l1 [.slice A1 l1.length c1] from (Kd.FK_slice_mk (Kd.V_reads' (Kd.V_mono (ok' := (fun k_ => ((P1_ k_ ∨ P2_ k_) ∨ w.heap.size ≤ k_) ∧ some k_ ≠ (.slice Ao52 t359.length co52 : Value).ownBlock)) (HO_1.out) (fun k_ hk => ⟨hk.1, hk.2⟩))).2.1 (Kd.V_F (Kd.V_mono (ok' := (fun k_ => ((P1_ k_ ∨ P2_ k_) ∨ w.heap.size ≤ k_) ∧ some k_ ≠ (.slice Ao52 t359.length co52 : Value).ownBlock)) (HO_1.out) (fun k_ hk => ⟨hk.1, hk.2⟩))))) (Reps.one (show Kd.FK (Kd.slice 37 k37) _ _ l2 [.slice A2 l2.length c2] from (Kd.FK_slice_mk (Kd.V_reads' (Kd.V_mono (ok' := (fun k_ => ((P1_ k_ ∨ P2_ k_) ∨ w.heap.size ≤ k_) ∧ some k_ ≠ (.slice Ao52 t359.length co52 : Value).ownBlock)) (HO_2.out) (fun k_ hk => ⟨hk.1, hk.2⟩))).2.1 (Kd.V_F (Kd.V_mono (ok' := (fun k_ => ((P1_ k_ ∨ P2_ k_) ∨ w.heap.size ≤ k_) ∧ some k_ ≠ (.slice Ao52 t359.length co52 : Value).ownBlock)) (HO_2.out) (fun k_ hk => ⟨hk.1, hk.2⟩))))) (Reps.none _ _)))); intro v374 w62 ho63 hb hg_ hnew_; clear hg_ hnew_; (first | rw [← Ny373.out] at ho63 | (simp only [Int.reduceToNat] at ho63; rw [← Ny373.out] at ho63)); have n0_ := Aside0.mk (Kd.V_elder' (by (with_reducible repeat (first | apply Kd.V_alloc | apply Kd.V_drewN | apply Kd.V_drew)); exact HO_1.out) (Kd.N_base ho63) hb); have n1_ := Aside0.mk (Kd.V_elder' (by (with_reducible repeat (first | apply Kd.V_alloc | apply Kd.V_drewN | apply Kd.V_drew)); exact HO_2.out) (Kd.N_base ho63) hb); have n2_ := Aside0.mk (Kd.R_below (by (with_reducible repeat (first | apply Kd.R_alloc | apply Kd.R_drewN | apply Kd.R_drew)); exact HO_12.out) hb); have n3_ := Aside0.mk (Kd.N_lower ho63 (below_size (by repeat (first | (with_reducible first | exact HB.out | apply below_alloc | apply pw_below_drewN | apply below_drew1) | exact HB.out)))); have n4_ := Aside0.mk (below_step (by repeat (first | (with_reducible first | exact HB.out | apply below_alloc | apply pw_below_drewN | apply below_drew1) | exact HB.out)) hb); clear HO_1; clear HO_2; clear HO_12; clear HB; have HO_1 := n0_; have HO_2 := n1_; have HO_12 := n2_; have HO375 := n3_; have HB := n4_; clear n0_ n1_ n2_ n3_ n4_; clear hb ho63; obtain ⟨Ao64, co64, eo64⟩ := Kd.N_slice HO375.out; subst eo64) | ((with_reducible refine gate_callee (f := 13) rfl ?_); refine goesL_ (some 101) rfl rfl Try.func13 (by kernel_rfl) rfl #[.slice A0 l0.length c0, .slice Ao64 y373.length co64] rfl (by (try simp only [zm1, zm2, zm3]); first | done | rfl) ?_; (with_reducible refine (tourref5_BonesFault.calls k3 _ _ l0 _ _ y373 t376 _ ?side1 ?side2 ?side3 ?side4 A60.out).mono ?_); (case side1 => repeat (first | exact (Kd.C_below HR0.out HB.out) | (with_reducible refine Kd.C_alloc ?_ _) | (with_reducible refine Kd.C_drewN ?_ _) | (with_reducible refine Kd.C_drew ?_))); (case side2 => exact HC0.out); (case side3 => repeat (first | exact (Kd.N_reads' HO375.out).2.2 | (with_reducible refine Kd.C_alloc ?_ _) | (with_reducible refine Kd.C_drewN ?_ _) | (with_reducible refine Kd.C_drew ?_))); (case side4 => exact (Kd.N_reads' HO375.out).2.1); rintro e w65 ⟨rfl, hb⟩; refine ⟨_, rfl, ?_⟩; have n0_ := Aside0.mk (Kd.V_below (by (with_reducible repeat (first | apply Kd.V_alloc | apply Kd.V_drewN | apply Kd.V_drew)); exact HO_1.out) hb); have n1_ := Aside0.mk (Kd.V_below (by (with_reducible repeat (first | apply Kd.V_alloc | apply Kd.V_drewN | apply Kd.V_drew)); exact HO_2.out) hb); have n2_ := Aside0.mk (Kd.R_below (by (with_reducible repeat (first | apply Kd.R_alloc | apply Kd.R_drewN | apply Kd.R_drew)); exact HO_12.out) hb); have n3_ := Aside0.mk (Kd.N_below (by (with_reducible repeat (first | apply Kd.N_alloc | apply Kd.N_drewN | apply Kd.N_drew)); exact HO375.out) hb); have n4_ := Aside0.mk (below_step (by repeat (first | (with_reducible first | exact HB.out | apply below_alloc | apply pw_below_drewN | apply below_drew1) | exact HB.out)) hb); clear HO_1; clear HO_2; clear HO_12; clear HO375; clear HB; have HO_1 := n0_; have HO_2 := n1_; have HO_12 := n2_; have HO375 := n3_; have HB := n4_; clear n0_ n1_ n2_ n3_ n4_; (try clear hb); (try clear hb2); (try clear hk); (try clear hi)))
           (try simp only [Act.put, zq1, zq2, zq3])
           go_cut [111] (fun v111 wc => ∃ (kq : Nat) (x111_60 : Bool), v111 = .bool x111_60 ∧ Aside0 (tourlaw5_BonesTell.j3 kq l0 l1 l2 a3 t376 x111_60 = some r) ∧ Aside0 (kq ≤ k3) ∧ Aside0 (Kd.V k37 37 wc w.heap.size (fun k_ => ((P1_ k_ ∨ P2_ k_) ∨ w.heap.size ≤ k_)) (.slice A1 l1.length c1) l1) ∧ Aside0 (Kd.V k37 37 wc w.heap.size (fun k_ => ((P1_ k_ ∨ P2_ k_) ∨ w.heap.size ≤ k_)) (.slice A2 l2.length c2) l2) ∧ Aside0 (Below w.heap.size w wc))
           case first =>
            have H := HC61.out
            clear HC61
            by_cases c66 : t376 = 0
            ·rw [if_pos c66] at H
             have c66b0 : (t376 == 0) = true := beq_iff_eq.mpr c66
             have c66b1 : (t376 != 0) = false := bne_eq_false_iff_eq.mpr c66
             clear c66
             (first | rw [c66b0] | (simp only [i64_w, i32_w]; rw [c66b0]) | skip)
             by_cases c67 : a3 < 0
             ·rw [if_pos c67] at H
              have c67b0 : decide (a3 < 0) = true := decide_eq_true c67
              clear c67
              have H' := Aside0.mk H
              clear H
              go_wp2
              go_meet
              case rel => exact ⟨_, (true), (by first | rfl | (simp; done) | (simp [*]; done)), H', ⟨by have := HJ7.out; have := HJ25.out; have := HK3.out; first | omega | exact Nat.le_refl _⟩, ⟨by (with_reducible repeat (first | apply Kd.V_alloc | apply Kd.V_drewN | apply Kd.V_drew)); exact Kd.V_mono HO_1.out (fun _ hk => hk.1.1)⟩, ⟨by (with_reducible repeat (first | apply Kd.V_alloc | apply Kd.V_drewN | apply Kd.V_drew)); exact Kd.V_mono HO_2.out (fun _ hk => hk.1.1)⟩, ⟨by repeat (first | (with_reducible first | exact HB.out | apply below_alloc | apply pw_below_drewN | apply below_drew1) | exact HB.out)⟩⟩
             ·rw [if_neg c67] at H
              have c67b0 : decide (a3 < 0) = false := decide_eq_false c67
              clear c67
              have H' := Aside0.mk H
              clear H
              go_wp2
              go_meet
              case rel => exact ⟨_, (decide (a3 > 65536)), (by first | rfl | (simp; done) | (simp [*]; done)), H', ⟨by have := HJ7.out; have := HJ25.out; have := HK3.out; first | omega | exact Nat.le_refl _⟩, ⟨by (with_reducible repeat (first | apply Kd.V_alloc | apply Kd.V_drewN | apply Kd.V_drew)); exact Kd.V_mono HO_1.out (fun _ hk => hk.1.1)⟩, ⟨by (with_reducible repeat (first | apply Kd.V_alloc | apply Kd.V_drewN | apply Kd.V_drew)); exact Kd.V_mono HO_2.out (fun _ hk => hk.1.1)⟩, ⟨by repeat (first | (with_reducible first | exact HB.out | apply below_alloc | apply pw_below_drewN | apply below_drew1) | exact HB.out)⟩⟩
            ·rw [if_neg c66] at H
             have c66b0 : (t376 == 0) = false := beq_eq_false_iff_ne.mpr c66
             have c66b1 : (t376 != 0) = true := bne_iff_ne.mpr c66
             (first | rw [c66b0] | (simp only [i64_w, i32_w]; rw [c66b0]) | skip)
             have H' := Aside0.mk H
             clear H
             go_wp2
             go_meet
             case rel => exact ⟨_, (false), (by first | rfl | (simp; done) | (simp [*]; done)), H', ⟨by have := HJ7.out; have := HJ25.out; have := HK3.out; first | omega | exact Nat.le_refl _⟩, ⟨by (with_reducible repeat (first | apply Kd.V_alloc | apply Kd.V_drewN | apply Kd.V_drew)); exact Kd.V_mono HO_1.out (fun _ hk => hk.1.1)⟩, ⟨by (with_reducible repeat (first | apply Kd.V_alloc | apply Kd.V_drewN | apply Kd.V_drew)); exact Kd.V_mono HO_2.out (fun _ hk => hk.1.1)⟩, ⟨by repeat (first | (with_reducible first | exact HB.out | apply below_alloc | apply pw_below_drewN | apply below_drew1) | exact HB.out)⟩⟩
           case rest =>
            clear HC61
            try clear c1; try clear c2; try clear p2; try clear c3; try clear p3; try clear q3; try clear hx3; try clear qi3
            try clear c4; try clear c5; try clear c5b0; try clear c5b1; try clear c6; try clear p6; try clear c10; try clear c11
            try clear c13; try clear c16; try clear c17; try clear c18; try clear c18b0; try clear c18b1; try clear c19; try clear c19b0
            try clear c19b1; try clear c20; try clear c20b0; try clear c20b1; try clear c23; try clear c34; try clear c34b0; try clear c34b1
            try clear c35; try clear c35b0; try clear c35b1; try clear p35; try clear q35; try clear hx35; try clear qi35; try clear c36
            try clear c36b0; try clear c36b1; try clear p36; try clear q36; try clear hx36; try clear c40; try clear c40b0; try clear c40b1
            try clear c51; try clear c53; try clear c53b0; try clear c54; try clear c54b0; try clear c55; try clear c55b0; try clear c57
            try clear c57b0; try clear p64; try clear c66; try clear c66b0; try clear c66b1; try clear c67; try clear c67b0; try clear hx354_0
            try clear hx354_1; try clear hx354_2; try clear hx354_3; try clear hx354_4; try clear hx354_5; try clear hx354_6; try clear hx365_0; try clear hx365_1
            try clear hx365_2; try clear hx365_3; try clear hx365_4; try clear hx365_5; try clear hx365_6; try clear p2; try clear p3; try clear p35
            try clear p354; try clear p365; try clear q3; try clear q35; try clear q354; try clear q365
            obtain ⟨kq, x111_60, rfl, HA, HJ60, HO_1, HO_2, HB⟩ := hcut
            cases kq with
            | zero => exact absurd HA.out (by simp [tourlaw5_BonesTell.j3])
            | succ kj60 =>
             have H := HA.out
             clear HA
             simp only [tourlaw5_BonesTell.j3] at H
             have HC68 := Aside0.mk H
             clear H
             go_upto_if 111 with (fail)
             go_cut [11] (fun v11 wc => ∃ (kq : Nat) (x11_67 : Int), v11 = .int .i64 x11_67 ∧ Aside0 (tourlaw5_BonesTell.j4 kq l0 l1 l2 a3 x11_67 = some r) ∧ Aside0 (kq ≤ kj60) ∧ Aside0 (Kd.V k37 37 wc w.heap.size (fun k_ => ((P1_ k_ ∨ P2_ k_) ∨ w.heap.size ≤ k_)) (.slice A1 l1.length c1) l1) ∧ Aside0 (Kd.V k37 37 wc w.heap.size (fun k_ => ((P1_ k_ ∨ P2_ k_) ∨ w.heap.size ≤ k_)) (.slice A2 l2.length c2) l2) ∧ Aside0 (Below w.heap.size w wc))
             case first =>
              have H := HC68.out
              clear HC68
              by_cases c69 : x111_60 = true
              ·subst c69
               have H1 : (tourlaw5_BonesTell.j4 kj60 l0 l1 l2 a3 1) = some r := by rw [if_pos rfl] at H; exact H
               clear H
               have H := H1
               clear H1
               have H' := Aside0.mk H
               clear H
               go_wp2
               go_meet
               case rel => exact ⟨_, (1), (by first | rfl | (simp; done) | (simp [*]; done)), H', ⟨by have := HJ7.out; have := HJ25.out; have := HK3.out; have := HJ60.out; first | omega | exact Nat.le_refl _⟩, ⟨by (with_reducible repeat (first | apply Kd.V_alloc | apply Kd.V_drewN | apply Kd.V_drew)); exact HO_1.out⟩, ⟨by (with_reducible repeat (first | apply Kd.V_alloc | apply Kd.V_drewN | apply Kd.V_drew)); exact HO_2.out⟩, ⟨by repeat (first | (with_reducible first | exact HB.out | apply below_alloc | apply pw_below_drewN | apply below_drew1) | exact HB.out)⟩⟩
              ·replace c69 := Bool.eq_false_iff.mpr c69
               subst c69
               have H1 : (tourlaw5_BonesTell.j4 kj60 l0 l1 l2 a3 t376) = some r := by rw [if_neg (show ¬ (false = true) by decide)] at H; exact H
               clear H
               have H := H1
               clear H1
               have H' := Aside0.mk H
               clear H
               go_wp2
               go_meet
               case rel => exact ⟨_, (t376), (by first | rfl | (simp; done) | (simp [*]; done)), H', ⟨by have := HJ7.out; have := HJ25.out; have := HK3.out; have := HJ60.out; first | omega | exact Nat.le_refl _⟩, ⟨by (with_reducible repeat (first | apply Kd.V_alloc | apply Kd.V_drewN | apply Kd.V_drew)); exact HO_1.out⟩, ⟨by (with_reducible repeat (first | apply Kd.V_alloc | apply Kd.V_drewN | apply Kd.V_drew)); exact HO_2.out⟩, ⟨by repeat (first | (with_reducible first | exact HB.out | apply below_alloc | apply pw_below_drewN | apply below_drew1) | exact HB.out)⟩⟩
             case rest =>
              clear HC68
              try clear c1; try clear c2; try clear p2; try clear c3; try clear p3; try clear q3; try clear hx3; try clear qi3
              try clear c4; try clear c5; try clear c5b0; try clear c5b1; try clear c6; try clear p6; try clear c10; try clear c11
              try clear c13; try clear c16; try clear c17; try clear c18; try clear c18b0; try clear c18b1; try clear c19; try clear c19b0
              try clear c19b1; try clear c20; try clear c20b0; try clear c20b1; try clear c23; try clear c34; try clear c34b0; try clear c34b1
              try clear c35; try clear c35b0; try clear c35b1; try clear p35; try clear q35; try clear hx35; try clear qi35; try clear c36
              try clear c36b0; try clear c36b1; try clear p36; try clear q36; try clear hx36; try clear c40; try clear c40b0; try clear c40b1
              try clear c51; try clear c53; try clear c53b0; try clear c54; try clear c54b0; try clear c55; try clear c55b0; try clear c57
              try clear c57b0; try clear p64; try clear c66; try clear c66b0; try clear c66b1; try clear c67; try clear c67b0; try clear c69
              try clear hx354_0; try clear hx354_1; try clear hx354_2; try clear hx354_3; try clear hx354_4; try clear hx354_5; try clear hx354_6; try clear hx365_0
              try clear hx365_1; try clear hx365_2; try clear hx365_3; try clear hx365_4; try clear hx365_5; try clear hx365_6; try clear p2; try clear p3
              try clear p35; try clear p354; try clear p36; try clear p365; try clear p6; try clear p64; try clear q3; try clear q35
              try clear q354; try clear q36; try clear q365
              obtain ⟨kq, x11_67, rfl, HA, HJ67, HO_1, HO_2, HB⟩ := hcut
              cases kq with
              | zero => exact absurd HA.out (by simp [tourlaw5_BonesTell.j4])
              | succ kj67 =>
               have H := HA.out
               clear HA
               simp only [tourlaw5_BonesTell.j4] at H
               replace H := Option.bind_eq_some_iff.mp H
               obtain ⟨⟨t377, t378⟩, A700, H⟩ := H
               replace H : (if t378 = x11_67 then (if x11_67 = 0 then (tourlaw5_BonesTell.j5 kj67 l1 l2 a3 t377 ((t377.length : Int) != (l0.length : Int))) else (if (t377.length : Int) > 0 then (tourlaw5_BonesTell.j5 kj67 l1 l2 a3 t377 true) else (tourlaw5_BonesTell.j5 kj67 l1 l2 a3 t377 false))) else (tourlaw5_BonesTell.j5 kj67 l1 l2 a3 t377 true)) = some r := H
               have A70 := Aside0.mk A700
               clear A700
               have HC71 := Aside0.mk H
               clear H
               go_upto_region 18 with (first | ((with_reducible refine gate_callee (f := 18) rfl ?_); refine goesL_ (some 117) rfl rfl Try.func18 (by kernel_rfl) rfl #[.slice A0 l0.length c0, .slice A1 l1.length c1, .slice A2 l2.length c2, .int .i64 a3] rfl (by (try simp only [zm1, zm2, zm3]); first | done | rfl) ?_; (with_reducible refine (bones_Blend.calls kj67 _ _ l0 _ _ l1 _ _ l2 a3 t377 t378 _ ?side1 ?side2 ?side3 ?side4 ?side5 ?side6 A70.out).mono ?_); (case side1 => repeat (first | exact (Kd.C_below HR0.out HB.out) | (with_reducible refine Kd.C_alloc ?_ _) | (with_reducible refine Kd.C_drewN ?_ _) | (with_reducible refine Kd.C_drew ?_))); (case side2 => exact HC0.out); (case side3 => repeat (first | exact (Kd.V_reads' HO_1.out).2.2 | (with_reducible refine Kd.C_alloc ?_ _) | (with_reducible refine Kd.C_drewN ?_ _) | (with_reducible refine Kd.C_drew ?_))); (case side4 => exact (Kd.V_reads' HO_1.out).2.1); (case side5 => repeat (first | exact (Kd.V_reads' HO_2.out).2.2 | (with_reducible refine Kd.C_alloc ?_ _) | (with_reducible refine Kd.C_drewN ?_ _) | (with_reducible refine Kd.C_drew ?_))); (case side6 => exact (Kd.V_reads' HO_2.out).2.1); rintro e w72 ⟨v379, rfl, ho0, hb⟩; refine ⟨_, rfl, ?_⟩; have n0_ := Aside0.mk (Kd.V_elder' (by (with_reducible repeat (first | apply Kd.V_alloc | apply Kd.V_drewN | apply Kd.V_drew)); exact HO_1.out) (Kd.R_base ho0) hb); have n1_ := Aside0.mk (Kd.V_elder' (by (with_reducible repeat (first | apply Kd.V_alloc | apply Kd.V_drewN | apply Kd.V_drew)); exact HO_2.out) (Kd.R_base ho0) hb); have n2_ := Aside0.mk (Kd.R_lower (Kd.R_newM (M := fun k_ => (w.heap.size ≤ k_)) ho0 (below_size (by repeat (first | (with_reducible first | exact HB.out | apply below_alloc | apply pw_below_drewN | apply below_drew1) | exact HB.out))) (fun k_ h_ => h_)) (below_size (by repeat (first | (with_reducible first | exact HB.out | apply below_alloc | apply pw_below_drewN | apply below_drew1) | exact HB.out)))); have n3_ := Aside0.mk (below_step (by repeat (first | (with_reducible first | exact HB.out | apply below_alloc | apply pw_below_drewN | apply below_drew1) | exact HB.out)) hb); clear HO_1; clear HO_2; clear HB; have HO_1 := n0_; have HO_2 := n1_; have HO380 := n2_; have HB := n3_; clear n0_ n1_ n2_ n3_; (try clear hb); (try clear hb2); (try clear hk); (try clear hi); (try clear ho0)))
               (try simp only [Act.put, zq1, zq2, zq3])
               go_cut [142] (fun v142 wc => ∃ (kq : Nat) (x142_70 : Bool), v142 = .bool x142_70 ∧ Aside0 (tourlaw5_BonesTell.j5 kq l1 l2 a3 t377 x142_70 = some r) ∧ Aside0 (kq ≤ kj67) ∧ Aside0 (Kd.V k37 37 wc w.heap.size (fun k_ => ((P1_ k_ ∨ P2_ k_) ∨ w.heap.size ≤ k_) ∧ some k_ ≠ (v379 : Value).ownBlock) (.slice A1 l1.length c1) l1) ∧ Aside0 (Kd.V k37 37 wc w.heap.size (fun k_ => ((P1_ k_ ∨ P2_ k_) ∨ w.heap.size ≤ k_) ∧ some k_ ≠ (v379 : Value).ownBlock) (.slice A2 l2.length c2) l2) ∧ Aside0 (Kd.R k37 37 wc w.heap.size (fun k_ => (w.heap.size ≤ k_)) v379 t377) ∧ Aside0 (Below w.heap.size w wc))
               case first =>
                have H := HC71.out
                clear HC71
                by_cases c73 : t378 = x11_67
                ·rw [if_pos c73] at H
                 have c73b0 : (t378 == x11_67) = true := beq_iff_eq.mpr c73
                 have c73b1 : (t378 != x11_67) = false := bne_eq_false_iff_eq.mpr c73
                 clear c73
                 (first | rw [c73b0] | (simp only [i64_w, i32_w]; rw [c73b0]) | skip)
                 by_cases c74 : x11_67 = 0
                 ·rw [if_pos c74] at H
                  have c74b0 : (x11_67 == 0) = true := beq_iff_eq.mpr c74
                  have c74b1 : (x11_67 != 0) = false := bne_eq_false_iff_eq.mpr c74
                  clear c74
                  have H' := Aside0.mk H
                  clear H
                  obtain ⟨Ao75, co75, eo75⟩ := Kd.R_slice HO380.out
                  subst eo75
                  go_wp2
                  go_meet
                  case rel => exact ⟨_, (((t377.length : Int) != (l0.length : Int))), (by first | rfl | (simp; done) | (simp [*]; done)), H', ⟨by have := HJ7.out; have := HJ25.out; have := HK3.out; have := HJ60.out; have := HJ67.out; first | omega | exact Nat.le_refl _⟩, ⟨by (with_reducible repeat (first | apply Kd.V_alloc | apply Kd.V_drewN | apply Kd.V_drew)); exact HO_1.out⟩, ⟨by (with_reducible repeat (first | apply Kd.V_alloc | apply Kd.V_drewN | apply Kd.V_drew)); exact HO_2.out⟩, ⟨by (with_reducible repeat (first | apply Kd.R_alloc | apply Kd.R_drewN | apply Kd.R_drew)); exact Kd.R_mono HO380.out (fun _ hk => hk.1)⟩, ⟨by repeat (first | (with_reducible first | exact HB.out | apply below_alloc | apply pw_below_drewN | apply below_drew1) | exact HB.out)⟩⟩
                 ·rw [if_neg c74] at H
                  have c74b0 : (x11_67 == 0) = false := beq_eq_false_iff_ne.mpr c74
                  have c74b1 : (x11_67 != 0) = true := bne_iff_ne.mpr c74
                  by_cases c76 : (t377.length : Int) > 0
                  ·rw [if_pos c76] at H
                   have c76b0 : decide (0 < (t377.length : Int)) = true := decide_eq_true c76
                   have c76b1 : decide (0 < t377.length) = true := decide_eq_true (by omega)
                   clear c76
                   have H' := Aside0.mk H
                   clear H
                   obtain ⟨Ao77, co77, eo77⟩ := Kd.R_slice HO380.out
                   subst eo77
                   go_wp2
                   go_meet
                   case rel => exact ⟨_, (true), (by first | rfl | (simp; done) | (simp [*]; done)), H', ⟨by have := HJ7.out; have := HJ25.out; have := HK3.out; have := HJ60.out; have := HJ67.out; first | omega | exact Nat.le_refl _⟩, ⟨by (with_reducible repeat (first | apply Kd.V_alloc | apply Kd.V_drewN | apply Kd.V_drew)); exact HO_1.out⟩, ⟨by (with_reducible repeat (first | apply Kd.V_alloc | apply Kd.V_drewN | apply Kd.V_drew)); exact HO_2.out⟩, ⟨by (with_reducible repeat (first | apply Kd.R_alloc | apply Kd.R_drewN | apply Kd.R_drew)); exact Kd.R_mono HO380.out (fun _ hk => hk.1)⟩, ⟨by repeat (first | (with_reducible first | exact HB.out | apply below_alloc | apply pw_below_drewN | apply below_drew1) | exact HB.out)⟩⟩
                  ·rw [if_neg c76] at H
                   have c76b0 : decide (0 < (t377.length : Int)) = false := decide_eq_false c76
                   have c76b1 : decide (0 < t377.length) = false := decide_eq_false (by omega)
                   clear c76
                   have H' := Aside0.mk H
                   clear H
                   obtain ⟨Ao78, co78, eo78⟩ := Kd.R_slice HO380.out
                   subst eo78
                   go_wp2
                   go_meet
                   case rel => exact ⟨_, (false), (by first | rfl | (simp; done) | (simp [*]; done)), H', ⟨by have := HJ7.out; have := HJ25.out; have := HK3.out; have := HJ60.out; have := HJ67.out; first | omega | exact Nat.le_refl _⟩, ⟨by (with_reducible repeat (first | apply Kd.V_alloc | apply Kd.V_drewN | apply Kd.V_drew)); exact HO_1.out⟩, ⟨by (with_reducible repeat (first | apply Kd.V_alloc | apply Kd.V_drewN | apply Kd.V_drew)); exact HO_2.out⟩, ⟨by (with_reducible repeat (first | apply Kd.R_alloc | apply Kd.R_drewN | apply Kd.R_drew)); exact Kd.R_mono HO380.out (fun _ hk => hk.1)⟩, ⟨by repeat (first | (with_reducible first | exact HB.out | apply below_alloc | apply pw_below_drewN | apply below_drew1) | exact HB.out)⟩⟩
                ·rw [if_neg c73] at H
                 have c73b0 : (t378 == x11_67) = false := beq_eq_false_iff_ne.mpr c73
                 have c73b1 : (t378 != x11_67) = true := bne_iff_ne.mpr c73
                 (first | rw [c73b0] | (simp only [i64_w, i32_w]; rw [c73b0]) | skip)
                 have H' := Aside0.mk H
                 clear H
                 go_wp2
                 go_meet
                 case rel => exact ⟨_, (true), (by first | rfl | (simp; done) | (simp [*]; done)), H', ⟨by have := HJ7.out; have := HJ25.out; have := HK3.out; have := HJ60.out; have := HJ67.out; first | omega | exact Nat.le_refl _⟩, ⟨by (with_reducible repeat (first | apply Kd.V_alloc | apply Kd.V_drewN | apply Kd.V_drew)); exact HO_1.out⟩, ⟨by (with_reducible repeat (first | apply Kd.V_alloc | apply Kd.V_drewN | apply Kd.V_drew)); exact HO_2.out⟩, ⟨by (with_reducible repeat (first | apply Kd.R_alloc | apply Kd.R_drewN | apply Kd.R_drew)); exact Kd.R_mono HO380.out (fun _ hk => hk.1)⟩, ⟨by repeat (first | (with_reducible first | exact HB.out | apply below_alloc | apply pw_below_drewN | apply below_drew1) | exact HB.out)⟩⟩
               case rest =>
                clear HC71
                try clear c1; try clear c2; try clear p2; try clear c3; try clear p3; try clear q3; try clear hx3; try clear qi3
                try clear c4; try clear c5; try clear c5b0; try clear c5b1; try clear c6; try clear p6; try clear c7; try clear c10
                try clear c11; try clear c13; try clear c16; try clear c17; try clear c18; try clear c18b0; try clear c18b1; try clear c19
                try clear c19b0; try clear c19b1; try clear c20; try clear c20b0; try clear c20b1; try clear c23; try clear c34; try clear c34b0
                try clear c34b1; try clear c35; try clear c35b0; try clear c35b1; try clear p35; try clear q35; try clear hx35; try clear qi35
                try clear c36; try clear c36b0; try clear c36b1; try clear p36; try clear q36; try clear hx36; try clear c40; try clear c40b0
                try clear c40b1; try clear c51; try clear c53; try clear c53b0; try clear c54; try clear c54b0; try clear c55; try clear c55b0
                try clear c57; try clear c57b0; try clear p64; try clear c66; try clear c66b0; try clear c66b1; try clear c67; try clear c67b0
                try clear c69; try clear c73; try clear c73b0; try clear c73b1; try clear c74; try clear c74b0; try clear c74b1; try clear c76
                try clear c76b0; try clear c76b1; try clear hx354_0; try clear hx354_1; try clear hx354_2; try clear hx354_3; try clear hx354_4; try clear hx354_5
                try clear hx354_6; try clear hx365_0; try clear hx365_1; try clear hx365_2; try clear hx365_3; try clear hx365_4; try clear hx365_5; try clear hx365_6
                try clear p2; try clear p3; try clear p35; try clear p354; try clear p36; try clear p365; try clear p6; try clear p64
                try clear q3; try clear q35; try clear q354; try clear q36; try clear q365
                obtain ⟨kq, x142_70, rfl, HA, HJ70, HO_1, HO_2, HO_15, HB⟩ := hcut
                cases kq with
                | zero => exact absurd HA.out (by simp [tourlaw5_BonesTell.j5])
                | succ kj70 =>
                 have H := HA.out
                 clear HA
                 simp only [tourlaw5_BonesTell.j5] at H
                 by_cases c79 : x142_70 = true
                 ·subst c79
                  have H1 : (none) = some r := by rw [if_pos rfl] at H; exact H
                  clear H
                  have H := H1
                  clear H1
                  exact absurd H (by simp)
                 ·replace c79 := Bool.eq_false_iff.mpr c79
                  subst c79
                  have H1 : (tourlaw5_BonesTell.l1 kj70 l1 l2 a3 t377 (t377.length : Int) 0) = some r := by rw [if_neg (show ¬ (false = true) by decide)] at H; exact H
                  clear H
                  have H := H1
                  clear H1
                  have H' := Aside0.mk H
                  clear H
                  obtain ⟨Ao80, co80, eo80⟩ := Kd.R_slice HO_15.out
                  subst eo80
                  go_wp2
                  go_loopg [145] kj70 (fun kq v145 w' => ∃ (x145_7 : Int), v145 = .int .i64 x145_7 ∧ Aside0 (tourlaw5_BonesTell.l1 kq l1 l2 a3 t377 (t377.length : Int) x145_7 = some r) ∧ Aside0 (kq ≤ kj70) ∧ Aside0 (Kd.V k37 37 w' w.heap.size (fun k_ => ((P1_ k_ ∨ P2_ k_) ∨ w.heap.size ≤ k_) ∧ some k_ ≠ ((.slice Ao80 t377.length co80) : Value).ownBlock) (.slice A1 l1.length c1) l1) ∧ Aside0 (Kd.V k37 37 w' w.heap.size (fun k_ => ((P1_ k_ ∨ P2_ k_) ∨ w.heap.size ≤ k_) ∧ some k_ ≠ ((.slice Ao80 t377.length co80) : Value).ownBlock) (.slice A2 l2.length c2) l2) ∧ Aside0 (Kd.R k37 37 w' w.heap.size (fun k_ => (w.heap.size ≤ k_)) (.slice Ao80 t377.length co80) t377) ∧ Aside0 (Below w.heap.size w w'))
                  case atStart => exact ⟨(0), (by first | rfl | (simp; done) | (simp [*]; done)), H', ⟨Nat.le_refl _⟩, ⟨by (with_reducible repeat (first | apply Kd.V_alloc | apply Kd.V_drewN | apply Kd.V_drew)); exact HO_1.out⟩, ⟨by (with_reducible repeat (first | apply Kd.V_alloc | apply Kd.V_drewN | apply Kd.V_drew)); exact HO_2.out⟩, ⟨by (with_reducible repeat (first | apply Kd.R_alloc | apply Kd.R_drewN | apply Kd.R_drew)); exact HO_15.out⟩, ⟨by repeat (first | (with_reducible first | exact HB.out | apply below_alloc | apply pw_below_drewN | apply below_drew1) | exact HB.out)⟩⟩
                  case round =>
                   clear H'
                   try clear c1; try clear c2; try clear p2; try clear c3; try clear p3; try clear q3; try clear hx3; try clear qi3
                   try clear c4; try clear c5; try clear c5b0; try clear c5b1; try clear c6; try clear p6; try clear c7; try clear c10
                   try clear c11; try clear c13; try clear c16; try clear c17; try clear c18; try clear c18b0; try clear c18b1; try clear c19
                   try clear c19b0; try clear c19b1; try clear c20; try clear c20b0; try clear c20b1; try clear c23; try clear c34; try clear c34b0
                   try clear c34b1; try clear c35; try clear c35b0; try clear c35b1; try clear p35; try clear q35; try clear hx35; try clear qi35
                   try clear c36; try clear c36b0; try clear c36b1; try clear p36; try clear q36; try clear hx36; try clear c40; try clear c40b0
                   try clear c40b1; try clear c51; try clear c53; try clear c53b0; try clear c54; try clear c54b0; try clear c55; try clear c55b0
                   try clear c57; try clear c57b0; try clear p64; try clear c66; try clear c66b0; try clear c66b1; try clear c67; try clear c67b0
                   try clear c69; try clear c73; try clear c73b0; try clear c73b1; try clear c74; try clear c74b0; try clear c74b1; try clear c76
                   try clear c76b0; try clear c76b1; try clear c79; try clear hx354_0; try clear hx354_1; try clear hx354_2; try clear hx354_3; try clear hx354_4
                   try clear hx354_5; try clear hx354_6; try clear hx365_0; try clear hx365_1; try clear hx365_2; try clear hx365_3; try clear hx365_4; try clear hx365_5
                   try clear hx365_6; try clear p2; try clear p3; try clear p35; try clear p354; try clear p36; try clear p365; try clear p6
                   try clear p64; try clear q3; try clear q35; try clear q354; try clear q36; try clear q365
                   obtain ⟨x145_7, rfl, HA, HK7, HO_1, HO_2, HO_15, HB⟩ := hrel
                   cases gk with
                   | zero => exact absurd HA.out (by simp [tourlaw5_BonesTell.l1])
                   | succ k7 =>
                    have H := HA.out
                    clear HA
                    simp only [tourlaw5_BonesTell.l1] at H
                    by_cases c81 : x145_7 < (t377.length : Int)
                    ·rw [if_pos c81] at H
                     have c81b0 : decide (x145_7 < (t377.length : Int)) = true := decide_eq_true c81
                     clear c81
                     by_cases c82 : 0 ≤ x145_7
                     ·rw [if_pos c82] at H
                      have c82b0 : decide (0 ≤ x145_7) = true := decide_eq_true c82
                      clear c82
                      by_cases c83 : x145_7 < (t377.length : Int)
                      ·rw [if_pos c83] at H
                       have c83b0 : decide (x145_7 < (t377.length : Int)) = true := decide_eq_true c83
                       clear c83
                       by_cases c84 : x145_7 < (l1.length : Int)
                       ·rw [if_pos c84] at H
                        have c84b0 : decide (x145_7 < (l1.length : Int)) = true := decide_eq_true c84
                        clear c84
                        by_cases c85 : x145_7 < (l2.length : Int)
                        ·rw [if_pos c85] at H
                         have c85b0 : decide (x145_7 < (l2.length : Int)) = true := decide_eq_true c85
                         clear c85
                         replace H := Option.bind_eq_some_iff.mp H
                         obtain ⟨⟨t384, t385, t386, t387⟩, A860, H⟩ := H
                         replace H : (if (!(((rd_T37 t377 x145_7).f0) == t384) || (!(((rd_T37 t377 x145_7).f1) == t385) || (!(((rd_T37 t377 x145_7).f2) == t386) || (!(((rd_T37 t377 x145_7).f3) == t387))))) = true then (none) else (tourlaw5_BonesTell.l1 k7 l1 l2 a3 t377 (t377.length : Int) (wrap64 (x145_7 + 1)))) = some r := H
                         have A86 := Aside0.mk A860
                         clear A860
                         by_cases c87 : (!(((rd_T37 t377 x145_7).f0) == t384) || (!(((rd_T37 t377 x145_7).f1) == t385) || (!(((rd_T37 t377 x145_7).f2) == t386) || (!(((rd_T37 t377 x145_7).f3) == t387))))) = true
                         ·rw [if_pos c87] at H
                          exact absurd H (by simp)
                         ·rw [if_neg c87] at H
                          have c87b0 : (!(((rd_T37 t377 x145_7).f0) == t384) || (!(((rd_T37 t377 x145_7).f1) == t385) || (!(((rd_T37 t377 x145_7).f2) == t386) || (!(((rd_T37 t377 x145_7).f3) == t387))))) = false := by simpa using c87
                          clear c87
                          have H' := Aside0.mk H
                          clear H
                          try go_wp2
                          have n0_ := Aside0.mk (Kd.V_drew HO_1.out)
                          have n1_ := Aside0.mk (Kd.V_drew HO_2.out)
                          have n2_ := Aside0.mk (Kd.R_drew HO_15.out)
                          have n3_ := Aside0.mk (below_drew1 HB.out)
                          clear HO_1
                          clear HO_2
                          clear HO_15
                          clear HB
                          have HO_1 := n0_
                          have HO_2 := n1_
                          have HO_15 := n2_
                          have HB := n3_
                          clear n0_ n1_ n2_ n3_
                          have p381 : 0 ≤ (x145_7 : Int) := of_decide_eq_true (by first | (with_reducible assumption) | assumption)
                          have q381 : x145_7 < (t377.length : Int) := of_decide_eq_true (by first | (with_reducible assumption) | assumption)
                          obtain ⟨ad381, e381, hx381_0, hx381_1, hx381_2, hx381_3⟩ := at_T37 (Kd.R_reads' HO_15.out).2.2 x145_7 p381 q381
                          cases e381
                          replace p381 := eq_true p381
                          replace q381 := eq_true q381
                          have p382 : 0 ≤ (x145_7 : Int) := of_decide_eq_true (by first | (with_reducible assumption) | assumption)
                          have q382 : x145_7 < (l1.length : Int) := of_decide_eq_true (by first | (with_reducible assumption) | assumption)
                          obtain ⟨ad382, e382, hx382_0, hx382_1, hx382_2, hx382_3⟩ := at_T37 (Kd.V_reads' HO_1.out).2.2 x145_7 p382 q382
                          cases e382
                          replace p382 := eq_true p382
                          replace q382 := eq_true q382
                          have p383 : 0 ≤ (x145_7 : Int) := of_decide_eq_true (by first | (with_reducible assumption) | assumption)
                          have q383 : x145_7 < (l2.length : Int) := of_decide_eq_true (by first | (with_reducible assumption) | assumption)
                          obtain ⟨ad383, e383, hx383_0, hx383_1, hx383_2, hx383_3⟩ := at_T37 (Kd.V_reads' HO_2.out).2.2 x145_7 p383 q383
                          cases e383
                          replace p383 := eq_true p383
                          replace q383 := eq_true q383
                          refine start_ (n := 15) (S := fun w' => w'.cell? (ad381.add ((x145_7).toNat * 4)) = some (.int .i64 ((rd_T37 t377 x145_7).f0)) ∧ w'.cell? ⟨(ad381.add ((x145_7).toNat * 4)).block, (ad381.add ((x145_7).toNat * 4)).off + 1, none⟩ = some (.int .i64 ((rd_T37 t377 x145_7).f1)) ∧ w'.cell? ⟨(ad381.add ((x145_7).toNat * 4)).block, (ad381.add ((x145_7).toNat * 4)).off + 2, none⟩ = some (.int .i64 ((rd_T37 t377 x145_7).f2)) ∧ w'.cell? ⟨(ad381.add ((x145_7).toNat * 4)).block, (ad381.add ((x145_7).toNat * 4)).off + 3, none⟩ = some (.int .i64 ((rd_T37 t377 x145_7).f3)) ∧ w'.cell? (ad382.add ((x145_7).toNat * 4)) = some (.int .i64 ((rd_T37 l1 x145_7).f0)) ∧ w'.cell? ⟨(ad382.add ((x145_7).toNat * 4)).block, (ad382.add ((x145_7).toNat * 4)).off + 1, none⟩ = some (.int .i64 ((rd_T37 l1 x145_7).f1)) ∧ w'.cell? ⟨(ad382.add ((x145_7).toNat * 4)).block, (ad382.add ((x145_7).toNat * 4)).off + 2, none⟩ = some (.int .i64 ((rd_T37 l1 x145_7).f2)) ∧ w'.cell? ⟨(ad382.add ((x145_7).toNat * 4)).block, (ad382.add ((x145_7).toNat * 4)).off + 3, none⟩ = some (.int .i64 ((rd_T37 l1 x145_7).f3)) ∧ w'.cell? (ad383.add ((x145_7).toNat * 4)) = some (.int .i64 ((rd_T37 l2 x145_7).f0)) ∧ w'.cell? ⟨(ad383.add ((x145_7).toNat * 4)).block, (ad383.add ((x145_7).toNat * 4)).off + 1, none⟩ = some (.int .i64 ((rd_T37 l2 x145_7).f1)) ∧ w'.cell? ⟨(ad383.add ((x145_7).toNat * 4)).block, (ad383.add ((x145_7).toNat * 4)).off + 2, none⟩ = some (.int .i64 ((rd_T37 l2 x145_7).f2)) ∧ w'.cell? ⟨(ad383.add ((x145_7).toNat * 4)).block, (ad383.add ((x145_7).toNat * 4)).off + 3, none⟩ = some (.int .i64 ((rd_T37 l2 x145_7).f3))) (ds := []) (ab 15 0) (by kernel_rfl) rfl rfl ⟨hx381_0, hx381_1, hx381_2, hx381_3, hx382_0, hx382_1, hx382_2, hx382_3, hx383_0, hx383_1, hx383_2, hx383_3⟩ (fun hHeld => ?_); refine with_tabW tourlaw5_BonesTell.tab23 tourlaw5_BonesTell.bits23 (fun HT_ HW_ => ?_)
                          generalize wr.drew = w88 at HO_1 HO_2 HO_15 HB hx381_0 hx381_1 hx381_2 hx381_3 hx382_0 hx382_1 hx382_2 hx382_3 hx383_0 hx383_1 hx383_2 hx383_3 hHeld ⊢
                          refine pure_ (i := 0) (N := some 148) (v := ?_) (a' := ?_) (ab 15 1) rfl rfl (any_of HT_.out (by kernel_rfl)) (fun _ _ _ h => h) (Or.inl ⟨by rfl, ?_⟩) ?_ ?_
                          rotate_left
                          ·intro w'
                           go_simp
                           with_reducible rfl
                          rotate_left
                          ·simp only [Act.put, zq1, zq2, zq3, i64_w, i32_w]
                           rfl
                          refine pure_ (i := 1) (N := some 149) (v := ?_) (a' := ?_) (ab 15 3) rfl rfl (any_of HT_.out (by kernel_rfl)) (fun _ _ _ h => h) (Or.inl ⟨by rfl, ?_⟩) ?_ ?_
                          rotate_left
                          ·intro w'
                           go_simp
                           with_reducible rfl
                          rotate_left
                          ·simp only [Act.put, zq1, zq2, zq3, i64_w, i32_w]
                           rfl
                          refine pure_ (i := 2) (N := some 150) (v := ?_) (a' := ?_) (ab 15 7) rfl rfl (any_of HT_.out (by kernel_rfl)) (fun _ _ _ h => h) (Or.inl ⟨by rfl, ?_⟩) ?_ ?_
                          rotate_left
                          ·intro w'
                           go_simp
                           with_reducible rfl
                          rotate_left
                          ·simp only [Act.put, zq1, zq2, zq3, i64_w, i32_w]
                           rfl
                          refine pure_ (i := 4) (N := some 152) (v := ?_) (a' := ?_) (ab 15 23) rfl rfl (any_of HT_.out (by kernel_rfl)) (fun _ _ _ h => h) (Or.inl ⟨by rfl, ?_⟩) ?_ ?_
                          rotate_left
                          ·intro w'
                           go_simp
                           with_reducible rfl
                          rotate_left
                          ·simp only [Act.put, zq1, zq2, zq3, i64_w, i32_w]
                           rfl
                          refine pure_ (i := 5) (N := some 153) (v := ?_) (a' := ?_) (ab 15 55) rfl rfl (any_of HT_.out (by kernel_rfl)) (fun _ _ _ h => h) (Or.inl ⟨by rfl, ?_⟩) ?_ ?_
                          rotate_left
                          ·intro w'
                           go_simp
                           with_reducible rfl
                          rotate_left
                          ·simp only [Act.put, zq1, zq2, zq3, i64_w, i32_w]
                           rfl
                          refine pure_ (i := 6) (N := some 154) (v := ?_) (a' := ?_) (ab 15 119) rfl rfl (any_of HT_.out (by kernel_rfl)) (fun _ _ _ h => h) (Or.inl ⟨by rfl, ?_⟩) ?_ ?_
                          rotate_left
                          ·intro w'
                           go_simp
                           with_reducible rfl
                          rotate_left
                          ·simp only [Act.put, zq1, zq2, zq3, i64_w, i32_w]
                           rfl
                          refine pure_ (i := 8) (N := some 156) (v := ?_) (a' := ?_) (ab 15 375) rfl rfl (any_of HT_.out (by kernel_rfl)) (fun _ _ _ h => h) (Or.inl ⟨by rfl, ?_⟩) ?_ ?_
                          rotate_left
                          ·intro w'
                           go_simp
                           with_reducible rfl
                          rotate_left
                          ·simp only [Act.put, zq1, zq2, zq3, i64_w, i32_w]
                           rfl
                          refine pure_ (i := 9) (N := some 157) (v := ?_) (a' := ?_) (ab 15 887) rfl rfl (any_of HT_.out (by kernel_rfl)) (fun _ _ _ h => h) (Or.inl ⟨by rfl, ?_⟩) ?_ ?_
                          rotate_left
                          ·intro w'
                           go_simp
                           with_reducible rfl
                          rotate_left
                          ·simp only [Act.put, zq1, zq2, zq3, i64_w, i32_w]
                           rfl
                          refine pure_ (i := 10) (N := some 158) (v := ?_) (a' := ?_) (ab 15 1911) rfl rfl (any_of HT_.out (by kernel_rfl)) (fun _ _ _ h => h) (Or.inl ⟨by rfl, ?_⟩) ?_ ?_
                          rotate_left
                          ·intro w'
                           go_simp
                           with_reducible rfl
                          rotate_left
                          ·simp only [Act.put, zq1, zq2, zq3, i64_w, i32_w]
                           rfl
                          refine pure_ (i := 12) (N := some 160) (v := ?_) (a' := ?_) (ab 15 6007) rfl rfl (any_of HT_.out (by kernel_rfl)) (fun _ _ _ h => h) (Or.inl ⟨by rfl, ?_⟩) ?_ ?_
                          rotate_left
                          ·intro w'
                           go_simp
                           with_reducible rfl
                          rotate_left
                          ·simp only [Act.put, zq1, zq2, zq3, i64_w, i32_w]
                           rfl
                          refine take_ (i := 3) (N := some 151) (v := ?_) (a' := ?_) (ab 15 6015) rfl rfl (take_ofW HT_.out HW_.out (by kernel_rfl)) (fun _ _ _ h => h) (Or.inl ⟨by rfl, ?_⟩) hHeld ?_ ?_
                          rotate_left
                          ·rintro w' ⟨s0, s1, s2, s3, s4, s5, s6, s7, s8, s9, s10, s11⟩
                           go_simp
                           with_reducible rfl
                          rotate_left
                          ·simp only [Act.put, zq1, zq2, zq3, i64_w, i32_w]
                           rfl
                          refine take_ (i := 7) (N := some 155) (v := ?_) (a' := ?_) (ab 15 6143) rfl rfl (take_ofW HT_.out HW_.out (by kernel_rfl)) (fun _ _ _ h => h) (Or.inl ⟨by rfl, ?_⟩) hHeld ?_ ?_
                          rotate_left
                          ·rintro w' ⟨s0, s1, s2, s3, s4, s5, s6, s7, s8, s9, s10, s11⟩
                           go_simp
                           with_reducible rfl
                          rotate_left
                          ·simp only [Act.put, zq1, zq2, zq3, i64_w, i32_w]
                           rfl
                          refine take_ (i := 11) (N := some 159) (v := ?_) (a' := ?_) (ab 15 8191) rfl rfl (take_ofW HT_.out HW_.out (by kernel_rfl)) (fun _ _ _ h => h) (Or.inl ⟨by rfl, ?_⟩) hHeld ?_ ?_
                          rotate_left
                          ·rintro w' ⟨s0, s1, s2, s3, s4, s5, s6, s7, s8, s9, s10, s11⟩
                           go_simp
                           with_reducible rfl
                          rotate_left
                          ·simp only [Act.put, zq1, zq2, zq3, i64_w, i32_w]
                           rfl
                          refine one_ (i := 13) (N := some 161) (ab 15 16383) rfl rfl (one_of HT_.out (by kernel_rfl)) (by decide) (fun K hK => ?_)
                          refine goes_ Try.func15 (by kernel_rfl) rfl #[.agg #[.int .i64 ((rd_T37 l1 x145_7).f0), .int .i64 ((rd_T37 l1 x145_7).f1), .int .i64 ((rd_T37 l1 x145_7).f2), .int .i64 ((rd_T37 l1 x145_7).f3)], .agg #[.int .i64 ((rd_T37 l2 x145_7).f0), .int .i64 ((rd_T37 l2 x145_7).f1), .int .i64 ((rd_T37 l2 x145_7).f2), .int .i64 ((rd_T37 l2 x145_7).f3)], .int .i64 a3] (by rfl) rfl rfl (by (try simp only [zm1, zm2, zm3]); first | done | rfl) ?_
                          with_reducible refine (quat_Blend.calls k7 ((rd_T37 l1 x145_7).f0) ((rd_T37 l1 x145_7).f1) ((rd_T37 l1 x145_7).f2) ((rd_T37 l1 x145_7).f3) ((rd_T37 l2 x145_7).f0) ((rd_T37 l2 x145_7).f1) ((rd_T37 l2 x145_7).f2) ((rd_T37 l2 x145_7).f3) a3 t384 t385 t386 t387 _ A86.out).mono ?_
                          rintro e w89 ⟨rfl, hb⟩
                          have HS0_ := (hb.cell (World.block_lt_of_cell? _ _ (hHeld.1))).trans (hHeld.1)
                          have HS1_ := (hb.cell (World.block_lt_of_cell? _ _ (hHeld.2.1))).trans (hHeld.2.1)
                          have HS2_ := (hb.cell (World.block_lt_of_cell? _ _ (hHeld.2.2.1))).trans (hHeld.2.2.1)
                          have HS3_ := (hb.cell (World.block_lt_of_cell? _ _ (hHeld.2.2.2.1))).trans (hHeld.2.2.2.1)
                          have HS4_ := (hb.cell (World.block_lt_of_cell? _ _ (hHeld.2.2.2.2.1))).trans (hHeld.2.2.2.2.1)
                          have HS5_ := (hb.cell (World.block_lt_of_cell? _ _ (hHeld.2.2.2.2.2.1))).trans (hHeld.2.2.2.2.2.1)
                          have HS6_ := (hb.cell (World.block_lt_of_cell? _ _ (hHeld.2.2.2.2.2.2.1))).trans (hHeld.2.2.2.2.2.2.1)
                          have HS7_ := (hb.cell (World.block_lt_of_cell? _ _ (hHeld.2.2.2.2.2.2.2.1))).trans (hHeld.2.2.2.2.2.2.2.1)
                          have HS8_ := (hb.cell (World.block_lt_of_cell? _ _ (hHeld.2.2.2.2.2.2.2.2.1))).trans (hHeld.2.2.2.2.2.2.2.2.1)
                          have HS9_ := (hb.cell (World.block_lt_of_cell? _ _ (hHeld.2.2.2.2.2.2.2.2.2.1))).trans (hHeld.2.2.2.2.2.2.2.2.2.1)
                          have HS10_ := (hb.cell (World.block_lt_of_cell? _ _ (hHeld.2.2.2.2.2.2.2.2.2.2.1))).trans (hHeld.2.2.2.2.2.2.2.2.2.2.1)
                          have HS11_ := (hb.cell (World.block_lt_of_cell? _ _ (hHeld.2.2.2.2.2.2.2.2.2.2.2))).trans (hHeld.2.2.2.2.2.2.2.2.2.2.2)
                          refine ⟨_, rfl, ?_⟩
                          have n0_ := Aside0.mk (Kd.V_below (by (with_reducible repeat (first | apply Kd.V_alloc | apply Kd.V_drewN | apply Kd.V_drew)); exact HO_1.out) hb)
                          have n1_ := Aside0.mk (Kd.V_below (by (with_reducible repeat (first | apply Kd.V_alloc | apply Kd.V_drewN | apply Kd.V_drew)); exact HO_2.out) hb)
                          have n2_ := Aside0.mk (Kd.R_below (by (with_reducible repeat (first | apply Kd.R_alloc | apply Kd.R_drewN | apply Kd.R_drew)); exact HO_15.out) hb)
                          have n3_ := Aside0.mk (below_step (by repeat (first | (with_reducible first | exact HB.out | apply below_alloc | apply pw_below_drewN | apply below_drew1) | exact HB.out)) hb)
                          clear HO_1
                          clear HO_2
                          clear HO_15
                          clear HB
                          have HO_1 := n0_
                          have HO_2 := n1_
                          have HO_15 := n2_
                          have HB := n3_
                          clear n0_ n1_ n2_ n3_
                          (try clear hb)
                          (try clear hb2)
                          (try clear hk)
                          (try clear hi)
                          refine hK.out _ _ ⟨HS0_, HS1_, HS2_, HS3_, HS4_, HS5_, HS6_, HS7_, HS8_, HS9_, HS10_, HS11_⟩ (fun hHeld => ?_)
                          clear hK K
                          refine norm_ (a' := ?_) ?_ ?_
                          rotate_left
                          ·show Act.put _ (some 161) _ = _
                           simp only [Act.put, zq1, zq2, zq3, i64_w, i32_w]
                           rfl
                          refine pure_ (i := 14) (N := some 162) (v := ?_) (a' := ?_) (ab 15 32767) rfl rfl (any_of HT_.out (by kernel_rfl)) (fun _ _ _ h => h) (Or.inl ⟨by rfl, ?_⟩) ?_ ?_
                          rotate_left
                          ·intro w'
                           go_simp
                           with_reducible rfl
                          rotate_left
                          ·simp only [Act.put, zq1, zq2, zq3, i64_w, i32_w]
                           rfl
                          refine done_ (done_of HT_.out (by kernel_rfl)) ?_
                          try go_wp2
                          go_roundg k7
                          case measure => have := HJ7.out; have := HJ25.out; have := HK3.out; have := HJ60.out; have := HJ67.out; have := HJ70.out; have := HK7.out; omega
                          case rel => exact ⟨(wrap64 (x145_7 + 1)), (by first | rfl | (simp; done) | (simp [*]; done)), H', ⟨by have := HJ7.out; have := HJ25.out; have := HK3.out; have := HJ60.out; have := HJ67.out; have := HJ70.out; have := HK7.out; omega⟩, ⟨by (with_reducible repeat (first | apply Kd.V_alloc | apply Kd.V_drewN | apply Kd.V_drew)); exact HO_1.out⟩, ⟨by (with_reducible repeat (first | apply Kd.V_alloc | apply Kd.V_drewN | apply Kd.V_drew)); exact HO_2.out⟩, ⟨by (with_reducible repeat (first | apply Kd.R_alloc | apply Kd.R_drewN | apply Kd.R_drew)); exact HO_15.out⟩, ⟨by repeat (first | (with_reducible first | exact HB.out | apply below_alloc | apply pw_below_drewN | apply below_drew1) | exact HB.out)⟩⟩
                        ·rw [if_neg c85] at H
                         exact absurd H (by simp)
                       ·rw [if_neg c84] at H
                        exact absurd H (by simp)
                      ·rw [if_neg c83] at H
                       exact absurd H (by simp)
                     ·rw [if_neg c82] at H
                      exact absurd H (by simp)
                    ·rw [if_neg c81] at H
                     have c81b0 : decide (x145_7 < (t377.length : Int)) = false := decide_eq_false c81
                     clear c81
                     obtain rfl := Option.some.inj H
                     go_wp2
                     go_ret
                     exact ⟨by first | rfl | (simp [errW_none, errW_some] <;> rfl) | (simp [*, errW_none, errW_some] <;> rfl), by repeat (first | (with_reducible first | exact HB.out | apply below_alloc | apply pw_below_drewN | apply below_drew1) | exact HB.out)⟩
 ·rw [if_neg c5] at H
  exact absurd H (by simp)

end Go.Proofs.Ytfallkiaojefnaa.PBonesTell
