-- Printed by a program: the print with changes of this session (wip/printpatch.py).
import Derived.Test.YtdopeneehminaaaPSteerPartsx0
import Derived.Test.YtdopeneehminaaaPSteerPartsx1
import Derived.Test.YtdopeneehminaaaPSteerPartsx2
import Derived.Test.YtdopeneehminaaaPSteerPartsx4
import Derived.Test.YtdopeneehminaaaPSteerPartsx5
import Derived.Test.YtdopeneehminaaaPSteerPartsx7
import Derived.Test.YtdopeneehminaaaPSteerPartsx8
import Derived.Test.YtdopeneehminaaaPSteerPartsx9
namespace Go.Proofs.Ytdopeneehminaaa.PSteerParts
open Go.Proofs.Ytdopeneehminaaa.Ext
open Go.RowKit Go.Proofs.YtdopeneehminaaaW.PrintWords Go.Proofs.YtdopeneehminaaaW.PrintLast Go.Proofs.YtdopeneehminaaaW.PrintMore
attribute [local go_sem] max2_int min2_int max_two min_two max_three min_three max_four min_four   -- for this text's walks alone
set_option linter.unusedVariables false
set_option linter.unusedSimpArgs false

attribute [local go_sem high] eqA29
/-! ### tourlaw5_SteerParts: function 3 -/
mutual
def tourlaw5_SteerParts.j0 : Nat → List (S29) → Int → Bool → Option (Bool)
 | 0, _, _, _ => none
 | k + 1, x0, x1, x30 => if x30 = true then (some false) else (if (x0.length : Int) > 64 then (tourlaw5_SteerParts.j1 k x0 x1 2) else (tourlaw5_SteerParts.j1 k x0 x1 0))
def tourlaw5_SteerParts.j1 : Nat → List (S29) → Int → Int → Option (Bool)
 | 0, _, _, _ => none
 | k + 1, x0, x1, x7 => tourlaw5_SteerParts.l0 k x0 x1 x7 x0 (x0.length : Int) 0
def tourlaw5_SteerParts.l0 : Nat → List (S29) → Int → Int → List (S29) → Int → Int → Option (Bool)
 | 0, _, _, _, _, _, _ => none
 | k + 1, x0, x1, x7, x34, x35, x36 => if x36 < x35 then (if 0 ≤ x36 then (if x36 < (x34.length : Int) then (if x7 = 0 then ((tourref5_MoverFault.f k ((rd_T29 x34 x36).f0.f0) ((rd_T29 x34 x36).f0.f1) ((rd_T29 x34 x36).f1.f0) ((rd_T29 x34 x36).f1.f1) ((rd_T29 x34 x36).f2) ((rd_T29 x34 x36).f3)).bind fun t255 => (tourlaw5_SteerParts.l0 k x0 x1 t255 x34 x35 (wrap64 (x36 + 1)))) else (tourlaw5_SteerParts.l0 k x0 x1 x7 x34 x35 (wrap64 (x36 + 1)))) else (none)) else (none)) else (if x7 = 0 then (if x1 < 0 then (tourlaw5_SteerParts.j3 k x0 x1 x7 true) else (tourlaw5_SteerParts.j3 k x0 x1 x7 (decide (x1 > 1099511627776)))) else (tourlaw5_SteerParts.j3 k x0 x1 x7 false))
def tourlaw5_SteerParts.j3 : Nat → List (S29) → Int → Int → Bool → Option (Bool)
 | 0, _, _, _, _ => none
 | k + 1, x0, x1, x7, x54 => if x54 = true then (tourlaw5_SteerParts.j4 k x0 x1 1) else (tourlaw5_SteerParts.j4 k x0 x1 x7)
def tourlaw5_SteerParts.j4 : Nat → List (S29) → Int → Int → Option (Bool)
 | 0, _, _, _ => none
 | k + 1, x0, x1, x7 => (steer_Apart.f k x0 x1).bind fun bt256 => (if x7 = 0 then (if bt256.2 = 0 then (tourlaw5_SteerParts.j5 k x0 x1 bt256.1 ((bt256.1.length : Int) != (x0.length : Int))) else (tourlaw5_SteerParts.j5 k x0 x1 bt256.1 true)) else (if bt256.2 = x7 then (some ((bt256.1.length : Int) == 0)) else (some false)))
def tourlaw5_SteerParts.j5 : Nat → List (S29) → Int → List (S29) → Bool → Option (Bool)
 | 0, _, _, _, _ => none
 | k + 1, x0, x1, x10, x79 => if x79 = true then (some false) else (tourlaw5_SteerParts.l1 k x0 x1 x10 x0 (x0.length : Int) 0)
def tourlaw5_SteerParts.l1 : Nat → List (S29) → Int → List (S29) → List (S29) → Int → Int → Option (Bool)
 | 0, _, _, _, _, _, _ => none
 | k + 1, x0, x1, x10, x80, x81, x82 => if x82 < x81 then (if 0 ≤ x82 then (if x82 < (x80.length : Int) then (tourlaw5_SteerParts.l2 k x0 x1 x10 x82 x80 x81 x82 x0 (x0.length : Int) 0 ((rd_T29 x80 x82).f0.f0) ((rd_T29 x80 x82).f0.f1) ((rd_T29 x80 x82).f1.f0) ((rd_T29 x80 x82).f1.f1) ((rd_T29 x80 x82).f2) ((rd_T29 x80 x82).f3) ((rd_T29 x80 x82).f1.f0) ((rd_T29 x80 x82).f1.f1)) else (none)) else (none)) else (some true)
def tourlaw5_SteerParts.l2 : Nat → List (S29) → Int → List (S29) → Int → List (S29) → Int → Int → List (S29) → Int → Int → Int → Int → Int → Int → Int → Int → Int → Int → Option (Bool)
 | 0, _, _, _, _, _, _, _, _, _, _, _, _, _, _, _, _, _, _ => none
 | k + 1, x0, x1, x10, x12, x80, x81, x82, x89, x90, x91, x262000, x262001, x262002, x262003, x262004, x262005, x263000, x263001 => if x91 < x90 then (if 0 ≤ x91 then (if x91 < (x89.length : Int) then ((vec_Sub.f x262000 x262001 ((rd_T29 x89 x91).f0.f0) ((rd_T29 x89 x91).f0.f1)).bind fun bt272 => (if x91 = x12 then (tourlaw5_SteerParts.j8 k x0 x1 x10 x12 x80 x81 x82 x89 x90 x91 false x262000 x262001 x262002 x262003 x262004 x262005 x263000 x263001 bt272.1 bt272.2) else ((vec_Len.f k bt272.1 bt272.2).bind fun t275 => (if t275 > 0 then ((vec_Len.f k bt272.1 bt272.2).bind fun t276 => (tourlaw5_SteerParts.j8 k x0 x1 x10 x12 x80 x81 x82 x89 x90 x91 (decide (t276 < x1)) x262000 x262001 x262002 x262003 x262004 x262005 x263000 x263001 bt272.1 bt272.2)) else (tourlaw5_SteerParts.j8 k x0 x1 x10 x12 x80 x81 x82 x89 x90 x91 false x262000 x262001 x262002 x262003 x262004 x262005 x263000 x263001 bt272.1 bt272.2))))) else (none)) else (none)) else (if 0 ≤ x12 then (if x12 < (x10.length : Int) then ((tourref5_Steered.f k x262000 x262001 x262002 x262003 x262004 x262005 x263000 x263001).bind fun bt264 => (if ((!(((rd_T29 x10 x12).f0.f0) == bt264.1) || (!(((rd_T29 x10 x12).f0.f1) == bt264.2.1))) || ((!(((rd_T29 x10 x12).f1.f0) == bt264.2.2.1) || (!(((rd_T29 x10 x12).f1.f1) == bt264.2.2.2.1))) || (!(((rd_T29 x10 x12).f2) == bt264.2.2.2.2.1) || (!(((rd_T29 x10 x12).f3) == bt264.2.2.2.2.2))))) = true then (some false) else (tourlaw5_SteerParts.l1 k x0 x1 x10 x80 x81 (wrap64 (x82 + 1))))) else (none)) else (none))
def tourlaw5_SteerParts.j8 : Nat → List (S29) → Int → List (S29) → Int → List (S29) → Int → Int → List (S29) → Int → Int → Bool → Int → Int → Int → Int → Int → Int → Int → Int → Int → Int → Option (Bool)
 | 0, _, _, _, _, _, _, _, _, _, _, _, _, _, _, _, _, _, _, _, _, _ => none
 | k + 1, x0, x1, x10, x12, x80, x81, x82, x89, x90, x91, x114, x262000, x262001, x262002, x262003, x262004, x262005, x263000, x263001, x275000, x275001 => if x114 = true then ((vec_Unit.f k x275000 x275001).bind fun bt277 => ((vec_Len.f k x275000 x275001).bind fun t279 => ((fix_MulDiv.f k x262004 (wrap64 (x1 - t279)) x1).bind fun t280 => ((vec_Scale.f k bt277.1 bt277.2 t280).bind fun bt281 => ((vec_Add.f x263000 x263001 bt281.1 bt281.2).bind fun bt283 => (tourlaw5_SteerParts.l2 k x0 x1 x10 x12 x80 x81 x82 x89 x90 (wrap64 (x91 + 1)) x262000 x262001 x262002 x262003 x262004 x262005 bt283.1 bt283.2)))))) else (tourlaw5_SteerParts.l2 k x0 x1 x10 x12 x80 x81 x82 x89 x90 (wrap64 (x91 + 1)) x262000 x262001 x262002 x262003 x262004 x262005 x263000 x263001)
end
def tourlaw5_SteerParts.f (k : Nat) (l0 : List (S29)) (a1 : Int) : Option (Bool) := (steer_Apart.f k (([(⟨(⟨0, 0⟩ : S27), (⟨0, 0⟩ : S27), 0, 0⟩ : S29)] : List (S29))) 1).bind fun bt249 => (if bt249.2 = 0 then (tourlaw5_SteerParts.j0 k l0 a1 ((bt249.1.length : Int) != 1)) else (tourlaw5_SteerParts.j0 k l0 a1 true))
theorem tourlaw5_SteerParts.mono_l : ∀ k, (∀ y0 y1 y2, LeO (tourlaw5_SteerParts.j0 k y0 y1 y2) (tourlaw5_SteerParts.j0 (k + 1) y0 y1 y2)) ∧ (∀ y0 y1 y2, LeO (tourlaw5_SteerParts.j1 k y0 y1 y2) (tourlaw5_SteerParts.j1 (k + 1) y0 y1 y2)) ∧ (∀ y0 y1 y2 y3 y4 y5, LeO (tourlaw5_SteerParts.l0 k y0 y1 y2 y3 y4 y5) (tourlaw5_SteerParts.l0 (k + 1) y0 y1 y2 y3 y4 y5)) ∧ (∀ y0 y1 y2 y3, LeO (tourlaw5_SteerParts.j3 k y0 y1 y2 y3) (tourlaw5_SteerParts.j3 (k + 1) y0 y1 y2 y3)) ∧ (∀ y0 y1 y2, LeO (tourlaw5_SteerParts.j4 k y0 y1 y2) (tourlaw5_SteerParts.j4 (k + 1) y0 y1 y2)) ∧ (∀ y0 y1 y2 y3, LeO (tourlaw5_SteerParts.j5 k y0 y1 y2 y3) (tourlaw5_SteerParts.j5 (k + 1) y0 y1 y2 y3)) ∧ (∀ y0 y1 y2 y3 y4 y5, LeO (tourlaw5_SteerParts.l1 k y0 y1 y2 y3 y4 y5) (tourlaw5_SteerParts.l1 (k + 1) y0 y1 y2 y3 y4 y5)) ∧ (∀ y0 y1 y2 y3 y4 y5 y6 y7 y8 y9 y10 y11 y12 y13 y14 y15 y16 y17, LeO (tourlaw5_SteerParts.l2 k y0 y1 y2 y3 y4 y5 y6 y7 y8 y9 y10 y11 y12 y13 y14 y15 y16 y17) (tourlaw5_SteerParts.l2 (k + 1) y0 y1 y2 y3 y4 y5 y6 y7 y8 y9 y10 y11 y12 y13 y14 y15 y16 y17)) ∧ (∀ y0 y1 y2 y3 y4 y5 y6 y7 y8 y9 y10 y11 y12 y13 y14 y15 y16 y17 y18 y19 y20, LeO (tourlaw5_SteerParts.j8 k y0 y1 y2 y3 y4 y5 y6 y7 y8 y9 y10 y11 y12 y13 y14 y15 y16 y17 y18 y19 y20) (tourlaw5_SteerParts.j8 (k + 1) y0 y1 y2 y3 y4 y5 y6 y7 y8 y9 y10 y11 y12 y13 y14 y15 y16 y17 y18 y19 y20))
 | 0 => ⟨fun _ _ _ r h => by simp [tourlaw5_SteerParts.j0] at h, fun _ _ _ r h => by simp [tourlaw5_SteerParts.j1] at h, fun _ _ _ _ _ _ r h => by simp [tourlaw5_SteerParts.l0] at h, fun _ _ _ _ r h => by simp [tourlaw5_SteerParts.j3] at h, fun _ _ _ r h => by simp [tourlaw5_SteerParts.j4] at h, fun _ _ _ _ r h => by simp [tourlaw5_SteerParts.j5] at h, fun _ _ _ _ _ _ r h => by simp [tourlaw5_SteerParts.l1] at h, fun _ _ _ _ _ _ _ _ _ _ _ _ _ _ _ _ _ _ r h => by simp [tourlaw5_SteerParts.l2] at h, fun _ _ _ _ _ _ _ _ _ _ _ _ _ _ _ _ _ _ _ _ _ r h => by simp [tourlaw5_SteerParts.j8] at h⟩
 | k + 1 => by
  obtain ⟨ih0, ih1, ih2, ih3, ih4, ih5, ih6, ih7, ih8⟩ := tourlaw5_SteerParts.mono_l k
  refine ⟨?_, ?_, ?_, ?_, ?_, ?_, ?_, ?_, ?_⟩
  ·intro y0 y1 y2
   unfold tourlaw5_SteerParts.j0
   repeat' first
   | (with_reducible exact ih0 _ _ _)
   | (with_reducible exact ih1 _ _ _)
   | (with_reducible exact ih2 _ _ _ _ _ _)
   | (with_reducible exact ih3 _ _ _ _)
   | (with_reducible exact ih4 _ _ _)
   | (with_reducible exact ih5 _ _ _ _)
   | (with_reducible exact ih6 _ _ _ _ _ _)
   | (with_reducible exact ih7 _ _ _ _ _ _ _ _ _ _ _ _ _ _ _ _ _ _)
   | (with_reducible exact ih8 _ _ _ _ _ _ _ _ _ _ _ _ _ _ _ _ _ _ _ _ _)
   | (with_reducible exact fix_MulDiv.mono _ _ _ _)
   | (with_reducible exact steer_Apart.mono _ _ _)
   | (with_reducible exact tourref5_MoverFault.mono _ _ _ _ _ _ _)
   | (with_reducible exact tourref5_Steered.mono _ _ _ _ _ _ _ _ _)
   | (with_reducible exact vec_Len.mono _ _ _)
   | (with_reducible exact vec_Scale.mono _ _ _ _)
   | (with_reducible exact vec_Unit.mono _ _ _)
   | (with_reducible exact LeO.refl _)
   | (with_reducible exact LeO.none _)
   | (with_reducible refine LeO.ite ?_ ?_)
   | (with_reducible refine LeO.bind ?_ (fun _ => ?_))
   | exact ih0 _ _ _
   | exact ih1 _ _ _
   | exact ih2 _ _ _ _ _ _
   | exact ih3 _ _ _ _
   | exact ih4 _ _ _
   | exact ih5 _ _ _ _
   | exact ih6 _ _ _ _ _ _
   | exact ih7 _ _ _ _ _ _ _ _ _ _ _ _ _ _ _ _ _ _
   | exact ih8 _ _ _ _ _ _ _ _ _ _ _ _ _ _ _ _ _ _ _ _ _
   | exact fix_MulDiv.mono _ _ _ _
   | exact steer_Apart.mono _ _ _
   | exact tourref5_MoverFault.mono _ _ _ _ _ _ _
   | exact tourref5_Steered.mono _ _ _ _ _ _ _ _ _
   | exact vec_Len.mono _ _ _
   | exact vec_Scale.mono _ _ _ _
   | exact vec_Unit.mono _ _ _
   | exact LeO.none _
   | refine LeO.ite ?_ ?_
   | refine LeO.bind ?_ (fun _ => ?_)
  ·intro y0 y1 y2
   unfold tourlaw5_SteerParts.j1
   repeat' first
   | (with_reducible exact ih0 _ _ _)
   | (with_reducible exact ih1 _ _ _)
   | (with_reducible exact ih2 _ _ _ _ _ _)
   | (with_reducible exact ih3 _ _ _ _)
   | (with_reducible exact ih4 _ _ _)
   | (with_reducible exact ih5 _ _ _ _)
   | (with_reducible exact ih6 _ _ _ _ _ _)
   | (with_reducible exact ih7 _ _ _ _ _ _ _ _ _ _ _ _ _ _ _ _ _ _)
   | (with_reducible exact ih8 _ _ _ _ _ _ _ _ _ _ _ _ _ _ _ _ _ _ _ _ _)
   | (with_reducible exact fix_MulDiv.mono _ _ _ _)
   | (with_reducible exact steer_Apart.mono _ _ _)
   | (with_reducible exact tourref5_MoverFault.mono _ _ _ _ _ _ _)
   | (with_reducible exact tourref5_Steered.mono _ _ _ _ _ _ _ _ _)
   | (with_reducible exact vec_Len.mono _ _ _)
   | (with_reducible exact vec_Scale.mono _ _ _ _)
   | (with_reducible exact vec_Unit.mono _ _ _)
   | (with_reducible exact LeO.refl _)
   | (with_reducible exact LeO.none _)
   | (with_reducible refine LeO.ite ?_ ?_)
   | (with_reducible refine LeO.bind ?_ (fun _ => ?_))
   | exact ih0 _ _ _
   | exact ih1 _ _ _
   | exact ih2 _ _ _ _ _ _
   | exact ih3 _ _ _ _
   | exact ih4 _ _ _
   | exact ih5 _ _ _ _
   | exact ih6 _ _ _ _ _ _
   | exact ih7 _ _ _ _ _ _ _ _ _ _ _ _ _ _ _ _ _ _
   | exact ih8 _ _ _ _ _ _ _ _ _ _ _ _ _ _ _ _ _ _ _ _ _
   | exact fix_MulDiv.mono _ _ _ _
   | exact steer_Apart.mono _ _ _
   | exact tourref5_MoverFault.mono _ _ _ _ _ _ _
   | exact tourref5_Steered.mono _ _ _ _ _ _ _ _ _
   | exact vec_Len.mono _ _ _
   | exact vec_Scale.mono _ _ _ _
   | exact vec_Unit.mono _ _ _
   | exact LeO.none _
   | refine LeO.ite ?_ ?_
   | refine LeO.bind ?_ (fun _ => ?_)
  ·intro y0 y1 y2 y3 y4 y5
   unfold tourlaw5_SteerParts.l0
   repeat' first
   | (with_reducible exact ih0 _ _ _)
   | (with_reducible exact ih1 _ _ _)
   | (with_reducible exact ih2 _ _ _ _ _ _)
   | (with_reducible exact ih3 _ _ _ _)
   | (with_reducible exact ih4 _ _ _)
   | (with_reducible exact ih5 _ _ _ _)
   | (with_reducible exact ih6 _ _ _ _ _ _)
   | (with_reducible exact ih7 _ _ _ _ _ _ _ _ _ _ _ _ _ _ _ _ _ _)
   | (with_reducible exact ih8 _ _ _ _ _ _ _ _ _ _ _ _ _ _ _ _ _ _ _ _ _)
   | (with_reducible exact fix_MulDiv.mono _ _ _ _)
   | (with_reducible exact steer_Apart.mono _ _ _)
   | (with_reducible exact tourref5_MoverFault.mono _ _ _ _ _ _ _)
   | (with_reducible exact tourref5_Steered.mono _ _ _ _ _ _ _ _ _)
   | (with_reducible exact vec_Len.mono _ _ _)
   | (with_reducible exact vec_Scale.mono _ _ _ _)
   | (with_reducible exact vec_Unit.mono _ _ _)
   | (with_reducible exact LeO.refl _)
   | (with_reducible exact LeO.none _)
   | (with_reducible refine LeO.ite ?_ ?_)
   | (with_reducible refine LeO.bind ?_ (fun _ => ?_))
   | exact ih0 _ _ _
   | exact ih1 _ _ _
   | exact ih2 _ _ _ _ _ _
   | exact ih3 _ _ _ _
   | exact ih4 _ _ _
   | exact ih5 _ _ _ _
   | exact ih6 _ _ _ _ _ _
   | exact ih7 _ _ _ _ _ _ _ _ _ _ _ _ _ _ _ _ _ _
   | exact ih8 _ _ _ _ _ _ _ _ _ _ _ _ _ _ _ _ _ _ _ _ _
   | exact fix_MulDiv.mono _ _ _ _
   | exact steer_Apart.mono _ _ _
   | exact tourref5_MoverFault.mono _ _ _ _ _ _ _
   | exact tourref5_Steered.mono _ _ _ _ _ _ _ _ _
   | exact vec_Len.mono _ _ _
   | exact vec_Scale.mono _ _ _ _
   | exact vec_Unit.mono _ _ _
   | exact LeO.none _
   | refine LeO.ite ?_ ?_
   | refine LeO.bind ?_ (fun _ => ?_)
  ·intro y0 y1 y2 y3
   unfold tourlaw5_SteerParts.j3
   repeat' first
   | (with_reducible exact ih0 _ _ _)
   | (with_reducible exact ih1 _ _ _)
   | (with_reducible exact ih2 _ _ _ _ _ _)
   | (with_reducible exact ih3 _ _ _ _)
   | (with_reducible exact ih4 _ _ _)
   | (with_reducible exact ih5 _ _ _ _)
   | (with_reducible exact ih6 _ _ _ _ _ _)
   | (with_reducible exact ih7 _ _ _ _ _ _ _ _ _ _ _ _ _ _ _ _ _ _)
   | (with_reducible exact ih8 _ _ _ _ _ _ _ _ _ _ _ _ _ _ _ _ _ _ _ _ _)
   | (with_reducible exact fix_MulDiv.mono _ _ _ _)
   | (with_reducible exact steer_Apart.mono _ _ _)
   | (with_reducible exact tourref5_MoverFault.mono _ _ _ _ _ _ _)
   | (with_reducible exact tourref5_Steered.mono _ _ _ _ _ _ _ _ _)
   | (with_reducible exact vec_Len.mono _ _ _)
   | (with_reducible exact vec_Scale.mono _ _ _ _)
   | (with_reducible exact vec_Unit.mono _ _ _)
   | (with_reducible exact LeO.refl _)
   | (with_reducible exact LeO.none _)
   | (with_reducible refine LeO.ite ?_ ?_)
   | (with_reducible refine LeO.bind ?_ (fun _ => ?_))
   | exact ih0 _ _ _
   | exact ih1 _ _ _
   | exact ih2 _ _ _ _ _ _
   | exact ih3 _ _ _ _
   | exact ih4 _ _ _
   | exact ih5 _ _ _ _
   | exact ih6 _ _ _ _ _ _
   | exact ih7 _ _ _ _ _ _ _ _ _ _ _ _ _ _ _ _ _ _
   | exact ih8 _ _ _ _ _ _ _ _ _ _ _ _ _ _ _ _ _ _ _ _ _
   | exact fix_MulDiv.mono _ _ _ _
   | exact steer_Apart.mono _ _ _
   | exact tourref5_MoverFault.mono _ _ _ _ _ _ _
   | exact tourref5_Steered.mono _ _ _ _ _ _ _ _ _
   | exact vec_Len.mono _ _ _
   | exact vec_Scale.mono _ _ _ _
   | exact vec_Unit.mono _ _ _
   | exact LeO.none _
   | refine LeO.ite ?_ ?_
   | refine LeO.bind ?_ (fun _ => ?_)
  ·intro y0 y1 y2
   unfold tourlaw5_SteerParts.j4
   repeat' first
   | (with_reducible exact ih0 _ _ _)
   | (with_reducible exact ih1 _ _ _)
   | (with_reducible exact ih2 _ _ _ _ _ _)
   | (with_reducible exact ih3 _ _ _ _)
   | (with_reducible exact ih4 _ _ _)
   | (with_reducible exact ih5 _ _ _ _)
   | (with_reducible exact ih6 _ _ _ _ _ _)
   | (with_reducible exact ih7 _ _ _ _ _ _ _ _ _ _ _ _ _ _ _ _ _ _)
   | (with_reducible exact ih8 _ _ _ _ _ _ _ _ _ _ _ _ _ _ _ _ _ _ _ _ _)
   | (with_reducible exact fix_MulDiv.mono _ _ _ _)
   | (with_reducible exact steer_Apart.mono _ _ _)
   | (with_reducible exact tourref5_MoverFault.mono _ _ _ _ _ _ _)
   | (with_reducible exact tourref5_Steered.mono _ _ _ _ _ _ _ _ _)
   | (with_reducible exact vec_Len.mono _ _ _)
   | (with_reducible exact vec_Scale.mono _ _ _ _)
   | (with_reducible exact vec_Unit.mono _ _ _)
   | (with_reducible exact LeO.refl _)
   | (with_reducible exact LeO.none _)
   | (with_reducible refine LeO.ite ?_ ?_)
   | (with_reducible refine LeO.bind ?_ (fun _ => ?_))
   | exact ih0 _ _ _
   | exact ih1 _ _ _
   | exact ih2 _ _ _ _ _ _
   | exact ih3 _ _ _ _
   | exact ih4 _ _ _
   | exact ih5 _ _ _ _
   | exact ih6 _ _ _ _ _ _
   | exact ih7 _ _ _ _ _ _ _ _ _ _ _ _ _ _ _ _ _ _
   | exact ih8 _ _ _ _ _ _ _ _ _ _ _ _ _ _ _ _ _ _ _ _ _
   | exact fix_MulDiv.mono _ _ _ _
   | exact steer_Apart.mono _ _ _
   | exact tourref5_MoverFault.mono _ _ _ _ _ _ _
   | exact tourref5_Steered.mono _ _ _ _ _ _ _ _ _
   | exact vec_Len.mono _ _ _
   | exact vec_Scale.mono _ _ _ _
   | exact vec_Unit.mono _ _ _
   | exact LeO.none _
   | refine LeO.ite ?_ ?_
   | refine LeO.bind ?_ (fun _ => ?_)
  ·intro y0 y1 y2 y3
   unfold tourlaw5_SteerParts.j5
   repeat' first
   | (with_reducible exact ih0 _ _ _)
   | (with_reducible exact ih1 _ _ _)
   | (with_reducible exact ih2 _ _ _ _ _ _)
   | (with_reducible exact ih3 _ _ _ _)
   | (with_reducible exact ih4 _ _ _)
   | (with_reducible exact ih5 _ _ _ _)
   | (with_reducible exact ih6 _ _ _ _ _ _)
   | (with_reducible exact ih7 _ _ _ _ _ _ _ _ _ _ _ _ _ _ _ _ _ _)
   | (with_reducible exact ih8 _ _ _ _ _ _ _ _ _ _ _ _ _ _ _ _ _ _ _ _ _)
   | (with_reducible exact fix_MulDiv.mono _ _ _ _)
   | (with_reducible exact steer_Apart.mono _ _ _)
   | (with_reducible exact tourref5_MoverFault.mono _ _ _ _ _ _ _)
   | (with_reducible exact tourref5_Steered.mono _ _ _ _ _ _ _ _ _)
   | (with_reducible exact vec_Len.mono _ _ _)
   | (with_reducible exact vec_Scale.mono _ _ _ _)
   | (with_reducible exact vec_Unit.mono _ _ _)
   | (with_reducible exact LeO.refl _)
   | (with_reducible exact LeO.none _)
   | (with_reducible refine LeO.ite ?_ ?_)
   | (with_reducible refine LeO.bind ?_ (fun _ => ?_))
   | exact ih0 _ _ _
   | exact ih1 _ _ _
   | exact ih2 _ _ _ _ _ _
   | exact ih3 _ _ _ _
   | exact ih4 _ _ _
   | exact ih5 _ _ _ _
   | exact ih6 _ _ _ _ _ _
   | exact ih7 _ _ _ _ _ _ _ _ _ _ _ _ _ _ _ _ _ _
   | exact ih8 _ _ _ _ _ _ _ _ _ _ _ _ _ _ _ _ _ _ _ _ _
   | exact fix_MulDiv.mono _ _ _ _
   | exact steer_Apart.mono _ _ _
   | exact tourref5_MoverFault.mono _ _ _ _ _ _ _
   | exact tourref5_Steered.mono _ _ _ _ _ _ _ _ _
   | exact vec_Len.mono _ _ _
   | exact vec_Scale.mono _ _ _ _
   | exact vec_Unit.mono _ _ _
   | exact LeO.none _
   | refine LeO.ite ?_ ?_
   | refine LeO.bind ?_ (fun _ => ?_)
  ·intro y0 y1 y2 y3 y4 y5
   unfold tourlaw5_SteerParts.l1
   repeat' first
   | (with_reducible exact ih0 _ _ _)
   | (with_reducible exact ih1 _ _ _)
   | (with_reducible exact ih2 _ _ _ _ _ _)
   | (with_reducible exact ih3 _ _ _ _)
   | (with_reducible exact ih4 _ _ _)
   | (with_reducible exact ih5 _ _ _ _)
   | (with_reducible exact ih6 _ _ _ _ _ _)
   | (with_reducible exact ih7 _ _ _ _ _ _ _ _ _ _ _ _ _ _ _ _ _ _)
   | (with_reducible exact ih8 _ _ _ _ _ _ _ _ _ _ _ _ _ _ _ _ _ _ _ _ _)
   | (with_reducible exact fix_MulDiv.mono _ _ _ _)
   | (with_reducible exact steer_Apart.mono _ _ _)
   | (with_reducible exact tourref5_MoverFault.mono _ _ _ _ _ _ _)
   | (with_reducible exact tourref5_Steered.mono _ _ _ _ _ _ _ _ _)
   | (with_reducible exact vec_Len.mono _ _ _)
   | (with_reducible exact vec_Scale.mono _ _ _ _)
   | (with_reducible exact vec_Unit.mono _ _ _)
   | (with_reducible exact LeO.refl _)
   | (with_reducible exact LeO.none _)
   | (with_reducible refine LeO.ite ?_ ?_)
   | (with_reducible refine LeO.bind ?_ (fun _ => ?_))
   | exact ih0 _ _ _
   | exact ih1 _ _ _
   | exact ih2 _ _ _ _ _ _
   | exact ih3 _ _ _ _
   | exact ih4 _ _ _
   | exact ih5 _ _ _ _
   | exact ih6 _ _ _ _ _ _
   | exact ih7 _ _ _ _ _ _ _ _ _ _ _ _ _ _ _ _ _ _
   | exact ih8 _ _ _ _ _ _ _ _ _ _ _ _ _ _ _ _ _ _ _ _ _
   | exact fix_MulDiv.mono _ _ _ _
   | exact steer_Apart.mono _ _ _
   | exact tourref5_MoverFault.mono _ _ _ _ _ _ _
   | exact tourref5_Steered.mono _ _ _ _ _ _ _ _ _
   | exact vec_Len.mono _ _ _
   | exact vec_Scale.mono _ _ _ _
   | exact vec_Unit.mono _ _ _
   | exact LeO.none _
   | refine LeO.ite ?_ ?_
   | refine LeO.bind ?_ (fun _ => ?_)
  ·intro y0 y1 y2 y3 y4 y5 y6 y7 y8 y9 y10 y11 y12 y13 y14 y15 y16 y17
   unfold tourlaw5_SteerParts.l2
   repeat' first
   | (with_reducible exact ih0 _ _ _)
   | (with_reducible exact ih1 _ _ _)
   | (with_reducible exact ih2 _ _ _ _ _ _)
   | (with_reducible exact ih3 _ _ _ _)
   | (with_reducible exact ih4 _ _ _)
   | (with_reducible exact ih5 _ _ _ _)
   | (with_reducible exact ih6 _ _ _ _ _ _)
   | (with_reducible exact ih7 _ _ _ _ _ _ _ _ _ _ _ _ _ _ _ _ _ _)
   | (with_reducible exact ih8 _ _ _ _ _ _ _ _ _ _ _ _ _ _ _ _ _ _ _ _ _)
   | (with_reducible exact fix_MulDiv.mono _ _ _ _)
   | (with_reducible exact steer_Apart.mono _ _ _)
   | (with_reducible exact tourref5_MoverFault.mono _ _ _ _ _ _ _)
   | (with_reducible exact tourref5_Steered.mono _ _ _ _ _ _ _ _ _)
   | (with_reducible exact vec_Len.mono _ _ _)
   | (with_reducible exact vec_Scale.mono _ _ _ _)
   | (with_reducible exact vec_Unit.mono _ _ _)
   | (with_reducible exact LeO.refl _)
   | (with_reducible exact LeO.none _)
   | (with_reducible refine LeO.ite ?_ ?_)
   | (with_reducible refine LeO.bind ?_ (fun _ => ?_))
   | exact ih0 _ _ _
   | exact ih1 _ _ _
   | exact ih2 _ _ _ _ _ _
   | exact ih3 _ _ _ _
   | exact ih4 _ _ _
   | exact ih5 _ _ _ _
   | exact ih6 _ _ _ _ _ _
   | exact ih7 _ _ _ _ _ _ _ _ _ _ _ _ _ _ _ _ _ _
   | exact ih8 _ _ _ _ _ _ _ _ _ _ _ _ _ _ _ _ _ _ _ _ _
   | exact fix_MulDiv.mono _ _ _ _
   | exact steer_Apart.mono _ _ _
   | exact tourref5_MoverFault.mono _ _ _ _ _ _ _
   | exact tourref5_Steered.mono _ _ _ _ _ _ _ _ _
   | exact vec_Len.mono _ _ _
   | exact vec_Scale.mono _ _ _ _
   | exact vec_Unit.mono _ _ _
   | exact LeO.none _
   | refine LeO.ite ?_ ?_
   | refine LeO.bind ?_ (fun _ => ?_)
  ·intro y0 y1 y2 y3 y4 y5 y6 y7 y8 y9 y10 y11 y12 y13 y14 y15 y16 y17 y18 y19 y20
   unfold tourlaw5_SteerParts.j8
   repeat' first
   | (with_reducible exact ih0 _ _ _)
   | (with_reducible exact ih1 _ _ _)
   | (with_reducible exact ih2 _ _ _ _ _ _)
   | (with_reducible exact ih3 _ _ _ _)
   | (with_reducible exact ih4 _ _ _)
   | (with_reducible exact ih5 _ _ _ _)
   | (with_reducible exact ih6 _ _ _ _ _ _)
   | (with_reducible exact ih7 _ _ _ _ _ _ _ _ _ _ _ _ _ _ _ _ _ _)
   | (with_reducible exact ih8 _ _ _ _ _ _ _ _ _ _ _ _ _ _ _ _ _ _ _ _ _)
   | (with_reducible exact fix_MulDiv.mono _ _ _ _)
   | (with_reducible exact steer_Apart.mono _ _ _)
   | (with_reducible exact tourref5_MoverFault.mono _ _ _ _ _ _ _)
   | (with_reducible exact tourref5_Steered.mono _ _ _ _ _ _ _ _ _)
   | (with_reducible exact vec_Len.mono _ _ _)
   | (with_reducible exact vec_Scale.mono _ _ _ _)
   | (with_reducible exact vec_Unit.mono _ _ _)
   | (with_reducible exact LeO.refl _)
   | (with_reducible exact LeO.none _)
   | (with_reducible refine LeO.ite ?_ ?_)
   | (with_reducible refine LeO.bind ?_ (fun _ => ?_))
   | exact ih0 _ _ _
   | exact ih1 _ _ _
   | exact ih2 _ _ _ _ _ _
   | exact ih3 _ _ _ _
   | exact ih4 _ _ _
   | exact ih5 _ _ _ _
   | exact ih6 _ _ _ _ _ _
   | exact ih7 _ _ _ _ _ _ _ _ _ _ _ _ _ _ _ _ _ _
   | exact ih8 _ _ _ _ _ _ _ _ _ _ _ _ _ _ _ _ _ _ _ _ _
   | exact fix_MulDiv.mono _ _ _ _
   | exact steer_Apart.mono _ _ _
   | exact tourref5_MoverFault.mono _ _ _ _ _ _ _
   | exact tourref5_Steered.mono _ _ _ _ _ _ _ _ _
   | exact vec_Len.mono _ _ _
   | exact vec_Scale.mono _ _ _ _
   | exact vec_Unit.mono _ _ _
   | exact LeO.none _
   | refine LeO.ite ?_ ?_
   | refine LeO.bind ?_ (fun _ => ?_)
theorem tourlaw5_SteerParts.mono : ∀ a0 a1 k, LeO (tourlaw5_SteerParts.f k a0 a1) (tourlaw5_SteerParts.f (k + 1) a0 a1) := by
 intro a0 a1 k
 obtain ⟨ih0, ih1, ih2, ih3, ih4, ih5, ih6, ih7, ih8⟩ := tourlaw5_SteerParts.mono_l k
 unfold tourlaw5_SteerParts.f
 repeat' first
   | (with_reducible exact ih0 _ _ _)
   | (with_reducible exact ih1 _ _ _)
   | (with_reducible exact ih2 _ _ _ _ _ _)
   | (with_reducible exact ih3 _ _ _ _)
   | (with_reducible exact ih4 _ _ _)
   | (with_reducible exact ih5 _ _ _ _)
   | (with_reducible exact ih6 _ _ _ _ _ _)
   | (with_reducible exact ih7 _ _ _ _ _ _ _ _ _ _ _ _ _ _ _ _ _ _)
   | (with_reducible exact ih8 _ _ _ _ _ _ _ _ _ _ _ _ _ _ _ _ _ _ _ _ _)
   | (with_reducible exact fix_MulDiv.mono _ _ _ _)
   | (with_reducible exact steer_Apart.mono _ _ _)
   | (with_reducible exact tourref5_MoverFault.mono _ _ _ _ _ _ _)
   | (with_reducible exact tourref5_Steered.mono _ _ _ _ _ _ _ _ _)
   | (with_reducible exact vec_Len.mono _ _ _)
   | (with_reducible exact vec_Scale.mono _ _ _ _)
   | (with_reducible exact vec_Unit.mono _ _ _)
   | (with_reducible exact LeO.refl _)
   | (with_reducible exact LeO.none _)
   | (with_reducible refine LeO.ite ?_ ?_)
   | (with_reducible refine LeO.bind ?_ (fun _ => ?_))
   | exact ih0 _ _ _
   | exact ih1 _ _ _
   | exact ih2 _ _ _ _ _ _
   | exact ih3 _ _ _ _
   | exact ih4 _ _ _
   | exact ih5 _ _ _ _
   | exact ih6 _ _ _ _ _ _
   | exact ih7 _ _ _ _ _ _ _ _ _ _ _ _ _ _ _ _ _ _
   | exact ih8 _ _ _ _ _ _ _ _ _ _ _ _ _ _ _ _ _ _ _ _ _
   | exact fix_MulDiv.mono _ _ _ _
   | exact steer_Apart.mono _ _ _
   | exact tourref5_MoverFault.mono _ _ _ _ _ _ _
   | exact tourref5_Steered.mono _ _ _ _ _ _ _ _ _
   | exact vec_Len.mono _ _ _
   | exact vec_Scale.mono _ _ _ _
   | exact vec_Unit.mono _ _ _
   | exact LeO.none _
   | refine LeO.ite ?_ ?_
   | refine LeO.bind ?_ (fun _ => ?_)
def tourlaw5_SteerParts.T29 : Bool × List (List Nat × List Nat) := (true, [([], []), ([], []), ([1], [1]), ([], []), ([3], [3]), ([], []), ([], []), ([6, 2], [6]), ([5, 7], [5, 7]), ([], []), ([4, 8, 9, 7], [4, 8, 9]), ([2, 10, 10], [2, 10]), ([0, 11, 11], [0, 11]), ([12, 12, 0, 1, 2, 3, 4, 5, 6, 7, 8, 9, 10, 11, 12], [12])])
def tourlaw5_SteerParts.B29 : List Nat := [0, 0, 2, 0, 8, 0, 0, 70, 230, 0, 1022, 2046, 4095, 8191]
theorem tourlaw5_SteerParts.tab29 : rtab .any (opsOf Try.f3 29) = tourlaw5_SteerParts.T29 := by kernel_rfl
theorem tourlaw5_SteerParts.bits29 : waitsOk tourlaw5_SteerParts.T29.2 tourlaw5_SteerParts.B29 = true := by kernel_rfl
def tourlaw5_SteerParts.T31 : Bool × List (List Nat × List Nat) := (true, [([], []), ([], []), ([0, 1], [0, 1]), ([2], [2]), ([], []), ([], []), ([4, 5], [4, 5]), ([3, 6], [3, 6])])
def tourlaw5_SteerParts.B31 : List Nat := [0, 0, 3, 7, 0, 0, 48, 127]
theorem tourlaw5_SteerParts.tab31 : rtab .any (opsOf Try.f3 31) = tourlaw5_SteerParts.T31 := by kernel_rfl
theorem tourlaw5_SteerParts.bits31 : waitsOk tourlaw5_SteerParts.T31.2 tourlaw5_SteerParts.B31 = true := by kernel_rfl
set_option maxHeartbeats 8000000 in
set_option maxRecDepth 100000 in
theorem tourlaw5_SteerParts.calls (k : Nat) (A0 : Option Addr) (c0 : Nat) (l0 : List (S29)) (a1 : Int) (r : Bool) (w : World) (hr0 : Kd.C k29 w A0 l0.length l0) (hc0 : l0.length ≤ c0) (h : tourlaw5_SteerParts.f k l0 a1 = some r) :
  Calls Try.prog 3 #[.slice A0 l0.length c0, .int .i64 a1] w fun e w' => e = .returned (.bool r) ∧ Below w.heap.size w w' := by
 have hu29 := Try.underlying29
 have hu27 := Try.underlying27
 have HR0 := Aside0.mk hr0
 have HC0 := Aside0.mk hc0
 clear hr0 hc0
 have HB := Aside0.mk (Below.refl w.heap.size w)
 have H : ((steer_Apart.f k (([(⟨(⟨0, 0⟩ : S27), (⟨0, 0⟩ : S27), 0, 0⟩ : S29)] : List (S29))) 1).bind fun bt249 => (if bt249.2 = 0 then (tourlaw5_SteerParts.j0 k l0 a1 ((bt249.1.length : Int) != 1)) else (tourlaw5_SteerParts.j0 k l0 a1 true))) = some r := h
 clear h
 obtain ⟨y246, hy246⟩ : ∃ y_ : List (S29), y_ = (([(⟨(⟨0, 0⟩ : S27), (⟨0, 0⟩ : S27), 0, 0⟩ : S29)] : List (S29))) := ⟨_, rfl⟩
 replace H : ((steer_Apart.f k y246 1).bind fun bt249 => (if bt249.2 = 0 then (tourlaw5_SteerParts.j0 k l0 a1 ((bt249.1.length : Int) != 1)) else (tourlaw5_SteerParts.j0 k l0 a1 true))) = some r := by first | (rw [hy246]; with_reducible exact H) | (have H2_ := (Option.bind_some _ _).symm.trans H; rw [hy246]; with_reducible exact H2_) | (have H2_ := (Option.bind_some _ _).symm.trans H; with_reducible exact H2_) | with_reducible exact H | (rw [hy246]; exact H) | exact H
 have Ny246 := Aside0.mk hy246
 clear hy246
 replace H := Option.bind_eq_some_iff.mp H
 obtain ⟨⟨t249, t250⟩, A30, H⟩ := H
 replace H : (if t250 = 0 then (tourlaw5_SteerParts.j0 k l0 a1 ((t249.length : Int) != 1)) else (tourlaw5_SteerParts.j0 k l0 a1 true)) = some r := H
 have A3 := Aside0.mk A30
 clear A30
 have HC4 := Aside0.mk H
 clear H
 go_enter Try.func3, Try.ntmps3
 go_upto_region 2 with (first | ((with_reducible refine gate_dst (N := 20) rfl ?_); (try (refine gate_guard (by rfl) ?_; dsimp only)); refine Kd.R_lit k29 _ 29 ?hg (N := 20) ?hd (xs := ([(⟨(⟨0, 0⟩ : S27), (⟨0, 0⟩ : S27), 0, 0⟩ : S29)] : List (S29))) (inner := [.int .i64 0, .int .i64 0, .int .i64 0, .int .i64 0, .int .i64 0, .int .i64 0]) (ok := fun _ => True) (okp := fun _ => True) ?hr ?hp (fun _ hk => hk) trivial (Below.refl _ _) (Nat.le_refl _) (by simp) ?_; (case hd => rfl); (case hg => rfl); (case hr => first | (go_simp; done) | (go_simp; rfl)); (case hp => exact (Reps.c6 (show Kd.M k29 _ _ _ (⟨(⟨0, 0⟩ : S27), (⟨0, 0⟩ : S27), 0, 0⟩ : S29) [.int .i64 0, .int .i64 0, .int .i64 0, .int .i64 0, .int .i64 0, .int .i64 0] from (k29_mkM _ _ _ (⟨(⟨0, 0⟩ : S27), (⟨0, 0⟩ : S27), 0, 0⟩ : S29) )) (Reps.none _ _))); intro v247 w5 ho6 hb hg_ hnew_; clear hg_ hnew_; (first | rw [← Ny246.out] at ho6 | (simp only [Int.reduceToNat] at ho6; rw [← Ny246.out] at ho6)); have n0_ := Aside0.mk (Kd.R_lower ho6 (below_size (by repeat (first | (with_reducible first | exact HB.out | apply below_alloc | apply pw_below_drewN | apply below_drew1) | exact HB.out)))); have n1_ := Aside0.mk (below_step (by repeat (first | (with_reducible first | exact HB.out | apply below_alloc | apply pw_below_drewN | apply below_drew1) | exact HB.out)) hb); clear HB; have HO248 := n0_; have HB := n1_; clear n0_ n1_; clear hb ho6; obtain ⟨Ao7, co7, eo7⟩ := Kd.R_slice HO248.out; subst eo7) | ((with_reducible refine gate_callee (f := 11) rfl ?_); refine goesL_ (some 21) rfl rfl Try.func11 (by kernel_rfl) rfl #[.slice Ao7 y246.length co7, .int .i64 1] rfl (by (try simp only [List.map_toArray, List.map_cons, List.map_nil]); first | done | rfl | (simp only [List.length_drop, List.length_take]; rfl)) ?_; (with_reducible refine (steer_Apart.calls k _ _ y246 1 t249 t250 _ ?side1 ?side2 A3.out).mono ?_); (case side1 => repeat (first | exact (Kd.R_reads' HO248.out).2.2 | (with_reducible refine Kd.C_alloc ?_ _) | (with_reducible refine Kd.C_drewN ?_ _) | (with_reducible refine Kd.C_drew ?_))); (case side2 => exact (Kd.R_reads' HO248.out).2.1); rintro e w8 ⟨v251, rfl, ho0, hb⟩; refine ⟨_, rfl, ?_⟩; have n0_ := Aside0.mk (Kd.R_elder' (by (with_reducible repeat (first | apply Kd.R_alloc | apply Kd.R_drewN | apply Kd.R_drew)); exact HO248.out) (Kd.R_base ho0) hb); have n1_ := Aside0.mk (Kd.R_lower (Kd.R_new' ho0 (Kd.R_lt (by (with_reducible repeat (first | apply Kd.R_alloc | apply Kd.R_drewN | apply Kd.R_drew)); exact HO248.out))) (below_size (by repeat (first | (with_reducible first | exact HB.out | apply below_alloc | apply pw_below_drewN | apply below_drew1) | exact HB.out)))); have n2_ := Aside0.mk (below_step (by repeat (first | (with_reducible first | exact HB.out | apply below_alloc | apply pw_below_drewN | apply below_drew1) | exact HB.out)) hb); clear HO248; clear HB; have HO248 := n0_; have HO252 := n1_; have HB := n2_; clear n0_ n1_ n2_; (try clear hb); (try clear hb2); (try clear hk); (try clear hi); (try clear ho0)))
 (try simp only [Act.put, List.setIfInBounds_toArray, List.set_cons_zero, List.set_cons_succ])
 go_cut [30] (fun v30 wc => ∃ (kq : Nat) (x30_3 : Bool), v30 = .bool x30_3 ∧ Aside0 (tourlaw5_SteerParts.j0 kq l0 a1 x30_3 = some r) ∧ Aside0 (kq ≤ k) ∧ Aside0 (Below w.heap.size w wc))
 case first =>
  have H := HC4.out
  clear HC4
  by_cases c9 : t250 = 0
  ·rw [if_pos c9] at H
   have c9b0 : (t250 == 0) = true := beq_iff_eq.mpr c9
   have c9b1 : (t250 != 0) = false := bne_eq_false_iff_eq.mpr c9
   clear c9
   (first | rw [c9b0] | (simp only [i64_w, i32_w]; rw [c9b0]) | skip)
   have H' := Aside0.mk H
   clear H
   obtain ⟨Ao10, co10, eo10⟩ := Kd.R_slice HO252.out
   subst eo10
   go_wp2
   go_meet
   case rel => exact ⟨_, (((t249.length : Int) != 1)), (by first | rfl | (simp; done) | (simp [*]; done)), H', ⟨by first | omega | exact Nat.le_refl _⟩, ⟨by repeat (first | (with_reducible first | exact HB.out | apply below_alloc | apply pw_below_drewN | apply below_drew1) | exact HB.out)⟩⟩
  ·rw [if_neg c9] at H
   have c9b0 : (t250 == 0) = false := beq_eq_false_iff_ne.mpr c9
   have c9b1 : (t250 != 0) = true := bne_iff_ne.mpr c9
   (first | rw [c9b0] | (simp only [i64_w, i32_w]; rw [c9b0]) | skip)
   have H' := Aside0.mk H
   clear H
   go_wp2
   go_meet
   case rel => exact ⟨_, (true), (by first | rfl | (simp; done) | (simp [*]; done)), H', ⟨by first | omega | exact Nat.le_refl _⟩, ⟨by repeat (first | (with_reducible first | exact HB.out | apply below_alloc | apply pw_below_drewN | apply below_drew1) | exact HB.out)⟩⟩
 case rest =>
  clear HC4
  try clear c1
  try clear p2
  try clear c3
  try clear c6
  try clear c9
  try clear c9b0
  try clear c9b1
  obtain ⟨kq, x30_3, rfl, HA, HJ3, HB⟩ := hcut
  cases kq with
  | zero => exact absurd HA.out (by simp [tourlaw5_SteerParts.j0])
  | succ kj3 =>
   have H := HA.out
   clear HA
   simp only [tourlaw5_SteerParts.j0] at H
   by_cases c11 : x30_3 = true
   ·subst c11
    have H1 : (some false) = some r := by rw [if_pos rfl] at H; exact H
    clear H
    have H := H1
    clear H1
    obtain rfl := Option.some.inj H
    go_wp2
    go_ret
    exact ⟨by first | rfl | (simp [errW_none, errW_some] <;> rfl) | (simp [*, errW_none, errW_some] <;> rfl), by repeat (first | (with_reducible first | exact HB.out | apply below_alloc | apply pw_below_drewN | apply below_drew1) | exact HB.out)⟩
   ·replace c11 := Bool.eq_false_iff.mpr c11
    subst c11
    have H1 : (if (l0.length : Int) > 64 then (tourlaw5_SteerParts.j1 kj3 l0 a1 2) else (tourlaw5_SteerParts.j1 kj3 l0 a1 0)) = some r := by rw [if_neg (show ¬ (false = true) by decide)] at H; exact H
    clear H
    have H := H1
    clear H1
    have HC12 := Aside0.mk H
    clear H
    go_upto_if 33 with (fail)
    go_cut [7] (fun v7 wc => ∃ (kq : Nat) (x7_11 : Int), v7 = .int .i64 x7_11 ∧ Aside0 (tourlaw5_SteerParts.j1 kq l0 a1 x7_11 = some r) ∧ Aside0 (kq ≤ kj3) ∧ Aside0 (Below w.heap.size w wc))
    case first =>
     have H := HC12.out
     clear HC12
     by_cases c13 : (l0.length : Int) > 64
     ·rw [if_pos c13] at H
      have c13b0 : decide (64 < (l0.length : Int)) = true := decide_eq_true c13
      have c13b1 : decide (64 < l0.length) = true := decide_eq_true (by omega)
      clear c13
      (first | rw [c13b0] | (simp only [i64_w, i32_w]; rw [c13b0]) | skip)
      have H' := Aside0.mk H
      clear H
      go_wp2
      go_meet
      case rel => exact ⟨_, (2), (by first | rfl | (simp; done) | (simp [*]; done)), H', ⟨by have := HJ3.out; first | omega | exact Nat.le_refl _⟩, ⟨by repeat (first | (with_reducible first | exact HB.out | apply below_alloc | apply pw_below_drewN | apply below_drew1) | exact HB.out)⟩⟩
     ·rw [if_neg c13] at H
      have c13b0 : decide (64 < (l0.length : Int)) = false := decide_eq_false c13
      have c13b1 : decide (64 < l0.length) = false := decide_eq_false (by omega)
      clear c13
      (first | rw [c13b0] | (simp only [i64_w, i32_w]; rw [c13b0]) | skip)
      have H' := Aside0.mk H
      clear H
      go_wp2
      go_meet
      case rel => exact ⟨_, (0), (by first | rfl | (simp; done) | (simp [*]; done)), H', ⟨by have := HJ3.out; first | omega | exact Nat.le_refl _⟩, ⟨by repeat (first | (with_reducible first | exact HB.out | apply below_alloc | apply pw_below_drewN | apply below_drew1) | exact HB.out)⟩⟩
    case rest =>
     clear HC12
     try clear c1
     try clear p2
     try clear c3
     try clear c6
     try clear c9
     try clear c9b0
     try clear c9b1
     try clear c11
     try clear c13
     try clear c13b0
     try clear c13b1
     try clear p2
     obtain ⟨kq, x7_11, rfl, HA, HJ11, HB⟩ := hcut
     cases kq with
     | zero => exact absurd HA.out (by simp [tourlaw5_SteerParts.j1])
     | succ kj11 =>
      have H := HA.out
      clear HA
      simp only [tourlaw5_SteerParts.j1] at H
      have H' := Aside0.mk H
      clear H
      go_wp2
      go_loopg [7, 36] kj11 (fun kq v7 v36 w' => ∃ (x7_3 : Int) (x36_3 : Int), v7 = .int .i64 x7_3 ∧ v36 = .int .i64 x36_3 ∧ Aside0 (tourlaw5_SteerParts.l0 kq l0 a1 x7_3 l0 (l0.length : Int) x36_3 = some r) ∧ Aside0 (kq ≤ kj11) ∧ Aside0 (Below w.heap.size w w'))
      case atStart => exact ⟨(x7_11), (0), (by first | rfl | (simp; done) | (simp [*]; done)), (by first | rfl | (simp; done) | (simp [*]; done)), H', ⟨Nat.le_refl _⟩, ⟨by repeat (first | (with_reducible first | exact HB.out | apply below_alloc | apply pw_below_drewN | apply below_drew1) | exact HB.out)⟩⟩
      case round =>
       clear H'
       try clear c1
       try clear p2
       try clear c3
       try clear c6
       try clear c9
       try clear c9b0
       try clear c9b1
       try clear c11
       try clear c13
       try clear c13b0
       try clear c13b1
       try clear p2
       obtain ⟨x7_3, x36_3, rfl, rfl, HA, HK3, HB⟩ := hrel
       cases gk with
       | zero => exact absurd HA.out (by simp [tourlaw5_SteerParts.l0])
       | succ k3 =>
        have H := HA.out
        clear HA
        simp only [tourlaw5_SteerParts.l0] at H
        by_cases c14 : x36_3 < (l0.length : Int)
        ·rw [if_pos c14] at H
         have c14b0 : decide (x36_3 < (l0.length : Int)) = true := decide_eq_true c14
         clear c14
         by_cases c15 : 0 ≤ x36_3
         ·rw [if_pos c15] at H
          have c15b0 : decide (0 ≤ x36_3) = true := decide_eq_true c15
          clear c15
          by_cases c16 : x36_3 < (l0.length : Int)
          ·rw [if_pos c16] at H
           have c16b0 : decide (x36_3 < (l0.length : Int)) = true := decide_eq_true c16
           clear c16
           by_cases c17 : x7_3 = 0
           ·rw [if_pos c17] at H
            have c17b0 : (x7_3 == 0) = true := beq_iff_eq.mpr c17
            have c17b1 : (x7_3 != 0) = false := bne_eq_false_iff_eq.mpr c17
            clear c17
            replace H := Option.bind_eq_some_iff.mp H
            obtain ⟨t255, A180, H⟩ := H
            replace H : (tourlaw5_SteerParts.l0 k3 l0 a1 t255 l0 (l0.length : Int) (wrap64 (x36_3 + 1))) = some r := H
            have A18 := Aside0.mk A180
            clear A180
            have H' := Aside0.mk H
            clear H
            have p253 : 0 ≤ (x36_3 : Int) := of_decide_eq_true (by first | (with_reducible assumption) | assumption)
            have q253 : x36_3 < (l0.length : Int) := of_decide_eq_true (by first | (with_reducible assumption) | assumption)
            obtain ⟨ad253, e253, hx253_0, hx253_1, hx253_2, hx253_3, hx253_4, hx253_5⟩ := at_T29 HR0.out x36_3 p253 q253
            cases e253
            replace hx253_0 := (HB.out.cell (World.block_lt_of_cell? w _ hx253_0)).trans hx253_0
            replace hx253_1 := (HB.out.cell (World.block_lt_of_cell? w _ hx253_1)).trans hx253_1
            replace hx253_2 := (HB.out.cell (World.block_lt_of_cell? w _ hx253_2)).trans hx253_2
            replace hx253_3 := (HB.out.cell (World.block_lt_of_cell? w _ hx253_3)).trans hx253_3
            replace hx253_4 := (HB.out.cell (World.block_lt_of_cell? w _ hx253_4)).trans hx253_4
            replace hx253_5 := (HB.out.cell (World.block_lt_of_cell? w _ hx253_5)).trans hx253_5
            replace p253 := eq_true p253
            replace q253 := eq_true q253
            go_wp2_with (first | ((with_reducible refine gate_dst (N := 9) rfl ?_); (try (refine gate_guard (by rfl) ?_; dsimp only)); refine box_event ?hg (N := 9) ?hd (cs := #[.int .i64 0, .int .i64 0, .int .i64 0, .int .i64 0, .int .i64 0, .int .i64 0]) (t := 29) ?hr ?_; (case hd => rfl); (case hg => rfl); (case hr => first | (go_simp; done) | (go_simp; rfl)); intro gb254 hg w19 hbox hb; have n0_ := Aside0.mk (below_step (by repeat (first | (with_reducible first | exact HB.out | apply below_alloc | apply pw_below_drewN | apply below_drew1) | exact HB.out)) hb); have n1_ := Aside0.mk (hbox); have n2_ := Aside0.mk ((by rw [hg]; exact (below_size (by repeat (first | (with_reducible first | exact HB.out | apply below_alloc | apply pw_below_drewN | apply below_drew1) | exact HB.out))) : w.heap.size ≤ gb254)); have n3_ := Aside0.mk ((by rw [hg]; exact (below_size (by repeat (first | (with_reducible first | exact HB.out | apply below_alloc | apply pw_below_drewN | apply below_drew1) | exact HB.out))) : w.heap.size ≤ gb254)); clear HB; have HB := n0_; have BK254 := n1_; have GW254 := n2_; have GE254 := n3_; clear n0_ n1_ n2_ n3_; clear hb hbox hg; have hcz20_0 : w19.cell? ⟨gb254, 0, none⟩ = some (.int .i64 0) := (blk_cell BK254.out 0).trans rfl; have hcz20_1 : w19.cell? ⟨gb254, 1, none⟩ = some (.int .i64 0) := (blk_cell BK254.out 1).trans rfl; have hcz20_2 : w19.cell? ⟨gb254, 2, none⟩ = some (.int .i64 0) := (blk_cell BK254.out 2).trans rfl; have hcz20_3 : w19.cell? ⟨gb254, 3, none⟩ = some (.int .i64 0) := (blk_cell BK254.out 3).trans rfl; have hcz20_4 : w19.cell? ⟨gb254, 4, none⟩ = some (.int .i64 0) := (blk_cell BK254.out 4).trans rfl; have hcz20_5 : w19.cell? ⟨gb254, 5, none⟩ = some (.int .i64 0) := (blk_cell BK254.out 5).trans rfl; have hfz20_0 := blk_frozen BK254.out 0; have hfz20_1 := blk_frozen BK254.out 1; have hfz20_2 := blk_frozen BK254.out 2; have hfz20_3 := blk_frozen BK254.out 3; have hfz20_4 := blk_frozen BK254.out 4; have hfz20_5 := blk_frozen BK254.out 5) | ((with_reducible refine gate_callee (f := 12) rfl ?_); refine goesL_ (some 43) rfl rfl Try.func12 (by kernel_rfl) rfl #[.agg #[.int .i64 ((rd_T29 l0 x36_3).f0.f0), .int .i64 ((rd_T29 l0 x36_3).f0.f1), .int .i64 ((rd_T29 l0 x36_3).f1.f0), .int .i64 ((rd_T29 l0 x36_3).f1.f1), .int .i64 ((rd_T29 l0 x36_3).f2), .int .i64 ((rd_T29 l0 x36_3).f3)]] rfl (by (try simp only [List.map_toArray, List.map_cons, List.map_nil]); first | done | rfl | (simp only [List.length_drop, List.length_take]; rfl)) ?_; (with_reducible refine (tourref5_MoverFault.calls k3 ((rd_T29 l0 x36_3).f0.f0) ((rd_T29 l0 x36_3).f0.f1) ((rd_T29 l0 x36_3).f1.f0) ((rd_T29 l0 x36_3).f1.f1) ((rd_T29 l0 x36_3).f2) ((rd_T29 l0 x36_3).f3) t255 _ A18.out).mono ?_); rintro e w21 ⟨rfl, hb⟩; refine ⟨_, rfl, ?_⟩; have n0_ := Aside0.mk (blk_below (g := gb254) (o := .cells #[.int .i64 ((rd_T29 l0 x36_3).f0.f0), .int .i64 ((rd_T29 l0 x36_3).f0.f1), .int .i64 ((rd_T29 l0 x36_3).f1.f0), .int .i64 ((rd_T29 l0 x36_3).f1.f1), .int .i64 ((rd_T29 l0 x36_3).f2), .int .i64 ((rd_T29 l0 x36_3).f3)] 29 (0, 0)) (by (with_reducible repeat (first | refine blk_drewN ?_ _ | refine blk_drew ?_ | refine blk_alloc ?_ _)); refine blk_put (cs := #[.int .i64 ((rd_T29 l0 x36_3).f0.f0), .int .i64 ((rd_T29 l0 x36_3).f0.f1), .int .i64 ((rd_T29 l0 x36_3).f1.f0), .int .i64 ((rd_T29 l0 x36_3).f1.f1), .int .i64 ((rd_T29 l0 x36_3).f2), .int .i64 0]) ?_ 5 _ rfl; (with_reducible repeat (first | refine blk_drewN ?_ _ | refine blk_drew ?_ | refine blk_alloc ?_ _)); refine blk_put (cs := #[.int .i64 ((rd_T29 l0 x36_3).f0.f0), .int .i64 ((rd_T29 l0 x36_3).f0.f1), .int .i64 ((rd_T29 l0 x36_3).f1.f0), .int .i64 ((rd_T29 l0 x36_3).f1.f1), .int .i64 0, .int .i64 0]) ?_ 4 _ rfl; (with_reducible repeat (first | refine blk_drewN ?_ _ | refine blk_drew ?_ | refine blk_alloc ?_ _)); refine blk_put (cs := #[.int .i64 ((rd_T29 l0 x36_3).f0.f0), .int .i64 ((rd_T29 l0 x36_3).f0.f1), .int .i64 ((rd_T29 l0 x36_3).f1.f0), .int .i64 0, .int .i64 0, .int .i64 0]) ?_ 3 _ rfl; (with_reducible repeat (first | refine blk_drewN ?_ _ | refine blk_drew ?_ | refine blk_alloc ?_ _)); refine blk_put (cs := #[.int .i64 ((rd_T29 l0 x36_3).f0.f0), .int .i64 ((rd_T29 l0 x36_3).f0.f1), .int .i64 0, .int .i64 0, .int .i64 0, .int .i64 0]) ?_ 2 _ rfl; (with_reducible repeat (first | refine blk_drewN ?_ _ | refine blk_drew ?_ | refine blk_alloc ?_ _)); refine blk_put (cs := #[.int .i64 ((rd_T29 l0 x36_3).f0.f0), .int .i64 0, .int .i64 0, .int .i64 0, .int .i64 0, .int .i64 0]) ?_ 1 _ rfl; (with_reducible repeat (first | refine blk_drewN ?_ _ | refine blk_drew ?_ | refine blk_alloc ?_ _)); refine blk_put (cs := #[.int .i64 0, .int .i64 0, .int .i64 0, .int .i64 0, .int .i64 0, .int .i64 0]) ?_ 0 _ rfl; (with_reducible repeat (first | refine blk_drewN ?_ _ | refine blk_drew ?_ | refine blk_alloc ?_ _)); exact BK254.out) hb); have n1_ := Aside0.mk (below_step (by repeat (first | (with_reducible first | exact HB.out | apply below_alloc | apply pw_below_drewN | apply below_drew1 | refine below_set ?_ GE254.out) | exact HB.out)) hb); clear BK254; clear HB; have BK254 := n0_; have HB := n1_; clear n0_ n1_; (try clear hb); (try clear hb2); (try clear hk); (try clear hi)))
            go_roundg k3
            case measure => have := HJ3.out; have := HJ11.out; have := HK3.out; omega
            case rel => exact ⟨(t255), (wrap64 (x36_3 + 1)), (by first | rfl | (simp; done) | (simp [*]; done)), (by first | rfl | (simp; done) | (simp [*]; done)), H', ⟨by have := HJ3.out; have := HJ11.out; have := HK3.out; omega⟩, ⟨by repeat (first | (with_reducible first | exact HB.out | apply below_alloc | apply pw_below_drewN | apply below_drew1 | refine below_set ?_ GE254.out) | exact HB.out)⟩⟩
           ·rw [if_neg c17] at H
            have c17b0 : (x7_3 == 0) = false := beq_eq_false_iff_ne.mpr c17
            have c17b1 : (x7_3 != 0) = true := bne_iff_ne.mpr c17
            have H' := Aside0.mk H
            clear H
            have p253 : 0 ≤ (x36_3 : Int) := of_decide_eq_true (by first | (with_reducible assumption) | assumption)
            have q253 : x36_3 < (l0.length : Int) := of_decide_eq_true (by first | (with_reducible assumption) | assumption)
            obtain ⟨ad253, e253, hx253_0, hx253_1, hx253_2, hx253_3, hx253_4, hx253_5⟩ := at_T29 HR0.out x36_3 p253 q253
            cases e253
            replace hx253_0 := (HB.out.cell (World.block_lt_of_cell? w _ hx253_0)).trans hx253_0
            replace hx253_1 := (HB.out.cell (World.block_lt_of_cell? w _ hx253_1)).trans hx253_1
            replace hx253_2 := (HB.out.cell (World.block_lt_of_cell? w _ hx253_2)).trans hx253_2
            replace hx253_3 := (HB.out.cell (World.block_lt_of_cell? w _ hx253_3)).trans hx253_3
            replace hx253_4 := (HB.out.cell (World.block_lt_of_cell? w _ hx253_4)).trans hx253_4
            replace hx253_5 := (HB.out.cell (World.block_lt_of_cell? w _ hx253_5)).trans hx253_5
            replace p253 := eq_true p253
            replace q253 := eq_true q253
            go_wp2_with (first | ((with_reducible refine gate_dst (N := 9) rfl ?_); (try (refine gate_guard (by rfl) ?_; dsimp only)); refine box_event ?hg (N := 9) ?hd (cs := #[.int .i64 0, .int .i64 0, .int .i64 0, .int .i64 0, .int .i64 0, .int .i64 0]) (t := 29) ?hr ?_; (case hd => rfl); (case hg => rfl); (case hr => first | (go_simp; done) | (go_simp; rfl)); intro gb254 hg w22 hbox hb; have n0_ := Aside0.mk (below_step (by repeat (first | (with_reducible first | exact HB.out | apply below_alloc | apply pw_below_drewN | apply below_drew1) | exact HB.out)) hb); have n1_ := Aside0.mk (hbox); have n2_ := Aside0.mk ((by rw [hg]; exact (below_size (by repeat (first | (with_reducible first | exact HB.out | apply below_alloc | apply pw_below_drewN | apply below_drew1) | exact HB.out))) : w.heap.size ≤ gb254)); have n3_ := Aside0.mk ((by rw [hg]; exact (below_size (by repeat (first | (with_reducible first | exact HB.out | apply below_alloc | apply pw_below_drewN | apply below_drew1) | exact HB.out))) : w.heap.size ≤ gb254)); clear HB; have HB := n0_; have BK254 := n1_; have GW254 := n2_; have GE254 := n3_; clear n0_ n1_ n2_ n3_; clear hb hbox hg; have hcz23_0 : w22.cell? ⟨gb254, 0, none⟩ = some (.int .i64 0) := (blk_cell BK254.out 0).trans rfl; have hcz23_1 : w22.cell? ⟨gb254, 1, none⟩ = some (.int .i64 0) := (blk_cell BK254.out 1).trans rfl; have hcz23_2 : w22.cell? ⟨gb254, 2, none⟩ = some (.int .i64 0) := (blk_cell BK254.out 2).trans rfl; have hcz23_3 : w22.cell? ⟨gb254, 3, none⟩ = some (.int .i64 0) := (blk_cell BK254.out 3).trans rfl; have hcz23_4 : w22.cell? ⟨gb254, 4, none⟩ = some (.int .i64 0) := (blk_cell BK254.out 4).trans rfl; have hcz23_5 : w22.cell? ⟨gb254, 5, none⟩ = some (.int .i64 0) := (blk_cell BK254.out 5).trans rfl; have hfz23_0 := blk_frozen BK254.out 0; have hfz23_1 := blk_frozen BK254.out 1; have hfz23_2 := blk_frozen BK254.out 2; have hfz23_3 := blk_frozen BK254.out 3; have hfz23_4 := blk_frozen BK254.out 4; have hfz23_5 := blk_frozen BK254.out 5))
            go_roundg k3
            case measure => have := HJ3.out; have := HJ11.out; have := HK3.out; omega
            case rel => exact ⟨(x7_3), (wrap64 (x36_3 + 1)), (by first | rfl | (simp; done) | (simp [*]; done)), (by first | rfl | (simp; done) | (simp [*]; done)), H', ⟨by have := HJ3.out; have := HJ11.out; have := HK3.out; omega⟩, ⟨by repeat (first | (with_reducible first | exact HB.out | apply below_alloc | apply pw_below_drewN | apply below_drew1 | refine below_set ?_ GE254.out) | exact HB.out)⟩⟩
          ·rw [if_neg c16] at H
           exact absurd H (by simp)
         ·rw [if_neg c15] at H
          exact absurd H (by simp)
        ·rw [if_neg c14] at H
         have c14b0 : decide (x36_3 < (l0.length : Int)) = false := decide_eq_false c14
         clear c14
         have HC24 := Aside0.mk H
         clear H
         go_upto_region 13 with (fail)
         go_cut [54] (fun v54 wc => ∃ (kq : Nat) (x54_23 : Bool), v54 = .bool x54_23 ∧ Aside0 (tourlaw5_SteerParts.j3 kq l0 a1 x7_3 x54_23 = some r) ∧ Aside0 (kq ≤ k3) ∧ Aside0 (Below w.heap.size w wc))
         case first =>
          have H := HC24.out
          clear HC24
          by_cases c25 : x7_3 = 0
          ·rw [if_pos c25] at H
           have c25b0 : (x7_3 == 0) = true := beq_iff_eq.mpr c25
           have c25b1 : (x7_3 != 0) = false := bne_eq_false_iff_eq.mpr c25
           clear c25
           (first | rw [c25b0] | (simp only [i64_w, i32_w]; rw [c25b0]) | skip)
           by_cases c26 : a1 < 0
           ·rw [if_pos c26] at H
            have c26b0 : decide (a1 < 0) = true := decide_eq_true c26
            clear c26
            have H' := Aside0.mk H
            clear H
            go_wp2
            go_meet
            case rel => exact ⟨_, (true), (by first | rfl | (simp; done) | (simp [*]; done)), H', ⟨by have := HJ3.out; have := HJ11.out; have := HK3.out; first | omega | exact Nat.le_refl _⟩, ⟨by repeat (first | (with_reducible first | exact HB.out | apply below_alloc | apply pw_below_drewN | apply below_drew1) | exact HB.out)⟩⟩
           ·rw [if_neg c26] at H
            have c26b0 : decide (a1 < 0) = false := decide_eq_false c26
            clear c26
            have H' := Aside0.mk H
            clear H
            go_wp2
            go_meet
            case rel => exact ⟨_, (decide (a1 > 1099511627776)), (by first | rfl | (simp; done) | (simp [*]; done)), H', ⟨by have := HJ3.out; have := HJ11.out; have := HK3.out; first | omega | exact Nat.le_refl _⟩, ⟨by repeat (first | (with_reducible first | exact HB.out | apply below_alloc | apply pw_below_drewN | apply below_drew1) | exact HB.out)⟩⟩
          ·rw [if_neg c25] at H
           have c25b0 : (x7_3 == 0) = false := beq_eq_false_iff_ne.mpr c25
           have c25b1 : (x7_3 != 0) = true := bne_iff_ne.mpr c25
           (first | rw [c25b0] | (simp only [i64_w, i32_w]; rw [c25b0]) | skip)
           have H' := Aside0.mk H
           clear H
           go_wp2
           go_meet
           case rel => exact ⟨_, (false), (by first | rfl | (simp; done) | (simp [*]; done)), H', ⟨by have := HJ3.out; have := HJ11.out; have := HK3.out; first | omega | exact Nat.le_refl _⟩, ⟨by repeat (first | (with_reducible first | exact HB.out | apply below_alloc | apply pw_below_drewN | apply below_drew1) | exact HB.out)⟩⟩
         case rest =>
          clear HC24
          try clear c1
          try clear c2
          try clear p2
          try clear q2
          try clear hx2
          try clear c3
          try clear c6
          try clear p6
          try clear c9
          try clear c9b0
          try clear c9b1
          try clear c11
          try clear c12
          try clear c13
          try clear c13b0
          try clear c13b1
          try clear c14
          try clear c14b0
          try clear c15
          try clear c15b0
          try clear c16
          try clear c16b0
          try clear c17
          try clear c17b0
          try clear c17b1
          try clear c25
          try clear c25b0
          try clear c25b1
          try clear p25
          try clear q25
          try clear hx25
          try clear c26
          try clear c26b0
          try clear hcz20_0
          try clear hcz20_1
          try clear hcz20_2
          try clear hcz20_3
          try clear hcz20_4
          try clear hcz20_5
          try clear hcz23_0
          try clear hcz23_1
          try clear hcz23_2
          try clear hcz23_3
          try clear hcz23_4
          try clear hcz23_5
          try clear hfz20_0
          try clear hfz20_1
          try clear hfz20_2
          try clear hfz20_3
          try clear hfz20_4
          try clear hfz20_5
          try clear hfz23_0
          try clear hfz23_1
          try clear hfz23_2
          try clear hfz23_3
          try clear hfz23_4
          try clear hfz23_5
          try clear hx253_0
          try clear hx253_1
          try clear hx253_2
          try clear hx253_3
          try clear hx253_4
          try clear hx253_5
          try clear p2
          try clear p253
          try clear q253
          obtain ⟨kq, x54_23, rfl, HA, HJ23, HB⟩ := hcut
          cases kq with
          | zero => exact absurd HA.out (by simp [tourlaw5_SteerParts.j3])
          | succ kj23 =>
           have H := HA.out
           clear HA
           simp only [tourlaw5_SteerParts.j3] at H
           have HC27 := Aside0.mk H
           clear H
           go_upto_if 54 with (fail)
           go_cut [7] (fun v7 wc => ∃ (kq : Nat) (x7_26 : Int), v7 = .int .i64 x7_26 ∧ Aside0 (tourlaw5_SteerParts.j4 kq l0 a1 x7_26 = some r) ∧ Aside0 (kq ≤ kj23) ∧ Aside0 (Below w.heap.size w wc))
           case first =>
            have H := HC27.out
            clear HC27
            by_cases c28 : x54_23 = true
            ·subst c28
             have H1 : (tourlaw5_SteerParts.j4 kj23 l0 a1 1) = some r := by rw [if_pos rfl] at H; exact H
             clear H
             have H := H1
             clear H1
             have H' := Aside0.mk H
             clear H
             go_wp2
             go_meet
             case rel => exact ⟨_, (1), (by first | rfl | (simp; done) | (simp [*]; done)), H', ⟨by have := HJ3.out; have := HJ11.out; have := HK3.out; have := HJ23.out; first | omega | exact Nat.le_refl _⟩, ⟨by repeat (first | (with_reducible first | exact HB.out | apply below_alloc | apply pw_below_drewN | apply below_drew1) | exact HB.out)⟩⟩
            ·replace c28 := Bool.eq_false_iff.mpr c28
             subst c28
             have H1 : (tourlaw5_SteerParts.j4 kj23 l0 a1 x7_3) = some r := by rw [if_neg (show ¬ (false = true) by decide)] at H; exact H
             clear H
             have H := H1
             clear H1
             have H' := Aside0.mk H
             clear H
             go_wp2
             go_meet
             case rel => exact ⟨_, (x7_3), (by first | rfl | (simp; done) | (simp [*]; done)), H', ⟨by have := HJ3.out; have := HJ11.out; have := HK3.out; have := HJ23.out; first | omega | exact Nat.le_refl _⟩, ⟨by repeat (first | (with_reducible first | exact HB.out | apply below_alloc | apply pw_below_drewN | apply below_drew1) | exact HB.out)⟩⟩
           case rest =>
            clear HC27
            try clear c1
            try clear c2
            try clear p2
            try clear q2
            try clear hx2
            try clear c3
            try clear c6
            try clear p6
            try clear c9
            try clear c9b0
            try clear c9b1
            try clear c11
            try clear c12
            try clear c13
            try clear c13b0
            try clear c13b1
            try clear c14
            try clear c14b0
            try clear c15
            try clear c15b0
            try clear c16
            try clear c16b0
            try clear c17
            try clear c17b0
            try clear c17b1
            try clear c25
            try clear c25b0
            try clear c25b1
            try clear p25
            try clear q25
            try clear hx25
            try clear c26
            try clear c26b0
            try clear c28
            try clear hcz20_0
            try clear hcz20_1
            try clear hcz20_2
            try clear hcz20_3
            try clear hcz20_4
            try clear hcz20_5
            try clear hcz23_0
            try clear hcz23_1
            try clear hcz23_2
            try clear hcz23_3
            try clear hcz23_4
            try clear hcz23_5
            try clear hfz20_0
            try clear hfz20_1
            try clear hfz20_2
            try clear hfz20_3
            try clear hfz20_4
            try clear hfz20_5
            try clear hfz23_0
            try clear hfz23_1
            try clear hfz23_2
            try clear hfz23_3
            try clear hfz23_4
            try clear hfz23_5
            try clear hx253_0
            try clear hx253_1
            try clear hx253_2
            try clear hx253_3
            try clear hx253_4
            try clear hx253_5
            try clear p2
            try clear p25
            try clear p253
            try clear p6
            try clear q2
            try clear q25
            try clear q253
            obtain ⟨kq, x7_26, rfl, HA, HJ26, HB⟩ := hcut
            cases kq with
            | zero => exact absurd HA.out (by simp [tourlaw5_SteerParts.j4])
            | succ kj26 =>
             have H := HA.out
             clear HA
             simp only [tourlaw5_SteerParts.j4] at H
             replace H := Option.bind_eq_some_iff.mp H
             obtain ⟨⟨t256, t257⟩, A290, H⟩ := H
             replace H : (if x7_26 = 0 then (if t257 = 0 then (tourlaw5_SteerParts.j5 kj26 l0 a1 t256 ((t256.length : Int) != (l0.length : Int))) else (tourlaw5_SteerParts.j5 kj26 l0 a1 t256 true)) else (if t257 = x7_26 then (some ((t256.length : Int) == 0)) else (some false))) = some r := H
             have A29 := Aside0.mk A290
             clear A290
             by_cases c30 : x7_26 = 0
             ·rw [if_pos c30] at H
              have c30b0 : (x7_26 == 0) = true := beq_iff_eq.mpr c30
              have c30b1 : (x7_26 != 0) = false := bne_eq_false_iff_eq.mpr c30
              clear c30
              have HC31 := Aside0.mk H
              clear H
              go_upto_region 18 with (first | ((with_reducible refine gate_callee (f := 11) rfl ?_); refine goesL_ (some 58) rfl rfl Try.func11 (by kernel_rfl) rfl #[.slice A0 l0.length c0, .int .i64 a1] rfl (by (try simp only [List.map_toArray, List.map_cons, List.map_nil]); first | done | rfl | (simp only [List.length_drop, List.length_take]; rfl)) ?_; (with_reducible refine (steer_Apart.calls kj26 _ _ l0 a1 t256 t257 _ ?side1 ?side2 A29.out).mono ?_); (case side1 => repeat (first | exact (Kd.C_below HR0.out HB.out) | (with_reducible refine Kd.C_alloc ?_ _) | (with_reducible refine Kd.C_drewN ?_ _) | (with_reducible refine Kd.C_drew ?_))); (case side2 => exact HC0.out); rintro e w32 ⟨v258, rfl, ho0, hb⟩; refine ⟨_, rfl, ?_⟩; have n0_ := Aside0.mk (Kd.R_lower ho0 (below_size (by repeat (first | (with_reducible first | exact HB.out | apply below_alloc | apply pw_below_drewN | apply below_drew1) | exact HB.out)))); have n1_ := Aside0.mk (below_step (by repeat (first | (with_reducible first | exact HB.out | apply below_alloc | apply pw_below_drewN | apply below_drew1) | exact HB.out)) hb); clear HB; have HO259 := n0_; have HB := n1_; clear n0_ n1_; (try clear hb); (try clear hb2); (try clear hk); (try clear hi); (try clear ho0)))
              (try simp only [Act.put, List.setIfInBounds_toArray, List.set_cons_zero, List.set_cons_succ])
              go_cut [79] (fun v79 wc => ∃ (kq : Nat) (x79_30 : Bool), v79 = .bool x79_30 ∧ Aside0 (tourlaw5_SteerParts.j5 kq l0 a1 t256 x79_30 = some r) ∧ Aside0 (kq ≤ kj26) ∧ Aside0 (Kd.R k29 29 wc w.heap.size (fun _ => True) v258 t256) ∧ Aside0 (Below w.heap.size w wc))
              case first =>
               have H := HC31.out
               clear HC31
               by_cases c33 : t257 = 0
               ·rw [if_pos c33] at H
                have c33b0 : (t257 == 0) = true := beq_iff_eq.mpr c33
                have c33b1 : (t257 != 0) = false := bne_eq_false_iff_eq.mpr c33
                clear c33
                (first | rw [c33b0] | (simp only [i64_w, i32_w]; rw [c33b0]) | skip)
                have H' := Aside0.mk H
                clear H
                obtain ⟨Ao34, co34, eo34⟩ := Kd.R_slice HO259.out
                subst eo34
                go_wp2
                go_meet
                case rel => exact ⟨_, (((t256.length : Int) != (l0.length : Int))), (by first | rfl | (simp; done) | (simp [*]; done)), H', ⟨by have := HJ3.out; have := HJ11.out; have := HK3.out; have := HJ23.out; have := HJ26.out; first | omega | exact Nat.le_refl _⟩, ⟨by (with_reducible repeat (first | apply Kd.R_alloc | apply Kd.R_drewN | apply Kd.R_drew)); exact HO259.out⟩, ⟨by repeat (first | (with_reducible first | exact HB.out | apply below_alloc | apply pw_below_drewN | apply below_drew1) | exact HB.out)⟩⟩
               ·rw [if_neg c33] at H
                have c33b0 : (t257 == 0) = false := beq_eq_false_iff_ne.mpr c33
                have c33b1 : (t257 != 0) = true := bne_iff_ne.mpr c33
                (first | rw [c33b0] | (simp only [i64_w, i32_w]; rw [c33b0]) | skip)
                have H' := Aside0.mk H
                clear H
                go_wp2
                go_meet
                case rel => exact ⟨_, (true), (by first | rfl | (simp; done) | (simp [*]; done)), H', ⟨by have := HJ3.out; have := HJ11.out; have := HK3.out; have := HJ23.out; have := HJ26.out; first | omega | exact Nat.le_refl _⟩, ⟨by (with_reducible repeat (first | apply Kd.R_alloc | apply Kd.R_drewN | apply Kd.R_drew)); exact HO259.out⟩, ⟨by repeat (first | (with_reducible first | exact HB.out | apply below_alloc | apply pw_below_drewN | apply below_drew1) | exact HB.out)⟩⟩
              case rest =>
               clear HC31
               try clear c1
               try clear c2
               try clear p2
               try clear q2
               try clear hx2
               try clear c3
               try clear c6
               try clear p6
               try clear c9
               try clear c9b0
               try clear c9b1
               try clear c11
               try clear c12
               try clear c13
               try clear c13b0
               try clear c13b1
               try clear c14
               try clear c14b0
               try clear c15
               try clear c15b0
               try clear c16
               try clear c16b0
               try clear c17
               try clear c17b0
               try clear c17b1
               try clear c25
               try clear c25b0
               try clear c25b1
               try clear p25
               try clear q25
               try clear hx25
               try clear c26
               try clear c26b0
               try clear c28
               try clear c30
               try clear c30b0
               try clear c30b1
               try clear c33
               try clear c33b0
               try clear c33b1
               try clear hcz20_0
               try clear hcz20_1
               try clear hcz20_2
               try clear hcz20_3
               try clear hcz20_4
               try clear hcz20_5
               try clear hcz23_0
               try clear hcz23_1
               try clear hcz23_2
               try clear hcz23_3
               try clear hcz23_4
               try clear hcz23_5
               try clear hfz20_0
               try clear hfz20_1
               try clear hfz20_2
               try clear hfz20_3
               try clear hfz20_4
               try clear hfz20_5
               try clear hfz23_0
               try clear hfz23_1
               try clear hfz23_2
               try clear hfz23_3
               try clear hfz23_4
               try clear hfz23_5
               try clear hx253_0
               try clear hx253_1
               try clear hx253_2
               try clear hx253_3
               try clear hx253_4
               try clear hx253_5
               try clear p2
               try clear p25
               try clear p253
               try clear p6
               try clear q2
               try clear q25
               try clear q253
               obtain ⟨kq, x79_30, rfl, HA, HJ30, HO_10, HB⟩ := hcut
               cases kq with
               | zero => exact absurd HA.out (by simp [tourlaw5_SteerParts.j5])
               | succ kj30 =>
                have H := HA.out
                clear HA
                simp only [tourlaw5_SteerParts.j5] at H
                by_cases c35 : x79_30 = true
                ·subst c35
                 have H1 : (some false) = some r := by rw [if_pos rfl] at H; exact H
                 clear H
                 have H := H1
                 clear H1
                 obtain rfl := Option.some.inj H
                 go_wp2
                 go_ret
                 exact ⟨by first | rfl | (simp [errW_none, errW_some] <;> rfl) | (simp [*, errW_none, errW_some] <;> rfl), by repeat (first | (with_reducible first | exact HB.out | apply below_alloc | apply pw_below_drewN | apply below_drew1) | exact HB.out)⟩
                ·replace c35 := Bool.eq_false_iff.mpr c35
                 subst c35
                 have H1 : (tourlaw5_SteerParts.l1 kj30 l0 a1 t256 l0 (l0.length : Int) 0) = some r := by rw [if_neg (show ¬ (false = true) by decide)] at H; exact H
                 clear H
                 have H := H1
                 clear H1
                 have H' := Aside0.mk H
                 clear H
                 go_wp2
                 go_loopg [82] kj30 (fun kq v82 w' => ∃ (x82_7 : Int), v82 = .int .i64 x82_7 ∧ Aside0 (tourlaw5_SteerParts.l1 kq l0 a1 t256 l0 (l0.length : Int) x82_7 = some r) ∧ Aside0 (kq ≤ kj30) ∧ Aside0 (Kd.R k29 29 w' w.heap.size (fun _ => True) v258 t256) ∧ Aside0 (Below w.heap.size w w'))
                 case atStart => exact ⟨(0), (by first | rfl | (simp; done) | (simp [*]; done)), H', ⟨Nat.le_refl _⟩, ⟨by (with_reducible repeat (first | apply Kd.R_alloc | apply Kd.R_drewN | apply Kd.R_drew)); exact HO_10.out⟩, ⟨by repeat (first | (with_reducible first | exact HB.out | apply below_alloc | apply pw_below_drewN | apply below_drew1) | exact HB.out)⟩⟩
                 case round =>
                  clear H'
                  try clear c1
                  try clear c2
                  try clear p2
                  try clear q2
                  try clear hx2
                  try clear c3
                  try clear c6
                  try clear p6
                  try clear c9
                  try clear c9b0
                  try clear c9b1
                  try clear c11
                  try clear c12
                  try clear c13
                  try clear c13b0
                  try clear c13b1
                  try clear c14
                  try clear c14b0
                  try clear c15
                  try clear c15b0
                  try clear c16
                  try clear c16b0
                  try clear c17
                  try clear c17b0
                  try clear c17b1
                  try clear c25
                  try clear c25b0
                  try clear c25b1
                  try clear p25
                  try clear q25
                  try clear hx25
                  try clear c26
                  try clear c26b0
                  try clear c28
                  try clear c30
                  try clear c30b0
                  try clear c30b1
                  try clear c33
                  try clear c33b0
                  try clear c33b1
                  try clear c35
                  try clear hcz20_0
                  try clear hcz20_1
                  try clear hcz20_2
                  try clear hcz20_3
                  try clear hcz20_4
                  try clear hcz20_5
                  try clear hcz23_0
                  try clear hcz23_1
                  try clear hcz23_2
                  try clear hcz23_3
                  try clear hcz23_4
                  try clear hcz23_5
                  try clear hfz20_0
                  try clear hfz20_1
                  try clear hfz20_2
                  try clear hfz20_3
                  try clear hfz20_4
                  try clear hfz20_5
                  try clear hfz23_0
                  try clear hfz23_1
                  try clear hfz23_2
                  try clear hfz23_3
                  try clear hfz23_4
                  try clear hfz23_5
                  try clear hx253_0
                  try clear hx253_1
                  try clear hx253_2
                  try clear hx253_3
                  try clear hx253_4
                  try clear hx253_5
                  try clear p2
                  try clear p25
                  try clear p253
                  try clear p6
                  try clear q2
                  try clear q25
                  try clear q253
                  obtain ⟨x82_7, rfl, HA, HK7, HO_10, HB⟩ := hrel
                  cases gk with
                  | zero => exact absurd HA.out (by simp [tourlaw5_SteerParts.l1])
                  | succ k7 =>
                   have H := HA.out
                   clear HA
                   simp only [tourlaw5_SteerParts.l1] at H
                   by_cases c36 : x82_7 < (l0.length : Int)
                   ·rw [if_pos c36] at H
                    have c36b0 : decide (x82_7 < (l0.length : Int)) = true := decide_eq_true c36
                    clear c36
                    by_cases c37 : 0 ≤ x82_7
                    ·rw [if_pos c37] at H
                     have c37b0 : decide (0 ≤ x82_7) = true := decide_eq_true c37
                     clear c37
                     by_cases c38 : x82_7 < (l0.length : Int)
                     ·rw [if_pos c38] at H
                      have c38b0 : decide (x82_7 < (l0.length : Int)) = true := decide_eq_true c38
                      clear c38
                      have H' := Aside0.mk H
                      clear H
                      have p260 : 0 ≤ (x82_7 : Int) := of_decide_eq_true (by first | (with_reducible assumption) | assumption)
                      have q260 : x82_7 < (l0.length : Int) := of_decide_eq_true (by first | (with_reducible assumption) | assumption)
                      obtain ⟨ad260, e260, hx260_0, hx260_1, hx260_2, hx260_3, hx260_4, hx260_5⟩ := at_T29 HR0.out x82_7 p260 q260
                      cases e260
                      replace hx260_0 := (HB.out.cell (World.block_lt_of_cell? w _ hx260_0)).trans hx260_0
                      replace hx260_1 := (HB.out.cell (World.block_lt_of_cell? w _ hx260_1)).trans hx260_1
                      replace hx260_2 := (HB.out.cell (World.block_lt_of_cell? w _ hx260_2)).trans hx260_2
                      replace hx260_3 := (HB.out.cell (World.block_lt_of_cell? w _ hx260_3)).trans hx260_3
                      replace hx260_4 := (HB.out.cell (World.block_lt_of_cell? w _ hx260_4)).trans hx260_4
                      replace hx260_5 := (HB.out.cell (World.block_lt_of_cell? w _ hx260_5)).trans hx260_5
                      replace p260 := eq_true p260
                      replace q260 := eq_true q260
                      go_wp2_with (first | ((with_reducible refine gate_dst (N := 13) rfl ?_); (try (refine gate_guard (by rfl) ?_; dsimp only)); refine box_event ?hg (N := 13) ?hd (cs := #[.int .i64 0, .int .i64 0, .int .i64 0, .int .i64 0, .int .i64 0, .int .i64 0]) (t := 29) ?hr ?_; (case hd => rfl); (case hg => rfl); (case hr => first | (go_simp; done) | (go_simp; rfl)); intro gb261 hg w39 hbox hb; have n0_ := Aside0.mk (Kd.R_below (Kd.R_elderB (by (with_reducible repeat (first | apply Kd.R_alloc | apply Kd.R_drewN | apply Kd.R_drew)); exact HO_10.out) gb261 (Nat.le_of_eq hg.symm)) hb); have n1_ := Aside0.mk (below_step (by repeat (first | (with_reducible first | exact HB.out | apply below_alloc | apply pw_below_drewN | apply below_drew1) | exact HB.out)) hb); have n2_ := Aside0.mk (hbox); have n3_ := Aside0.mk ((by rw [hg]; exact (below_size (by repeat (first | (with_reducible first | exact HB.out | apply below_alloc | apply pw_below_drewN | apply below_drew1) | exact HB.out))) : w.heap.size ≤ gb261)); have n4_ := Aside0.mk ((by rw [hg]; exact (below_size (by repeat (first | (with_reducible first | exact HB.out | apply below_alloc | apply pw_below_drewN | apply below_drew1) | exact HB.out))) : w.heap.size ≤ gb261)); clear HO_10; clear HB; have HO_10 := n0_; have HB := n1_; have BK261 := n2_; have GW261 := n3_; have GE261 := n4_; clear n0_ n1_ n2_ n3_ n4_; clear hb hbox hg; have hcz40_0 : w39.cell? ⟨gb261, 0, none⟩ = some (.int .i64 0) := (blk_cell BK261.out 0).trans rfl; have hcz40_1 : w39.cell? ⟨gb261, 1, none⟩ = some (.int .i64 0) := (blk_cell BK261.out 1).trans rfl; have hcz40_2 : w39.cell? ⟨gb261, 2, none⟩ = some (.int .i64 0) := (blk_cell BK261.out 2).trans rfl; have hcz40_3 : w39.cell? ⟨gb261, 3, none⟩ = some (.int .i64 0) := (blk_cell BK261.out 3).trans rfl; have hcz40_4 : w39.cell? ⟨gb261, 4, none⟩ = some (.int .i64 0) := (blk_cell BK261.out 4).trans rfl; have hcz40_5 : w39.cell? ⟨gb261, 5, none⟩ = some (.int .i64 0) := (blk_cell BK261.out 5).trans rfl; have hfz40_0 := blk_frozen BK261.out 0; have hfz40_1 := blk_frozen BK261.out 1; have hfz40_2 := blk_frozen BK261.out 2; have hfz40_3 := blk_frozen BK261.out 3; have hfz40_4 := blk_frozen BK261.out 4; have hfz40_5 := blk_frozen BK261.out 5) | ((with_reducible refine gate_dst (N := 14) rfl ?_); (try (refine gate_guard (by rfl) ?_; dsimp only)); refine box_event ?hg (N := 14) ?hd (cs := #[.int .i64 0, .int .i64 0]) (t := 27) ?hr ?_; (case hd => rfl); (case hg => rfl); (case hr => first | (go_simp; done) | (go_simp; rfl)); intro gb262 hg w41 hbox hb; have n0_ := Aside0.mk (Kd.R_below (by (with_reducible repeat (first | apply Kd.R_alloc | apply Kd.R_drewN | apply Kd.R_drew)); exact (Kd.R_mono (Kd.R_far (p := ⟨gb261, 5, none⟩) (Kd.R_far (p := ⟨gb261, 4, none⟩) (Kd.R_far (p := ⟨gb261, 3, none⟩) (Kd.R_far (p := ⟨gb261, 2, none⟩) (Kd.R_far (p := ⟨gb261, 1, none⟩) (Kd.R_far (p := ⟨gb261, 0, none⟩) (Kd.R_mono HO_10.out (fun k_ hk => (⟨hk, hk.2⟩ : _ ∧ k_ ≠ gb261))) (fun _ hk => hk.2) (.int .i64 ((rd_T29 l0 x82_7).f0.f0))) (fun _ hk => hk.2) (.int .i64 ((rd_T29 l0 x82_7).f0.f1))) (fun _ hk => hk.2) (.int .i64 ((rd_T29 l0 x82_7).f1.f0))) (fun _ hk => hk.2) (.int .i64 ((rd_T29 l0 x82_7).f1.f1))) (fun _ hk => hk.2) (.int .i64 ((rd_T29 l0 x82_7).f2))) (fun _ hk => hk.2) (.int .i64 ((rd_T29 l0 x82_7).f3))) (fun _ h_ => h_.1))) hb); have n1_ := Aside0.mk (blk_below (g := gb261) (o := .cells #[.int .i64 ((rd_T29 l0 x82_7).f0.f0), .int .i64 ((rd_T29 l0 x82_7).f0.f1), .int .i64 ((rd_T29 l0 x82_7).f1.f0), .int .i64 ((rd_T29 l0 x82_7).f1.f1), .int .i64 ((rd_T29 l0 x82_7).f2), .int .i64 ((rd_T29 l0 x82_7).f3)] 29 (0, 0)) (by (with_reducible repeat (first | refine blk_drewN ?_ _ | refine blk_drew ?_ | refine blk_alloc ?_ _)); refine blk_put (cs := #[.int .i64 ((rd_T29 l0 x82_7).f0.f0), .int .i64 ((rd_T29 l0 x82_7).f0.f1), .int .i64 ((rd_T29 l0 x82_7).f1.f0), .int .i64 ((rd_T29 l0 x82_7).f1.f1), .int .i64 ((rd_T29 l0 x82_7).f2), .int .i64 0]) ?_ 5 _ rfl; (with_reducible repeat (first | refine blk_drewN ?_ _ | refine blk_drew ?_ | refine blk_alloc ?_ _)); refine blk_put (cs := #[.int .i64 ((rd_T29 l0 x82_7).f0.f0), .int .i64 ((rd_T29 l0 x82_7).f0.f1), .int .i64 ((rd_T29 l0 x82_7).f1.f0), .int .i64 ((rd_T29 l0 x82_7).f1.f1), .int .i64 0, .int .i64 0]) ?_ 4 _ rfl; (with_reducible repeat (first | refine blk_drewN ?_ _ | refine blk_drew ?_ | refine blk_alloc ?_ _)); refine blk_put (cs := #[.int .i64 ((rd_T29 l0 x82_7).f0.f0), .int .i64 ((rd_T29 l0 x82_7).f0.f1), .int .i64 ((rd_T29 l0 x82_7).f1.f0), .int .i64 0, .int .i64 0, .int .i64 0]) ?_ 3 _ rfl; (with_reducible repeat (first | refine blk_drewN ?_ _ | refine blk_drew ?_ | refine blk_alloc ?_ _)); refine blk_put (cs := #[.int .i64 ((rd_T29 l0 x82_7).f0.f0), .int .i64 ((rd_T29 l0 x82_7).f0.f1), .int .i64 0, .int .i64 0, .int .i64 0, .int .i64 0]) ?_ 2 _ rfl; (with_reducible repeat (first | refine blk_drewN ?_ _ | refine blk_drew ?_ | refine blk_alloc ?_ _)); refine blk_put (cs := #[.int .i64 ((rd_T29 l0 x82_7).f0.f0), .int .i64 0, .int .i64 0, .int .i64 0, .int .i64 0, .int .i64 0]) ?_ 1 _ rfl; (with_reducible repeat (first | refine blk_drewN ?_ _ | refine blk_drew ?_ | refine blk_alloc ?_ _)); refine blk_put (cs := #[.int .i64 0, .int .i64 0, .int .i64 0, .int .i64 0, .int .i64 0, .int .i64 0]) ?_ 0 _ rfl; (with_reducible repeat (first | refine blk_drewN ?_ _ | refine blk_drew ?_ | refine blk_alloc ?_ _)); exact BK261.out) hb); have n2_ := Aside0.mk (below_step (by repeat (first | (with_reducible first | exact HB.out | apply below_alloc | apply pw_below_drewN | apply below_drew1 | refine below_set ?_ GE261.out) | exact HB.out)) hb); have n3_ := Aside0.mk (hbox); have n4_ := Aside0.mk ((by rw [hg]; exact (below_size (by repeat (first | (with_reducible first | exact HB.out | apply below_alloc | apply pw_below_drewN | apply below_drew1 | refine below_set ?_ GE261.out) | exact HB.out))) : w.heap.size ≤ gb262)); have n5_ := Aside0.mk ((by rw [hg]; exact (below_size (by repeat (first | (with_reducible first | exact HB.out | apply below_alloc | apply pw_below_drewN | apply below_drew1 | refine below_set ?_ GE261.out) | exact HB.out))) : w.heap.size ≤ gb262)); have n6_ := Aside0.mk ((by rw [hg]; exact Nat.ne_of_lt (blk_lt (g := gb261) (o := .cells #[.int .i64 ((rd_T29 l0 x82_7).f0.f0), .int .i64 ((rd_T29 l0 x82_7).f0.f1), .int .i64 ((rd_T29 l0 x82_7).f1.f0), .int .i64 ((rd_T29 l0 x82_7).f1.f1), .int .i64 ((rd_T29 l0 x82_7).f2), .int .i64 ((rd_T29 l0 x82_7).f3)] 29 (0, 0)) (by (with_reducible repeat (first | refine blk_drewN ?_ _ | refine blk_drew ?_ | refine blk_alloc ?_ _)); refine blk_put (cs := #[.int .i64 ((rd_T29 l0 x82_7).f0.f0), .int .i64 ((rd_T29 l0 x82_7).f0.f1), .int .i64 ((rd_T29 l0 x82_7).f1.f0), .int .i64 ((rd_T29 l0 x82_7).f1.f1), .int .i64 ((rd_T29 l0 x82_7).f2), .int .i64 0]) ?_ 5 _ rfl; (with_reducible repeat (first | refine blk_drewN ?_ _ | refine blk_drew ?_ | refine blk_alloc ?_ _)); refine blk_put (cs := #[.int .i64 ((rd_T29 l0 x82_7).f0.f0), .int .i64 ((rd_T29 l0 x82_7).f0.f1), .int .i64 ((rd_T29 l0 x82_7).f1.f0), .int .i64 ((rd_T29 l0 x82_7).f1.f1), .int .i64 0, .int .i64 0]) ?_ 4 _ rfl; (with_reducible repeat (first | refine blk_drewN ?_ _ | refine blk_drew ?_ | refine blk_alloc ?_ _)); refine blk_put (cs := #[.int .i64 ((rd_T29 l0 x82_7).f0.f0), .int .i64 ((rd_T29 l0 x82_7).f0.f1), .int .i64 ((rd_T29 l0 x82_7).f1.f0), .int .i64 0, .int .i64 0, .int .i64 0]) ?_ 3 _ rfl; (with_reducible repeat (first | refine blk_drewN ?_ _ | refine blk_drew ?_ | refine blk_alloc ?_ _)); refine blk_put (cs := #[.int .i64 ((rd_T29 l0 x82_7).f0.f0), .int .i64 ((rd_T29 l0 x82_7).f0.f1), .int .i64 0, .int .i64 0, .int .i64 0, .int .i64 0]) ?_ 2 _ rfl; (with_reducible repeat (first | refine blk_drewN ?_ _ | refine blk_drew ?_ | refine blk_alloc ?_ _)); refine blk_put (cs := #[.int .i64 ((rd_T29 l0 x82_7).f0.f0), .int .i64 0, .int .i64 0, .int .i64 0, .int .i64 0, .int .i64 0]) ?_ 1 _ rfl; (with_reducible repeat (first | refine blk_drewN ?_ _ | refine blk_drew ?_ | refine blk_alloc ?_ _)); refine blk_put (cs := #[.int .i64 0, .int .i64 0, .int .i64 0, .int .i64 0, .int .i64 0, .int .i64 0]) ?_ 0 _ rfl; (with_reducible repeat (first | refine blk_drewN ?_ _ | refine blk_drew ?_ | refine blk_alloc ?_ _)); exact BK261.out)) : gb261 ≠ gb262)); have n7_ := Aside0.mk ((by rw [hg]; exact Nat.ne_of_gt (blk_lt (g := gb261) (o := .cells #[.int .i64 ((rd_T29 l0 x82_7).f0.f0), .int .i64 ((rd_T29 l0 x82_7).f0.f1), .int .i64 ((rd_T29 l0 x82_7).f1.f0), .int .i64 ((rd_T29 l0 x82_7).f1.f1), .int .i64 ((rd_T29 l0 x82_7).f2), .int .i64 ((rd_T29 l0 x82_7).f3)] 29 (0, 0)) (by (with_reducible repeat (first | refine blk_drewN ?_ _ | refine blk_drew ?_ | refine blk_alloc ?_ _)); refine blk_put (cs := #[.int .i64 ((rd_T29 l0 x82_7).f0.f0), .int .i64 ((rd_T29 l0 x82_7).f0.f1), .int .i64 ((rd_T29 l0 x82_7).f1.f0), .int .i64 ((rd_T29 l0 x82_7).f1.f1), .int .i64 ((rd_T29 l0 x82_7).f2), .int .i64 0]) ?_ 5 _ rfl; (with_reducible repeat (first | refine blk_drewN ?_ _ | refine blk_drew ?_ | refine blk_alloc ?_ _)); refine blk_put (cs := #[.int .i64 ((rd_T29 l0 x82_7).f0.f0), .int .i64 ((rd_T29 l0 x82_7).f0.f1), .int .i64 ((rd_T29 l0 x82_7).f1.f0), .int .i64 ((rd_T29 l0 x82_7).f1.f1), .int .i64 0, .int .i64 0]) ?_ 4 _ rfl; (with_reducible repeat (first | refine blk_drewN ?_ _ | refine blk_drew ?_ | refine blk_alloc ?_ _)); refine blk_put (cs := #[.int .i64 ((rd_T29 l0 x82_7).f0.f0), .int .i64 ((rd_T29 l0 x82_7).f0.f1), .int .i64 ((rd_T29 l0 x82_7).f1.f0), .int .i64 0, .int .i64 0, .int .i64 0]) ?_ 3 _ rfl; (with_reducible repeat (first | refine blk_drewN ?_ _ | refine blk_drew ?_ | refine blk_alloc ?_ _)); refine blk_put (cs := #[.int .i64 ((rd_T29 l0 x82_7).f0.f0), .int .i64 ((rd_T29 l0 x82_7).f0.f1), .int .i64 0, .int .i64 0, .int .i64 0, .int .i64 0]) ?_ 2 _ rfl; (with_reducible repeat (first | refine blk_drewN ?_ _ | refine blk_drew ?_ | refine blk_alloc ?_ _)); refine blk_put (cs := #[.int .i64 ((rd_T29 l0 x82_7).f0.f0), .int .i64 0, .int .i64 0, .int .i64 0, .int .i64 0, .int .i64 0]) ?_ 1 _ rfl; (with_reducible repeat (first | refine blk_drewN ?_ _ | refine blk_drew ?_ | refine blk_alloc ?_ _)); refine blk_put (cs := #[.int .i64 0, .int .i64 0, .int .i64 0, .int .i64 0, .int .i64 0, .int .i64 0]) ?_ 0 _ rfl; (with_reducible repeat (first | refine blk_drewN ?_ _ | refine blk_drew ?_ | refine blk_alloc ?_ _)); exact BK261.out)) : gb262 ≠ gb261)); clear HO_10; clear BK261; clear HB; have HO_10 := n0_; have BK261 := n1_; have HB := n2_; have BK262 := n3_; have GW262 := n4_; have GE262 := n5_; have NB261_262 := n6_; have NB262_261 := n7_; clear n0_ n1_ n2_ n3_ n4_ n5_ n6_ n7_; clear hb hbox hg; have hnb42 := NB262_261.out; have hnc42 := NB261_262.out; have hcz43_0 : w41.cell? ⟨gb262, 0, none⟩ = some (.int .i64 0) := (blk_cell BK262.out 0).trans rfl; have hcz43_1 : w41.cell? ⟨gb262, 1, none⟩ = some (.int .i64 0) := (blk_cell BK262.out 1).trans rfl; have hfz43_0 := blk_frozen BK262.out 0; have hfz43_1 := blk_frozen BK262.out 1))
                      go_loopg [91] k7 (fun kq v91 w' => ∃ (x91_8 : Int) (x263000_8 : Int) (x263001_8 : Int), v91 = .int .i64 x91_8 ∧ Aside0 (tourlaw5_SteerParts.l2 kq l0 a1 t256 x82_7 l0 (l0.length : Int) x82_7 l0 (l0.length : Int) x91_8 ((rd_T29 l0 x82_7).f0.f0) ((rd_T29 l0 x82_7).f0.f1) ((rd_T29 l0 x82_7).f1.f0) ((rd_T29 l0 x82_7).f1.f1) ((rd_T29 l0 x82_7).f2) ((rd_T29 l0 x82_7).f3) x263000_8 x263001_8 = some r) ∧ Aside0 (kq ≤ k7) ∧ Aside0 (Kd.R k29 29 w' w.heap.size (fun k_ => k_ ≠ gb261) v258 t256) ∧ Aside0 (w'.heap[gb261]? = some (.cells #[.int .i64 ((rd_T29 l0 x82_7).f0.f0), .int .i64 ((rd_T29 l0 x82_7).f0.f1), .int .i64 ((rd_T29 l0 x82_7).f1.f0), .int .i64 ((rd_T29 l0 x82_7).f1.f1), .int .i64 ((rd_T29 l0 x82_7).f2), .int .i64 ((rd_T29 l0 x82_7).f3)] 29 (0, 0))) ∧ Aside0 (w'.heap[gb262]? = some (.cells #[.int .i64 x263000_8, .int .i64 x263001_8] 27 (0, 0))) ∧ Aside0 (Below w.heap.size w w'))
                      case atStart => exact ⟨(0), ((rd_T29 l0 x82_7).f1.f0), ((rd_T29 l0 x82_7).f1.f1), (by first | rfl | (simp; done) | (simp [*]; done)), H', ⟨Nat.le_refl _⟩, ⟨by (with_reducible repeat (first | apply Kd.R_alloc | apply Kd.R_drewN | apply Kd.R_drew)); exact Kd.R_mono (Kd.R_far (p := ⟨gb262, 1, none⟩) (Kd.R_far (p := ⟨gb262, 0, none⟩) (Kd.R_types HO_10.out BK262.out (by decide)) (fun _ hk => hk.2) (.int .i64 ((rd_T29 l0 x82_7).f1.f0))) (fun _ hk => hk.2) (.int .i64 ((rd_T29 l0 x82_7).f1.f1))) (fun _ hk => hk.1.2)⟩, ⟨by (with_reducible repeat (first | refine blk_drewN ?_ _ | refine blk_drew ?_ | refine blk_alloc ?_ _)); refine blk_far ?_ NB261_262.out _; (with_reducible repeat (first | refine blk_drewN ?_ _ | refine blk_drew ?_ | refine blk_alloc ?_ _)); refine blk_far ?_ NB261_262.out _; (with_reducible repeat (first | refine blk_drewN ?_ _ | refine blk_drew ?_ | refine blk_alloc ?_ _)); exact BK261.out⟩, ⟨by (with_reducible repeat (first | refine blk_drewN ?_ _ | refine blk_drew ?_ | refine blk_alloc ?_ _)); refine blk_put (cs := #[.int .i64 ((rd_T29 l0 x82_7).f1.f0), .int .i64 0]) ?_ 1 _ rfl; (with_reducible repeat (first | refine blk_drewN ?_ _ | refine blk_drew ?_ | refine blk_alloc ?_ _)); refine blk_put (cs := #[.int .i64 0, .int .i64 0]) ?_ 0 _ rfl; (with_reducible repeat (first | refine blk_drewN ?_ _ | refine blk_drew ?_ | refine blk_alloc ?_ _)); exact BK262.out⟩, ⟨by repeat (first | (with_reducible first | exact HB.out | apply below_alloc | apply pw_below_drewN | apply below_drew1 | refine below_set ?_ GE261.out | refine below_set ?_ GE262.out) | exact HB.out)⟩⟩
                      case round =>
                       clear H'
                       try clear c1
                       try clear c2
                       try clear p2
                       try clear q2
                       try clear hx2
                       try clear c3
                       try clear c4
                       try clear c6
                       try clear p6
                       try clear c9
                       try clear c9b0
                       try clear c9b1
                       try clear c11
                       try clear c12
                       try clear c13
                       try clear c13b0
                       try clear c13b1
                       try clear c14
                       try clear c14b0
                       try clear c15
                       try clear c15b0
                       try clear c16
                       try clear c16b0
                       try clear c17
                       try clear c17b0
                       try clear c17b1
                       try clear c25
                       try clear c25b0
                       try clear c25b1
                       try clear p25
                       try clear q25
                       try clear hx25
                       try clear c26
                       try clear c26b0
                       try clear p26
                       try clear q26
                       try clear hx26
                       try clear c28
                       try clear c30
                       try clear c30b0
                       try clear c30b1
                       try clear c33
                       try clear c33b0
                       try clear c33b1
                       try clear c35
                       try clear c36
                       try clear c36b0
                       try clear c37
                       try clear c37b0
                       try clear c38
                       try clear c38b0
                       try clear c42
                       try clear hcz20_0
                       try clear hcz20_1
                       try clear hcz20_2
                       try clear hcz20_3
                       try clear hcz20_4
                       try clear hcz20_5
                       try clear hcz23_0
                       try clear hcz23_1
                       try clear hcz23_2
                       try clear hcz23_3
                       try clear hcz23_4
                       try clear hcz23_5
                       try clear hcz40_0
                       try clear hcz40_1
                       try clear hcz40_2
                       try clear hcz40_3
                       try clear hcz40_4
                       try clear hcz40_5
                       try clear hcz43_0
                       try clear hcz43_1
                       try clear hfz20_0
                       try clear hfz20_1
                       try clear hfz20_2
                       try clear hfz20_3
                       try clear hfz20_4
                       try clear hfz20_5
                       try clear hfz23_0
                       try clear hfz23_1
                       try clear hfz23_2
                       try clear hfz23_3
                       try clear hfz23_4
                       try clear hfz23_5
                       try clear hfz40_0
                       try clear hfz40_1
                       try clear hfz40_2
                       try clear hfz40_3
                       try clear hfz40_4
                       try clear hfz40_5
                       try clear hfz43_0
                       try clear hfz43_1
                       try clear hx253_0
                       try clear hx253_1
                       try clear hx253_2
                       try clear hx253_3
                       try clear hx253_4
                       try clear hx253_5
                       try clear hx260_0
                       try clear hx260_1
                       try clear hx260_2
                       try clear hx260_3
                       try clear hx260_4
                       try clear hx260_5
                       try clear p2
                       try clear p25
                       try clear p253
                       try clear p260
                       try clear p6
                       try clear q2
                       try clear q25
                       try clear q253
                       try clear q260
                       obtain ⟨x91_8, x263000_8, x263001_8, rfl, HA, HK8, HO_10, BK261, BK262, HB⟩ := hrel
                       cases gk with
                       | zero => exact absurd HA.out (by simp [tourlaw5_SteerParts.l2])
                       | succ k8 =>
                        have H := HA.out
                        clear HA
                        simp only [tourlaw5_SteerParts.l2] at H
                        by_cases c44 : x91_8 < (l0.length : Int)
                        ·rw [if_pos c44] at H
                         have c44b0 : decide (x91_8 < (l0.length : Int)) = true := decide_eq_true c44
                         clear c44
                         by_cases c45 : 0 ≤ x91_8
                         ·rw [if_pos c45] at H
                          have c45b0 : decide (0 ≤ x91_8) = true := decide_eq_true c45
                          clear c45
                          by_cases c46 : x91_8 < (l0.length : Int)
                          ·rw [if_pos c46] at H
                           have c46b0 : decide (x91_8 < (l0.length : Int)) = true := decide_eq_true c46
                           clear c46
                           replace H := Option.bind_eq_some_iff.mp H
                           obtain ⟨⟨t272, t273⟩, A470, H⟩ := H
                           replace H : (if x91_8 = x82_7 then (tourlaw5_SteerParts.j8 k8 l0 a1 t256 x82_7 l0 (l0.length : Int) x82_7 l0 (l0.length : Int) x91_8 false ((rd_T29 l0 x82_7).f0.f0) ((rd_T29 l0 x82_7).f0.f1) ((rd_T29 l0 x82_7).f1.f0) ((rd_T29 l0 x82_7).f1.f1) ((rd_T29 l0 x82_7).f2) ((rd_T29 l0 x82_7).f3) x263000_8 x263001_8 t272 t273) else ((vec_Len.f k8 t272 t273).bind fun t275 => (if t275 > 0 then ((vec_Len.f k8 t272 t273).bind fun t276 => (tourlaw5_SteerParts.j8 k8 l0 a1 t256 x82_7 l0 (l0.length : Int) x82_7 l0 (l0.length : Int) x91_8 (decide (t276 < a1)) ((rd_T29 l0 x82_7).f0.f0) ((rd_T29 l0 x82_7).f0.f1) ((rd_T29 l0 x82_7).f1.f0) ((rd_T29 l0 x82_7).f1.f1) ((rd_T29 l0 x82_7).f2) ((rd_T29 l0 x82_7).f3) x263000_8 x263001_8 t272 t273)) else (tourlaw5_SteerParts.j8 k8 l0 a1 t256 x82_7 l0 (l0.length : Int) x82_7 l0 (l0.length : Int) x91_8 false ((rd_T29 l0 x82_7).f0.f0) ((rd_T29 l0 x82_7).f0.f1) ((rd_T29 l0 x82_7).f1.f0) ((rd_T29 l0 x82_7).f1.f1) ((rd_T29 l0 x82_7).f2) ((rd_T29 l0 x82_7).f3) x263000_8 x263001_8 t272 t273)))) = some r := H
                           have A47 := Aside0.mk A470
                           clear A470
                           have HC48 := Aside0.mk H
                           clear H
                           have p270 : 0 ≤ (x91_8 : Int) := of_decide_eq_true (by first | (with_reducible assumption) | assumption)
                           have q270 : x91_8 < (l0.length : Int) := of_decide_eq_true (by first | (with_reducible assumption) | assumption)
                           obtain ⟨ad270, e270, hx270_0, hx270_1, hx270_2, hx270_3, hx270_4, hx270_5⟩ := at_T29 HR0.out x91_8 p270 q270
                           obtain rfl : ad260 = ad270 := (by injection e270)
                           replace hx270_0 := (HB.out.cell (World.block_lt_of_cell? w _ hx270_0)).trans hx270_0
                           replace hx270_1 := (HB.out.cell (World.block_lt_of_cell? w _ hx270_1)).trans hx270_1
                           replace hx270_2 := (HB.out.cell (World.block_lt_of_cell? w _ hx270_2)).trans hx270_2
                           replace hx270_3 := (HB.out.cell (World.block_lt_of_cell? w _ hx270_3)).trans hx270_3
                           replace hx270_4 := (HB.out.cell (World.block_lt_of_cell? w _ hx270_4)).trans hx270_4
                           replace hx270_5 := (HB.out.cell (World.block_lt_of_cell? w _ hx270_5)).trans hx270_5
                           replace p270 := eq_true p270
                           replace q270 := eq_true q270
                           go_upto_region 28 with (first | ((with_reducible refine gate_dst (N := 16) rfl ?_); (try (refine gate_guard (by rfl) ?_; dsimp only)); refine box_event ?hg (N := 16) ?hd (cs := #[.int .i64 0, .int .i64 0, .int .i64 0, .int .i64 0, .int .i64 0, .int .i64 0]) (t := 29) ?hr ?_; (case hd => rfl); (case hg => rfl); (case hr => first | (go_simp; done) | (go_simp; rfl)); intro gb271 hg w49 hbox hb; have n0_ := Aside0.mk (Kd.R_below (Kd.R_elderB (by (with_reducible repeat (first | apply Kd.R_alloc | apply Kd.R_drewN | apply Kd.R_drew)); exact HO_10.out) gb271 (Nat.le_of_eq hg.symm)) hb); have n1_ := Aside0.mk (blk_below (g := gb261) (o := .cells #[.int .i64 ((rd_T29 l0 x82_7).f0.f0), .int .i64 ((rd_T29 l0 x82_7).f0.f1), .int .i64 ((rd_T29 l0 x82_7).f1.f0), .int .i64 ((rd_T29 l0 x82_7).f1.f1), .int .i64 ((rd_T29 l0 x82_7).f2), .int .i64 ((rd_T29 l0 x82_7).f3)] 29 (0, 0)) (by (with_reducible repeat (first | refine blk_drewN ?_ _ | refine blk_drew ?_ | refine blk_alloc ?_ _)); exact BK261.out) hb); have n2_ := Aside0.mk (blk_below (g := gb262) (o := .cells #[.int .i64 x263000_8, .int .i64 x263001_8] 27 (0, 0)) (by (with_reducible repeat (first | refine blk_drewN ?_ _ | refine blk_drew ?_ | refine blk_alloc ?_ _)); exact BK262.out) hb); have n3_ := Aside0.mk (below_step (by repeat (first | (with_reducible first | exact HB.out | apply below_alloc | apply pw_below_drewN | apply below_drew1 | refine below_set ?_ GE261.out | refine below_set ?_ GE262.out) | exact HB.out)) hb); have n4_ := Aside0.mk (hbox); have n5_ := Aside0.mk ((by rw [hg]; exact (below_size (by repeat (first | (with_reducible first | exact HB.out | apply below_alloc | apply pw_below_drewN | apply below_drew1 | refine below_set ?_ GE261.out | refine below_set ?_ GE262.out) | exact HB.out))) : w.heap.size ≤ gb271)); have n6_ := Aside0.mk ((by rw [hg]; exact (below_size (by repeat (first | (with_reducible first | exact HB.out | apply below_alloc | apply pw_below_drewN | apply below_drew1 | refine below_set ?_ GE261.out | refine below_set ?_ GE262.out) | exact HB.out))) : w.heap.size ≤ gb271)); have n7_ := Aside0.mk ((by rw [hg]; exact Nat.ne_of_lt (blk_lt (g := gb261) (o := .cells #[.int .i64 ((rd_T29 l0 x82_7).f0.f0), .int .i64 ((rd_T29 l0 x82_7).f0.f1), .int .i64 ((rd_T29 l0 x82_7).f1.f0), .int .i64 ((rd_T29 l0 x82_7).f1.f1), .int .i64 ((rd_T29 l0 x82_7).f2), .int .i64 ((rd_T29 l0 x82_7).f3)] 29 (0, 0)) (by (with_reducible repeat (first | refine blk_drewN ?_ _ | refine blk_drew ?_ | refine blk_alloc ?_ _)); exact BK261.out)) : gb261 ≠ gb271)); have n8_ := Aside0.mk ((by rw [hg]; exact Nat.ne_of_gt (blk_lt (g := gb261) (o := .cells #[.int .i64 ((rd_T29 l0 x82_7).f0.f0), .int .i64 ((rd_T29 l0 x82_7).f0.f1), .int .i64 ((rd_T29 l0 x82_7).f1.f0), .int .i64 ((rd_T29 l0 x82_7).f1.f1), .int .i64 ((rd_T29 l0 x82_7).f2), .int .i64 ((rd_T29 l0 x82_7).f3)] 29 (0, 0)) (by (with_reducible repeat (first | refine blk_drewN ?_ _ | refine blk_drew ?_ | refine blk_alloc ?_ _)); exact BK261.out)) : gb271 ≠ gb261)); have n9_ := Aside0.mk ((by rw [hg]; exact Nat.ne_of_lt (blk_lt (g := gb262) (o := .cells #[.int .i64 x263000_8, .int .i64 x263001_8] 27 (0, 0)) (by (with_reducible repeat (first | refine blk_drewN ?_ _ | refine blk_drew ?_ | refine blk_alloc ?_ _)); exact BK262.out)) : gb262 ≠ gb271)); have n10_ := Aside0.mk ((by rw [hg]; exact Nat.ne_of_gt (blk_lt (g := gb262) (o := .cells #[.int .i64 x263000_8, .int .i64 x263001_8] 27 (0, 0)) (by (with_reducible repeat (first | refine blk_drewN ?_ _ | refine blk_drew ?_ | refine blk_alloc ?_ _)); exact BK262.out)) : gb271 ≠ gb262)); clear HO_10; clear BK261; clear BK262; clear HB; have HO_10 := n0_; have BK261 := n1_; have BK262 := n2_; have HB := n3_; have BK271 := n4_; have GW271 := n5_; have GE271 := n6_; have NB261_271 := n7_; have NB271_261 := n8_; have NB262_271 := n9_; have NB271_262 := n10_; clear n0_ n1_ n2_ n3_ n4_ n5_ n6_ n7_ n8_ n9_ n10_; clear hb hbox hg; have hnb50 := NB271_261.out; have hnc50 := NB261_271.out; have hnb51 := NB271_262.out; have hnc51 := NB262_271.out; have hcz52_0 : w49.cell? ⟨gb271, 0, none⟩ = some (.int .i64 0) := (blk_cell BK271.out 0).trans rfl; have hcz52_1 : w49.cell? ⟨gb271, 1, none⟩ = some (.int .i64 0) := (blk_cell BK271.out 1).trans rfl; have hcz52_2 : w49.cell? ⟨gb271, 2, none⟩ = some (.int .i64 0) := (blk_cell BK271.out 2).trans rfl; have hcz52_3 : w49.cell? ⟨gb271, 3, none⟩ = some (.int .i64 0) := (blk_cell BK271.out 3).trans rfl; have hcz52_4 : w49.cell? ⟨gb271, 4, none⟩ = some (.int .i64 0) := (blk_cell BK271.out 4).trans rfl; have hcz52_5 : w49.cell? ⟨gb271, 5, none⟩ = some (.int .i64 0) := (blk_cell BK271.out 5).trans rfl; have hfz52_0 := blk_frozen BK271.out 0; have hfz52_1 := blk_frozen BK271.out 1; have hfz52_2 := blk_frozen BK271.out 2; have hfz52_3 := blk_frozen BK271.out 3; have hfz52_4 := blk_frozen BK271.out 4; have hfz52_5 := blk_frozen BK271.out 5; have hnb53 := NB261_262.out; have hnc53 := NB262_261.out; have hcz54_0 : w49.cell? ⟨gb261, 0, none⟩ = some (.int .i64 ((rd_T29 l0 x82_7).f0.f0)) := (blk_cell BK261.out 0).trans rfl; have hcz54_1 : w49.cell? ⟨gb261, 1, none⟩ = some (.int .i64 ((rd_T29 l0 x82_7).f0.f1)) := (blk_cell BK261.out 1).trans rfl; have hcz54_2 : w49.cell? ⟨gb261, 2, none⟩ = some (.int .i64 ((rd_T29 l0 x82_7).f1.f0)) := (blk_cell BK261.out 2).trans rfl; have hcz54_3 : w49.cell? ⟨gb261, 3, none⟩ = some (.int .i64 ((rd_T29 l0 x82_7).f1.f1)) := (blk_cell BK261.out 3).trans rfl; have hcz54_4 : w49.cell? ⟨gb261, 4, none⟩ = some (.int .i64 ((rd_T29 l0 x82_7).f2)) := (blk_cell BK261.out 4).trans rfl; have hcz54_5 : w49.cell? ⟨gb261, 5, none⟩ = some (.int .i64 ((rd_T29 l0 x82_7).f3)) := (blk_cell BK261.out 5).trans rfl; have hfz54_0 := blk_frozen BK261.out 0; have hfz54_1 := blk_frozen BK261.out 1; have hfz54_2 := blk_frozen BK261.out 2; have hfz54_3 := blk_frozen BK261.out 3; have hfz54_4 := blk_frozen BK261.out 4; have hfz54_5 := blk_frozen BK261.out 5) | ((with_reducible refine gate_callee (f := 13) rfl ?_); refine goesL_ (some 100) rfl rfl Try.func13 (by kernel_rfl) rfl #[.agg #[.int .i64 ((rd_T29 l0 x82_7).f0.f0), .int .i64 ((rd_T29 l0 x82_7).f0.f1)], .agg #[.int .i64 ((rd_T29 l0 x91_8).f0.f0), .int .i64 ((rd_T29 l0 x91_8).f0.f1)]] rfl (by (try simp only [List.map_toArray, List.map_cons, List.map_nil]); first | done | rfl | (simp only [List.length_drop, List.length_take]; rfl)) ?_; (with_reducible refine (vec_Sub.calls ((rd_T29 l0 x82_7).f0.f0) ((rd_T29 l0 x82_7).f0.f1) ((rd_T29 l0 x91_8).f0.f0) ((rd_T29 l0 x91_8).f0.f1) t272 t273 _ A47.out).mono ?_); rintro e w55 ⟨rfl, hb⟩; refine ⟨_, rfl, ?_⟩; have n0_ := Aside0.mk (Kd.R_below (by (with_reducible repeat (first | apply Kd.R_alloc | apply Kd.R_drewN | apply Kd.R_drew)); exact (Kd.R_mono (Kd.R_far (p := ⟨gb271, 5, none⟩) (Kd.R_far (p := ⟨gb271, 4, none⟩) (Kd.R_far (p := ⟨gb271, 3, none⟩) (Kd.R_far (p := ⟨gb271, 2, none⟩) (Kd.R_far (p := ⟨gb271, 1, none⟩) (Kd.R_far (p := ⟨gb271, 0, none⟩) (Kd.R_mono HO_10.out (fun k_ hk => (⟨hk, hk.2⟩ : _ ∧ k_ ≠ gb271))) (fun _ hk => hk.2) (.int .i64 ((rd_T29 l0 x91_8).f0.f0))) (fun _ hk => hk.2) (.int .i64 ((rd_T29 l0 x91_8).f0.f1))) (fun _ hk => hk.2) (.int .i64 ((rd_T29 l0 x91_8).f1.f0))) (fun _ hk => hk.2) (.int .i64 ((rd_T29 l0 x91_8).f1.f1))) (fun _ hk => hk.2) (.int .i64 ((rd_T29 l0 x91_8).f2))) (fun _ hk => hk.2) (.int .i64 ((rd_T29 l0 x91_8).f3))) (fun _ h_ => h_.1))) hb); have n1_ := Aside0.mk (blk_below (g := gb261) (o := .cells #[.int .i64 ((rd_T29 l0 x82_7).f0.f0), .int .i64 ((rd_T29 l0 x82_7).f0.f1), .int .i64 ((rd_T29 l0 x82_7).f1.f0), .int .i64 ((rd_T29 l0 x82_7).f1.f1), .int .i64 ((rd_T29 l0 x82_7).f2), .int .i64 ((rd_T29 l0 x82_7).f3)] 29 (0, 0)) (by (with_reducible repeat (first | refine blk_drewN ?_ _ | refine blk_drew ?_ | refine blk_alloc ?_ _)); refine blk_far ?_ NB261_271.out _; (with_reducible repeat (first | refine blk_drewN ?_ _ | refine blk_drew ?_ | refine blk_alloc ?_ _)); refine blk_far ?_ NB261_271.out _; (with_reducible repeat (first | refine blk_drewN ?_ _ | refine blk_drew ?_ | refine blk_alloc ?_ _)); refine blk_far ?_ NB261_271.out _; (with_reducible repeat (first | refine blk_drewN ?_ _ | refine blk_drew ?_ | refine blk_alloc ?_ _)); refine blk_far ?_ NB261_271.out _; (with_reducible repeat (first | refine blk_drewN ?_ _ | refine blk_drew ?_ | refine blk_alloc ?_ _)); refine blk_far ?_ NB261_271.out _; (with_reducible repeat (first | refine blk_drewN ?_ _ | refine blk_drew ?_ | refine blk_alloc ?_ _)); refine blk_far ?_ NB261_271.out _; (with_reducible repeat (first | refine blk_drewN ?_ _ | refine blk_drew ?_ | refine blk_alloc ?_ _)); exact BK261.out) hb); have n2_ := Aside0.mk (blk_below (g := gb262) (o := .cells #[.int .i64 x263000_8, .int .i64 x263001_8] 27 (0, 0)) (by (with_reducible repeat (first | refine blk_drewN ?_ _ | refine blk_drew ?_ | refine blk_alloc ?_ _)); refine blk_far ?_ NB262_271.out _; (with_reducible repeat (first | refine blk_drewN ?_ _ | refine blk_drew ?_ | refine blk_alloc ?_ _)); refine blk_far ?_ NB262_271.out _; (with_reducible repeat (first | refine blk_drewN ?_ _ | refine blk_drew ?_ | refine blk_alloc ?_ _)); refine blk_far ?_ NB262_271.out _; (with_reducible repeat (first | refine blk_drewN ?_ _ | refine blk_drew ?_ | refine blk_alloc ?_ _)); refine blk_far ?_ NB262_271.out _; (with_reducible repeat (first | refine blk_drewN ?_ _ | refine blk_drew ?_ | refine blk_alloc ?_ _)); refine blk_far ?_ NB262_271.out _; (with_reducible repeat (first | refine blk_drewN ?_ _ | refine blk_drew ?_ | refine blk_alloc ?_ _)); refine blk_far ?_ NB262_271.out _; (with_reducible repeat (first | refine blk_drewN ?_ _ | refine blk_drew ?_ | refine blk_alloc ?_ _)); exact BK262.out) hb); have n3_ := Aside0.mk (blk_below (g := gb271) (o := .cells #[.int .i64 ((rd_T29 l0 x91_8).f0.f0), .int .i64 ((rd_T29 l0 x91_8).f0.f1), .int .i64 ((rd_T29 l0 x91_8).f1.f0), .int .i64 ((rd_T29 l0 x91_8).f1.f1), .int .i64 ((rd_T29 l0 x91_8).f2), .int .i64 ((rd_T29 l0 x91_8).f3)] 29 (0, 0)) (by (with_reducible repeat (first | refine blk_drewN ?_ _ | refine blk_drew ?_ | refine blk_alloc ?_ _)); refine blk_put (cs := #[.int .i64 ((rd_T29 l0 x91_8).f0.f0), .int .i64 ((rd_T29 l0 x91_8).f0.f1), .int .i64 ((rd_T29 l0 x91_8).f1.f0), .int .i64 ((rd_T29 l0 x91_8).f1.f1), .int .i64 ((rd_T29 l0 x91_8).f2), .int .i64 0]) ?_ 5 _ rfl; (with_reducible repeat (first | refine blk_drewN ?_ _ | refine blk_drew ?_ | refine blk_alloc ?_ _)); refine blk_put (cs := #[.int .i64 ((rd_T29 l0 x91_8).f0.f0), .int .i64 ((rd_T29 l0 x91_8).f0.f1), .int .i64 ((rd_T29 l0 x91_8).f1.f0), .int .i64 ((rd_T29 l0 x91_8).f1.f1), .int .i64 0, .int .i64 0]) ?_ 4 _ rfl; (with_reducible repeat (first | refine blk_drewN ?_ _ | refine blk_drew ?_ | refine blk_alloc ?_ _)); refine blk_put (cs := #[.int .i64 ((rd_T29 l0 x91_8).f0.f0), .int .i64 ((rd_T29 l0 x91_8).f0.f1), .int .i64 ((rd_T29 l0 x91_8).f1.f0), .int .i64 0, .int .i64 0, .int .i64 0]) ?_ 3 _ rfl; (with_reducible repeat (first | refine blk_drewN ?_ _ | refine blk_drew ?_ | refine blk_alloc ?_ _)); refine blk_put (cs := #[.int .i64 ((rd_T29 l0 x91_8).f0.f0), .int .i64 ((rd_T29 l0 x91_8).f0.f1), .int .i64 0, .int .i64 0, .int .i64 0, .int .i64 0]) ?_ 2 _ rfl; (with_reducible repeat (first | refine blk_drewN ?_ _ | refine blk_drew ?_ | refine blk_alloc ?_ _)); refine blk_put (cs := #[.int .i64 ((rd_T29 l0 x91_8).f0.f0), .int .i64 0, .int .i64 0, .int .i64 0, .int .i64 0, .int .i64 0]) ?_ 1 _ rfl; (with_reducible repeat (first | refine blk_drewN ?_ _ | refine blk_drew ?_ | refine blk_alloc ?_ _)); refine blk_put (cs := #[.int .i64 0, .int .i64 0, .int .i64 0, .int .i64 0, .int .i64 0, .int .i64 0]) ?_ 0 _ rfl; (with_reducible repeat (first | refine blk_drewN ?_ _ | refine blk_drew ?_ | refine blk_alloc ?_ _)); exact BK271.out) hb); have n4_ := Aside0.mk (below_step (by repeat (first | (with_reducible first | exact HB.out | apply below_alloc | apply pw_below_drewN | apply below_drew1 | refine below_set ?_ GE261.out | refine below_set ?_ GE262.out | refine below_set ?_ GE271.out) | exact HB.out)) hb); clear HO_10; clear BK261; clear BK262; clear BK271; clear HB; have HO_10 := n0_; have BK261 := n1_; have BK262 := n2_; have BK271 := n3_; have HB := n4_; clear n0_ n1_ n2_ n3_ n4_; (try clear hb); (try clear hb2); (try clear hk); (try clear hi)) | ((with_reducible refine gate_dst (N := 17) rfl ?_); (try (refine gate_guard (by rfl) ?_; dsimp only)); refine box_event ?hg (N := 17) ?hd (cs := #[.int .i64 0, .int .i64 0]) (t := 27) ?hr ?_; (case hd => rfl); (case hg => rfl); (case hr => first | (go_simp; done) | (go_simp; rfl)); intro gb274 hg w56 hbox hb; have n0_ := Aside0.mk (Kd.R_below (by (with_reducible repeat (first | apply Kd.R_alloc | apply Kd.R_drewN | apply Kd.R_drew)); exact HO_10.out) hb); have n1_ := Aside0.mk (blk_below (g := gb261) (o := .cells #[.int .i64 ((rd_T29 l0 x82_7).f0.f0), .int .i64 ((rd_T29 l0 x82_7).f0.f1), .int .i64 ((rd_T29 l0 x82_7).f1.f0), .int .i64 ((rd_T29 l0 x82_7).f1.f1), .int .i64 ((rd_T29 l0 x82_7).f2), .int .i64 ((rd_T29 l0 x82_7).f3)] 29 (0, 0)) (by (with_reducible repeat (first | refine blk_drewN ?_ _ | refine blk_drew ?_ | refine blk_alloc ?_ _)); exact BK261.out) hb); have n2_ := Aside0.mk (blk_below (g := gb262) (o := .cells #[.int .i64 x263000_8, .int .i64 x263001_8] 27 (0, 0)) (by (with_reducible repeat (first | refine blk_drewN ?_ _ | refine blk_drew ?_ | refine blk_alloc ?_ _)); exact BK262.out) hb); have n3_ := Aside0.mk (blk_below (g := gb271) (o := .cells #[.int .i64 ((rd_T29 l0 x91_8).f0.f0), .int .i64 ((rd_T29 l0 x91_8).f0.f1), .int .i64 ((rd_T29 l0 x91_8).f1.f0), .int .i64 ((rd_T29 l0 x91_8).f1.f1), .int .i64 ((rd_T29 l0 x91_8).f2), .int .i64 ((rd_T29 l0 x91_8).f3)] 29 (0, 0)) (by (with_reducible repeat (first | refine blk_drewN ?_ _ | refine blk_drew ?_ | refine blk_alloc ?_ _)); exact BK271.out) hb); have n4_ := Aside0.mk (below_step (by repeat (first | (with_reducible first | exact HB.out | apply below_alloc | apply pw_below_drewN | apply below_drew1 | refine below_set ?_ GE261.out | refine below_set ?_ GE262.out | refine below_set ?_ GE271.out) | exact HB.out)) hb); have n5_ := Aside0.mk (hbox); have n6_ := Aside0.mk ((by rw [hg]; exact (below_size (by repeat (first | (with_reducible first | exact HB.out | apply below_alloc | apply pw_below_drewN | apply below_drew1 | refine below_set ?_ GE261.out | refine below_set ?_ GE262.out | refine below_set ?_ GE271.out) | exact HB.out))) : w.heap.size ≤ gb274)); have n7_ := Aside0.mk ((by rw [hg]; exact (below_size (by repeat (first | (with_reducible first | exact HB.out | apply below_alloc | apply pw_below_drewN | apply below_drew1 | refine below_set ?_ GE261.out | refine below_set ?_ GE262.out | refine below_set ?_ GE271.out) | exact HB.out))) : w.heap.size ≤ gb274)); have n8_ := Aside0.mk ((by rw [hg]; exact Nat.ne_of_lt (blk_lt (g := gb261) (o := .cells #[.int .i64 ((rd_T29 l0 x82_7).f0.f0), .int .i64 ((rd_T29 l0 x82_7).f0.f1), .int .i64 ((rd_T29 l0 x82_7).f1.f0), .int .i64 ((rd_T29 l0 x82_7).f1.f1), .int .i64 ((rd_T29 l0 x82_7).f2), .int .i64 ((rd_T29 l0 x82_7).f3)] 29 (0, 0)) (by (with_reducible repeat (first | refine blk_drewN ?_ _ | refine blk_drew ?_ | refine blk_alloc ?_ _)); exact BK261.out)) : gb261 ≠ gb274)); have n9_ := Aside0.mk ((by rw [hg]; exact Nat.ne_of_gt (blk_lt (g := gb261) (o := .cells #[.int .i64 ((rd_T29 l0 x82_7).f0.f0), .int .i64 ((rd_T29 l0 x82_7).f0.f1), .int .i64 ((rd_T29 l0 x82_7).f1.f0), .int .i64 ((rd_T29 l0 x82_7).f1.f1), .int .i64 ((rd_T29 l0 x82_7).f2), .int .i64 ((rd_T29 l0 x82_7).f3)] 29 (0, 0)) (by (with_reducible repeat (first | refine blk_drewN ?_ _ | refine blk_drew ?_ | refine blk_alloc ?_ _)); exact BK261.out)) : gb274 ≠ gb261)); have n10_ := Aside0.mk ((by rw [hg]; exact Nat.ne_of_lt (blk_lt (g := gb262) (o := .cells #[.int .i64 x263000_8, .int .i64 x263001_8] 27 (0, 0)) (by (with_reducible repeat (first | refine blk_drewN ?_ _ | refine blk_drew ?_ | refine blk_alloc ?_ _)); exact BK262.out)) : gb262 ≠ gb274)); have n11_ := Aside0.mk ((by rw [hg]; exact Nat.ne_of_gt (blk_lt (g := gb262) (o := .cells #[.int .i64 x263000_8, .int .i64 x263001_8] 27 (0, 0)) (by (with_reducible repeat (first | refine blk_drewN ?_ _ | refine blk_drew ?_ | refine blk_alloc ?_ _)); exact BK262.out)) : gb274 ≠ gb262)); have n12_ := Aside0.mk ((by rw [hg]; exact Nat.ne_of_lt (blk_lt (g := gb271) (o := .cells #[.int .i64 ((rd_T29 l0 x91_8).f0.f0), .int .i64 ((rd_T29 l0 x91_8).f0.f1), .int .i64 ((rd_T29 l0 x91_8).f1.f0), .int .i64 ((rd_T29 l0 x91_8).f1.f1), .int .i64 ((rd_T29 l0 x91_8).f2), .int .i64 ((rd_T29 l0 x91_8).f3)] 29 (0, 0)) (by (with_reducible repeat (first | refine blk_drewN ?_ _ | refine blk_drew ?_ | refine blk_alloc ?_ _)); exact BK271.out)) : gb271 ≠ gb274)); have n13_ := Aside0.mk ((by rw [hg]; exact Nat.ne_of_gt (blk_lt (g := gb271) (o := .cells #[.int .i64 ((rd_T29 l0 x91_8).f0.f0), .int .i64 ((rd_T29 l0 x91_8).f0.f1), .int .i64 ((rd_T29 l0 x91_8).f1.f0), .int .i64 ((rd_T29 l0 x91_8).f1.f1), .int .i64 ((rd_T29 l0 x91_8).f2), .int .i64 ((rd_T29 l0 x91_8).f3)] 29 (0, 0)) (by (with_reducible repeat (first | refine blk_drewN ?_ _ | refine blk_drew ?_ | refine blk_alloc ?_ _)); exact BK271.out)) : gb274 ≠ gb271)); clear HO_10; clear BK261; clear BK262; clear BK271; clear HB; have HO_10 := n0_; have BK261 := n1_; have BK262 := n2_; have BK271 := n3_; have HB := n4_; have BK274 := n5_; have GW274 := n6_; have GE274 := n7_; have NB261_274 := n8_; have NB274_261 := n9_; have NB262_274 := n10_; have NB274_262 := n11_; have NB271_274 := n12_; have NB274_271 := n13_; clear n0_ n1_ n2_ n3_ n4_ n5_ n6_ n7_ n8_ n9_ n10_ n11_ n12_ n13_; clear hb hbox hg; have hnb57 := NB274_261.out; have hnc57 := NB261_274.out; have hnb58 := NB274_262.out; have hnc58 := NB262_274.out; have hnb59 := NB274_271.out; have hnc59 := NB271_274.out; have hcz60_0 : w56.cell? ⟨gb274, 0, none⟩ = some (.int .i64 0) := (blk_cell BK274.out 0).trans rfl; have hcz60_1 : w56.cell? ⟨gb274, 1, none⟩ = some (.int .i64 0) := (blk_cell BK274.out 1).trans rfl; have hfz60_0 := blk_frozen BK274.out 0; have hfz60_1 := blk_frozen BK274.out 1))
                           (try simp only [Act.put, List.setIfInBounds_toArray, List.set_cons_zero, List.set_cons_succ])
                           go_cut [114] (fun v114 wc => ∃ (kq : Nat) (x114_47 : Bool), v114 = .bool x114_47 ∧ Aside0 (tourlaw5_SteerParts.j8 kq l0 a1 t256 x82_7 l0 (l0.length : Int) x82_7 l0 (l0.length : Int) x91_8 x114_47 ((rd_T29 l0 x82_7).f0.f0) ((rd_T29 l0 x82_7).f0.f1) ((rd_T29 l0 x82_7).f1.f0) ((rd_T29 l0 x82_7).f1.f1) ((rd_T29 l0 x82_7).f2) ((rd_T29 l0 x82_7).f3) x263000_8 x263001_8 t272 t273 = some r) ∧ Aside0 (kq ≤ k8) ∧ Aside0 (Kd.R k29 29 wc w.heap.size (fun k_ => k_ ≠ gb261 ∧ k_ ≠ gb271) v258 t256) ∧ Aside0 (wc.heap[gb261]? = some (.cells #[.int .i64 ((rd_T29 l0 x82_7).f0.f0), .int .i64 ((rd_T29 l0 x82_7).f0.f1), .int .i64 ((rd_T29 l0 x82_7).f1.f0), .int .i64 ((rd_T29 l0 x82_7).f1.f1), .int .i64 ((rd_T29 l0 x82_7).f2), .int .i64 ((rd_T29 l0 x82_7).f3)] 29 (0, 0))) ∧ Aside0 (wc.heap[gb262]? = some (.cells #[.int .i64 x263000_8, .int .i64 x263001_8] 27 (0, 0))) ∧ Aside0 (wc.heap[gb271]? = some (.cells #[.int .i64 ((rd_T29 l0 x91_8).f0.f0), .int .i64 ((rd_T29 l0 x91_8).f0.f1), .int .i64 ((rd_T29 l0 x91_8).f1.f0), .int .i64 ((rd_T29 l0 x91_8).f1.f1), .int .i64 ((rd_T29 l0 x91_8).f2), .int .i64 ((rd_T29 l0 x91_8).f3)] 29 (0, 0))) ∧ Aside0 (wc.heap[gb274]? = some (.cells #[.int .i64 t272, .int .i64 t273] 27 (0, 0))) ∧ Aside0 (Below w.heap.size w wc))
                           case first =>
                            have H := HC48.out
                            clear HC48
                            by_cases c61 : x91_8 = x82_7
                            ·rw [if_pos c61] at H
                             have c61b0 : (x91_8 == x82_7) = true := beq_iff_eq.mpr c61
                             have c61b1 : (x91_8 != x82_7) = false := bne_eq_false_iff_eq.mpr c61
                             clear c61
                             (first | rw [c61b0] | (simp only [i64_w, i32_w]; rw [c61b0]) | skip)
                             have H' := Aside0.mk H
                             clear H
                             go_wp2
                             go_meet
                             case rel => exact ⟨_, (false), (by first | rfl | (simp; done) | (simp [*]; done)), H', ⟨by have := HJ3.out; have := HJ11.out; have := HK3.out; have := HJ23.out; have := HJ26.out; have := HJ30.out; have := HK7.out; have := HK8.out; first | omega | exact Nat.le_refl _⟩, ⟨by (with_reducible repeat (first | apply Kd.R_alloc | apply Kd.R_drewN | apply Kd.R_drew)); exact Kd.R_mono (Kd.R_far (p := ⟨gb274, 1, none⟩) (Kd.R_far (p := ⟨gb274, 0, none⟩) (Kd.R_types HO_10.out BK274.out (by decide)) (fun _ hk => hk.2) (.int .i64 t272)) (fun _ hk => hk.2) (.int .i64 t273)) (fun _ hk => ⟨hk.1.1, hk.1.2⟩)⟩, ⟨by (with_reducible repeat (first | refine blk_drewN ?_ _ | refine blk_drew ?_ | refine blk_alloc ?_ _)); refine blk_far ?_ NB261_274.out _; (with_reducible repeat (first | refine blk_drewN ?_ _ | refine blk_drew ?_ | refine blk_alloc ?_ _)); refine blk_far ?_ NB261_274.out _; (with_reducible repeat (first | refine blk_drewN ?_ _ | refine blk_drew ?_ | refine blk_alloc ?_ _)); exact BK261.out⟩, ⟨by (with_reducible repeat (first | refine blk_drewN ?_ _ | refine blk_drew ?_ | refine blk_alloc ?_ _)); refine blk_far ?_ NB262_274.out _; (with_reducible repeat (first | refine blk_drewN ?_ _ | refine blk_drew ?_ | refine blk_alloc ?_ _)); refine blk_far ?_ NB262_274.out _; (with_reducible repeat (first | refine blk_drewN ?_ _ | refine blk_drew ?_ | refine blk_alloc ?_ _)); exact BK262.out⟩, ⟨by (with_reducible repeat (first | refine blk_drewN ?_ _ | refine blk_drew ?_ | refine blk_alloc ?_ _)); refine blk_far ?_ NB271_274.out _; (with_reducible repeat (first | refine blk_drewN ?_ _ | refine blk_drew ?_ | refine blk_alloc ?_ _)); refine blk_far ?_ NB271_274.out _; (with_reducible repeat (first | refine blk_drewN ?_ _ | refine blk_drew ?_ | refine blk_alloc ?_ _)); exact BK271.out⟩, ⟨by (with_reducible repeat (first | refine blk_drewN ?_ _ | refine blk_drew ?_ | refine blk_alloc ?_ _)); refine blk_put (cs := #[.int .i64 t272, .int .i64 0]) ?_ 1 _ rfl; (with_reducible repeat (first | refine blk_drewN ?_ _ | refine blk_drew ?_ | refine blk_alloc ?_ _)); refine blk_put (cs := #[.int .i64 0, .int .i64 0]) ?_ 0 _ rfl; (with_reducible repeat (first | refine blk_drewN ?_ _ | refine blk_drew ?_ | refine blk_alloc ?_ _)); exact BK274.out⟩, ⟨by repeat (first | (with_reducible first | exact HB.out | apply below_alloc | apply pw_below_drewN | apply below_drew1 | refine below_set ?_ GE261.out | refine below_set ?_ GE262.out | refine below_set ?_ GE271.out | refine below_set ?_ GE274.out) | exact HB.out)⟩⟩
                            ·rw [if_neg c61] at H
                             have c61b0 : (x91_8 == x82_7) = false := beq_eq_false_iff_ne.mpr c61
                             have c61b1 : (x91_8 != x82_7) = true := bne_iff_ne.mpr c61
                             (first | rw [c61b0] | (simp only [i64_w, i32_w]; rw [c61b0]) | skip)
                             replace H := Option.bind_eq_some_iff.mp H
                             obtain ⟨t275, A620, H⟩ := H
                             replace H : (if t275 > 0 then ((vec_Len.f k8 t272 t273).bind fun t276 => (tourlaw5_SteerParts.j8 k8 l0 a1 t256 x82_7 l0 (l0.length : Int) x82_7 l0 (l0.length : Int) x91_8 (decide (t276 < a1)) ((rd_T29 l0 x82_7).f0.f0) ((rd_T29 l0 x82_7).f0.f1) ((rd_T29 l0 x82_7).f1.f0) ((rd_T29 l0 x82_7).f1.f1) ((rd_T29 l0 x82_7).f2) ((rd_T29 l0 x82_7).f3) x263000_8 x263001_8 t272 t273)) else (tourlaw5_SteerParts.j8 k8 l0 a1 t256 x82_7 l0 (l0.length : Int) x82_7 l0 (l0.length : Int) x91_8 false ((rd_T29 l0 x82_7).f0.f0) ((rd_T29 l0 x82_7).f0.f1) ((rd_T29 l0 x82_7).f1.f0) ((rd_T29 l0 x82_7).f1.f1) ((rd_T29 l0 x82_7).f2) ((rd_T29 l0 x82_7).f3) x263000_8 x263001_8 t272 t273)) = some r := H
                             have A62 := Aside0.mk A620
                             clear A620
                             by_cases c63 : t275 > 0
                             ·rw [if_pos c63] at H
                              have c63b0 : decide (0 < t275) = true := decide_eq_true c63
                              clear c63
                              replace H := Option.bind_eq_some_iff.mp H
                              obtain ⟨t276, A640, H⟩ := H
                              replace H : (tourlaw5_SteerParts.j8 k8 l0 a1 t256 x82_7 l0 (l0.length : Int) x82_7 l0 (l0.length : Int) x91_8 (decide (t276 < a1)) ((rd_T29 l0 x82_7).f0.f0) ((rd_T29 l0 x82_7).f0.f1) ((rd_T29 l0 x82_7).f1.f0) ((rd_T29 l0 x82_7).f1.f1) ((rd_T29 l0 x82_7).f2) ((rd_T29 l0 x82_7).f3) x263000_8 x263001_8 t272 t273) = some r := H
                              have A64 := Aside0.mk A640
                              clear A640
                              have H' := Aside0.mk H
                              clear H
                              have hnb65 := NB274_261.out
                              have hnc65 := NB261_274.out
                              have hnb66 := NB274_262.out
                              have hnc66 := NB262_274.out
                              have hnb67 := NB274_271.out
                              have hnc67 := NB271_274.out
                              have hcz68_0 : w56.cell? ⟨gb274, 0, none⟩ = some (.int .i64 0) := (blk_cell BK274.out 0).trans rfl
                              have hcz68_1 : w56.cell? ⟨gb274, 1, none⟩ = some (.int .i64 0) := (blk_cell BK274.out 1).trans rfl
                              have hfz68_0 := blk_frozen BK274.out 0
                              have hfz68_1 := blk_frozen BK274.out 1
                              go_wp2_with (first | (go_at_call 14; (with_reducible refine (vec_Len.calls k8 t272 t273 t275 _ A62.out).mono ?_); rintro e w69 ⟨rfl, hb⟩; have n0_ := Aside0.mk (Kd.R_below (by (with_reducible repeat (first | apply Kd.R_alloc | apply Kd.R_drewN | apply Kd.R_drew)); exact (Kd.R_mono (Kd.R_far (p := ⟨gb274, 1, none⟩) (Kd.R_far (p := ⟨gb274, 0, none⟩) (Kd.R_types HO_10.out BK274.out (by decide)) (fun _ hk => hk.2) (.int .i64 t272)) (fun _ hk => hk.2) (.int .i64 t273)) (fun _ h_ => h_.1))) hb); have n1_ := Aside0.mk (blk_below (g := gb261) (o := .cells #[.int .i64 ((rd_T29 l0 x82_7).f0.f0), .int .i64 ((rd_T29 l0 x82_7).f0.f1), .int .i64 ((rd_T29 l0 x82_7).f1.f0), .int .i64 ((rd_T29 l0 x82_7).f1.f1), .int .i64 ((rd_T29 l0 x82_7).f2), .int .i64 ((rd_T29 l0 x82_7).f3)] 29 (0, 0)) (by (with_reducible repeat (first | refine blk_drewN ?_ _ | refine blk_drew ?_ | refine blk_alloc ?_ _)); refine blk_far ?_ NB261_274.out _; (with_reducible repeat (first | refine blk_drewN ?_ _ | refine blk_drew ?_ | refine blk_alloc ?_ _)); refine blk_far ?_ NB261_274.out _; (with_reducible repeat (first | refine blk_drewN ?_ _ | refine blk_drew ?_ | refine blk_alloc ?_ _)); exact BK261.out) hb); have n2_ := Aside0.mk (blk_below (g := gb262) (o := .cells #[.int .i64 x263000_8, .int .i64 x263001_8] 27 (0, 0)) (by (with_reducible repeat (first | refine blk_drewN ?_ _ | refine blk_drew ?_ | refine blk_alloc ?_ _)); refine blk_far ?_ NB262_274.out _; (with_reducible repeat (first | refine blk_drewN ?_ _ | refine blk_drew ?_ | refine blk_alloc ?_ _)); refine blk_far ?_ NB262_274.out _; (with_reducible repeat (first | refine blk_drewN ?_ _ | refine blk_drew ?_ | refine blk_alloc ?_ _)); exact BK262.out) hb); have n3_ := Aside0.mk (blk_below (g := gb271) (o := .cells #[.int .i64 ((rd_T29 l0 x91_8).f0.f0), .int .i64 ((rd_T29 l0 x91_8).f0.f1), .int .i64 ((rd_T29 l0 x91_8).f1.f0), .int .i64 ((rd_T29 l0 x91_8).f1.f1), .int .i64 ((rd_T29 l0 x91_8).f2), .int .i64 ((rd_T29 l0 x91_8).f3)] 29 (0, 0)) (by (with_reducible repeat (first | refine blk_drewN ?_ _ | refine blk_drew ?_ | refine blk_alloc ?_ _)); refine blk_far ?_ NB271_274.out _; (with_reducible repeat (first | refine blk_drewN ?_ _ | refine blk_drew ?_ | refine blk_alloc ?_ _)); refine blk_far ?_ NB271_274.out _; (with_reducible repeat (first | refine blk_drewN ?_ _ | refine blk_drew ?_ | refine blk_alloc ?_ _)); exact BK271.out) hb); have n4_ := Aside0.mk (blk_below (g := gb274) (o := .cells #[.int .i64 t272, .int .i64 t273] 27 (0, 0)) (by (with_reducible repeat (first | refine blk_drewN ?_ _ | refine blk_drew ?_ | refine blk_alloc ?_ _)); refine blk_put (cs := #[.int .i64 t272, .int .i64 0]) ?_ 1 _ rfl; (with_reducible repeat (first | refine blk_drewN ?_ _ | refine blk_drew ?_ | refine blk_alloc ?_ _)); refine blk_put (cs := #[.int .i64 0, .int .i64 0]) ?_ 0 _ rfl; (with_reducible repeat (first | refine blk_drewN ?_ _ | refine blk_drew ?_ | refine blk_alloc ?_ _)); exact BK274.out) hb); have n5_ := Aside0.mk (below_step (by repeat (first | (with_reducible first | exact HB.out | apply below_alloc | apply pw_below_drewN | apply below_drew1 | refine below_set ?_ GE261.out | refine below_set ?_ GE262.out | refine below_set ?_ GE271.out | refine below_set ?_ GE274.out) | exact HB.out)) hb); clear HO_10; clear BK261; clear BK262; clear BK271; clear BK274; clear HB; have HO_10 := n0_; have BK261 := n1_; have BK262 := n2_; have BK271 := n3_; have BK274 := n4_; have HB := n5_; clear n0_ n1_ n2_ n3_ n4_ n5_; (try clear hb); (try clear hb2); (try clear hk); (try clear hi); have hcz70_0 : w69.cell? ⟨gb274, 0, none⟩ = some (.int .i64 t272) := (blk_cell BK274.out 0).trans rfl; have hcz70_1 : w69.cell? ⟨gb274, 1, none⟩ = some (.int .i64 t273) := (blk_cell BK274.out 1).trans rfl; have hfz70_0 := blk_frozen BK274.out 0; have hfz70_1 := blk_frozen BK274.out 1) | (go_at_call 14; (with_reducible refine (vec_Len.calls k8 t272 t273 t276 _ A64.out).mono ?_); rintro e w71 ⟨rfl, hb⟩; have n0_ := Aside0.mk (Kd.R_below (by (with_reducible repeat (first | apply Kd.R_alloc | apply Kd.R_drewN | apply Kd.R_drew)); exact HO_10.out) hb); have n1_ := Aside0.mk (blk_below (g := gb261) (o := .cells #[.int .i64 ((rd_T29 l0 x82_7).f0.f0), .int .i64 ((rd_T29 l0 x82_7).f0.f1), .int .i64 ((rd_T29 l0 x82_7).f1.f0), .int .i64 ((rd_T29 l0 x82_7).f1.f1), .int .i64 ((rd_T29 l0 x82_7).f2), .int .i64 ((rd_T29 l0 x82_7).f3)] 29 (0, 0)) (by (with_reducible repeat (first | refine blk_drewN ?_ _ | refine blk_drew ?_ | refine blk_alloc ?_ _)); exact BK261.out) hb); have n2_ := Aside0.mk (blk_below (g := gb262) (o := .cells #[.int .i64 x263000_8, .int .i64 x263001_8] 27 (0, 0)) (by (with_reducible repeat (first | refine blk_drewN ?_ _ | refine blk_drew ?_ | refine blk_alloc ?_ _)); exact BK262.out) hb); have n3_ := Aside0.mk (blk_below (g := gb271) (o := .cells #[.int .i64 ((rd_T29 l0 x91_8).f0.f0), .int .i64 ((rd_T29 l0 x91_8).f0.f1), .int .i64 ((rd_T29 l0 x91_8).f1.f0), .int .i64 ((rd_T29 l0 x91_8).f1.f1), .int .i64 ((rd_T29 l0 x91_8).f2), .int .i64 ((rd_T29 l0 x91_8).f3)] 29 (0, 0)) (by (with_reducible repeat (first | refine blk_drewN ?_ _ | refine blk_drew ?_ | refine blk_alloc ?_ _)); exact BK271.out) hb); have n4_ := Aside0.mk (blk_below (g := gb274) (o := .cells #[.int .i64 t272, .int .i64 t273] 27 (0, 0)) (by (with_reducible repeat (first | refine blk_drewN ?_ _ | refine blk_drew ?_ | refine blk_alloc ?_ _)); exact BK274.out) hb); have n5_ := Aside0.mk (below_step (by repeat (first | (with_reducible first | exact HB.out | apply below_alloc | apply pw_below_drewN | apply below_drew1 | refine below_set ?_ GE261.out | refine below_set ?_ GE262.out | refine below_set ?_ GE271.out | refine below_set ?_ GE274.out) | exact HB.out)) hb); clear HO_10; clear BK261; clear BK262; clear BK271; clear BK274; clear HB; have HO_10 := n0_; have BK261 := n1_; have BK262 := n2_; have BK271 := n3_; have BK274 := n4_; have HB := n5_; clear n0_ n1_ n2_ n3_ n4_ n5_; (try clear hb); (try clear hb2); (try clear hk); (try clear hi)))
                              go_meet
                              case rel => exact ⟨_, (decide (t276 < a1)), (by first | rfl | (simp; done) | (simp [*]; done)), H', ⟨by have := HJ3.out; have := HJ11.out; have := HK3.out; have := HJ23.out; have := HJ26.out; have := HJ30.out; have := HK7.out; have := HK8.out; first | omega | exact Nat.le_refl _⟩, ⟨by (with_reducible repeat (first | apply Kd.R_alloc | apply Kd.R_drewN | apply Kd.R_drew)); exact HO_10.out⟩, ⟨by (with_reducible repeat (first | refine blk_drewN ?_ _ | refine blk_drew ?_ | refine blk_alloc ?_ _)); exact BK261.out⟩, ⟨by (with_reducible repeat (first | refine blk_drewN ?_ _ | refine blk_drew ?_ | refine blk_alloc ?_ _)); exact BK262.out⟩, ⟨by (with_reducible repeat (first | refine blk_drewN ?_ _ | refine blk_drew ?_ | refine blk_alloc ?_ _)); exact BK271.out⟩, ⟨by (with_reducible repeat (first | refine blk_drewN ?_ _ | refine blk_drew ?_ | refine blk_alloc ?_ _)); exact BK274.out⟩, ⟨by repeat (first | (with_reducible first | exact HB.out | apply below_alloc | apply pw_below_drewN | apply below_drew1 | refine below_set ?_ GE261.out | refine below_set ?_ GE262.out | refine below_set ?_ GE271.out | refine below_set ?_ GE274.out) | exact HB.out)⟩⟩
                             ·rw [if_neg c63] at H
                              have c63b0 : decide (0 < t275) = false := decide_eq_false c63
                              clear c63
                              have H' := Aside0.mk H
                              clear H
                              have hnb72 := NB274_261.out
                              have hnc72 := NB261_274.out
                              have hnb73 := NB274_262.out
                              have hnc73 := NB262_274.out
                              have hnb74 := NB274_271.out
                              have hnc74 := NB271_274.out
                              have hcz75_0 : w56.cell? ⟨gb274, 0, none⟩ = some (.int .i64 0) := (blk_cell BK274.out 0).trans rfl
                              have hcz75_1 : w56.cell? ⟨gb274, 1, none⟩ = some (.int .i64 0) := (blk_cell BK274.out 1).trans rfl
                              have hfz75_0 := blk_frozen BK274.out 0
                              have hfz75_1 := blk_frozen BK274.out 1
                              go_wp2_with (first | (go_at_call 14; (with_reducible refine (vec_Len.calls k8 t272 t273 t275 _ A62.out).mono ?_); rintro e w76 ⟨rfl, hb⟩; have n0_ := Aside0.mk (Kd.R_below (by (with_reducible repeat (first | apply Kd.R_alloc | apply Kd.R_drewN | apply Kd.R_drew)); exact (Kd.R_mono (Kd.R_far (p := ⟨gb274, 1, none⟩) (Kd.R_far (p := ⟨gb274, 0, none⟩) (Kd.R_types HO_10.out BK274.out (by decide)) (fun _ hk => hk.2) (.int .i64 t272)) (fun _ hk => hk.2) (.int .i64 t273)) (fun _ h_ => h_.1))) hb); have n1_ := Aside0.mk (blk_below (g := gb261) (o := .cells #[.int .i64 ((rd_T29 l0 x82_7).f0.f0), .int .i64 ((rd_T29 l0 x82_7).f0.f1), .int .i64 ((rd_T29 l0 x82_7).f1.f0), .int .i64 ((rd_T29 l0 x82_7).f1.f1), .int .i64 ((rd_T29 l0 x82_7).f2), .int .i64 ((rd_T29 l0 x82_7).f3)] 29 (0, 0)) (by (with_reducible repeat (first | refine blk_drewN ?_ _ | refine blk_drew ?_ | refine blk_alloc ?_ _)); refine blk_far ?_ NB261_274.out _; (with_reducible repeat (first | refine blk_drewN ?_ _ | refine blk_drew ?_ | refine blk_alloc ?_ _)); refine blk_far ?_ NB261_274.out _; (with_reducible repeat (first | refine blk_drewN ?_ _ | refine blk_drew ?_ | refine blk_alloc ?_ _)); exact BK261.out) hb); have n2_ := Aside0.mk (blk_below (g := gb262) (o := .cells #[.int .i64 x263000_8, .int .i64 x263001_8] 27 (0, 0)) (by (with_reducible repeat (first | refine blk_drewN ?_ _ | refine blk_drew ?_ | refine blk_alloc ?_ _)); refine blk_far ?_ NB262_274.out _; (with_reducible repeat (first | refine blk_drewN ?_ _ | refine blk_drew ?_ | refine blk_alloc ?_ _)); refine blk_far ?_ NB262_274.out _; (with_reducible repeat (first | refine blk_drewN ?_ _ | refine blk_drew ?_ | refine blk_alloc ?_ _)); exact BK262.out) hb); have n3_ := Aside0.mk (blk_below (g := gb271) (o := .cells #[.int .i64 ((rd_T29 l0 x91_8).f0.f0), .int .i64 ((rd_T29 l0 x91_8).f0.f1), .int .i64 ((rd_T29 l0 x91_8).f1.f0), .int .i64 ((rd_T29 l0 x91_8).f1.f1), .int .i64 ((rd_T29 l0 x91_8).f2), .int .i64 ((rd_T29 l0 x91_8).f3)] 29 (0, 0)) (by (with_reducible repeat (first | refine blk_drewN ?_ _ | refine blk_drew ?_ | refine blk_alloc ?_ _)); refine blk_far ?_ NB271_274.out _; (with_reducible repeat (first | refine blk_drewN ?_ _ | refine blk_drew ?_ | refine blk_alloc ?_ _)); refine blk_far ?_ NB271_274.out _; (with_reducible repeat (first | refine blk_drewN ?_ _ | refine blk_drew ?_ | refine blk_alloc ?_ _)); exact BK271.out) hb); have n4_ := Aside0.mk (blk_below (g := gb274) (o := .cells #[.int .i64 t272, .int .i64 t273] 27 (0, 0)) (by (with_reducible repeat (first | refine blk_drewN ?_ _ | refine blk_drew ?_ | refine blk_alloc ?_ _)); refine blk_put (cs := #[.int .i64 t272, .int .i64 0]) ?_ 1 _ rfl; (with_reducible repeat (first | refine blk_drewN ?_ _ | refine blk_drew ?_ | refine blk_alloc ?_ _)); refine blk_put (cs := #[.int .i64 0, .int .i64 0]) ?_ 0 _ rfl; (with_reducible repeat (first | refine blk_drewN ?_ _ | refine blk_drew ?_ | refine blk_alloc ?_ _)); exact BK274.out) hb); have n5_ := Aside0.mk (below_step (by repeat (first | (with_reducible first | exact HB.out | apply below_alloc | apply pw_below_drewN | apply below_drew1 | refine below_set ?_ GE261.out | refine below_set ?_ GE262.out | refine below_set ?_ GE271.out | refine below_set ?_ GE274.out) | exact HB.out)) hb); clear HO_10; clear BK261; clear BK262; clear BK271; clear BK274; clear HB; have HO_10 := n0_; have BK261 := n1_; have BK262 := n2_; have BK271 := n3_; have BK274 := n4_; have HB := n5_; clear n0_ n1_ n2_ n3_ n4_ n5_; (try clear hb); (try clear hb2); (try clear hk); (try clear hi)))
                              go_meet
                              case rel => exact ⟨_, (false), (by first | rfl | (simp; done) | (simp [*]; done)), H', ⟨by have := HJ3.out; have := HJ11.out; have := HK3.out; have := HJ23.out; have := HJ26.out; have := HJ30.out; have := HK7.out; have := HK8.out; first | omega | exact Nat.le_refl _⟩, ⟨by (with_reducible repeat (first | apply Kd.R_alloc | apply Kd.R_drewN | apply Kd.R_drew)); exact HO_10.out⟩, ⟨by (with_reducible repeat (first | refine blk_drewN ?_ _ | refine blk_drew ?_ | refine blk_alloc ?_ _)); exact BK261.out⟩, ⟨by (with_reducible repeat (first | refine blk_drewN ?_ _ | refine blk_drew ?_ | refine blk_alloc ?_ _)); exact BK262.out⟩, ⟨by (with_reducible repeat (first | refine blk_drewN ?_ _ | refine blk_drew ?_ | refine blk_alloc ?_ _)); exact BK271.out⟩, ⟨by (with_reducible repeat (first | refine blk_drewN ?_ _ | refine blk_drew ?_ | refine blk_alloc ?_ _)); exact BK274.out⟩, ⟨by repeat (first | (with_reducible first | exact HB.out | apply below_alloc | apply pw_below_drewN | apply below_drew1 | refine below_set ?_ GE261.out | refine below_set ?_ GE262.out | refine below_set ?_ GE271.out | refine below_set ?_ GE274.out) | exact HB.out)⟩⟩
                           case rest =>
                            clear HC48
                            try clear c1
                            try clear c2
                            try clear p2
                            try clear q2
                            try clear hx2
                            try clear c3
                            try clear c4
                            try clear c5
                            try clear c6
                            try clear p6
                            try clear c7
                            try clear c9
                            try clear c9b0
                            try clear c9b1
                            try clear c11
                            try clear c12
                            try clear c13
                            try clear c13b0
                            try clear c13b1
                            try clear c14
                            try clear c14b0
                            try clear c15
                            try clear c15b0
                            try clear c16
                            try clear c16b0
                            try clear c17
                            try clear c17b0
                            try clear c17b1
                            try clear c25
                            try clear c25b0
                            try clear c25b1
                            try clear p25
                            try clear q25
                            try clear hx25
                            try clear c26
                            try clear c26b0
                            try clear p26
                            try clear q26
                            try clear hx26
                            try clear p27
                            try clear q27
                            try clear hx27
                            try clear c28
                            try clear c30
                            try clear c30b0
                            try clear c30b1
                            try clear c33
                            try clear c33b0
                            try clear c33b1
                            try clear c35
                            try clear c36
                            try clear c36b0
                            try clear c37
                            try clear c37b0
                            try clear c38
                            try clear c38b0
                            try clear c42
                            try clear c44
                            try clear c44b0
                            try clear c45
                            try clear c45b0
                            try clear c46
                            try clear c46b0
                            try clear c50
                            try clear c51
                            try clear c53
                            try clear c57
                            try clear c58
                            try clear c59
                            try clear c61
                            try clear c61b0
                            try clear c61b1
                            try clear c63
                            try clear c63b0
                            try clear c65
                            try clear c66
                            try clear c67
                            try clear c72
                            try clear c73
                            try clear c74
                            try clear hcz20_0
                            try clear hcz20_1
                            try clear hcz20_2
                            try clear hcz20_3
                            try clear hcz20_4
                            try clear hcz20_5
                            try clear hcz23_0
                            try clear hcz23_1
                            try clear hcz23_2
                            try clear hcz23_3
                            try clear hcz23_4
                            try clear hcz23_5
                            try clear hcz40_0
                            try clear hcz40_1
                            try clear hcz40_2
                            try clear hcz40_3
                            try clear hcz40_4
                            try clear hcz40_5
                            try clear hcz43_0
                            try clear hcz43_1
                            try clear hcz52_0
                            try clear hcz52_1
                            try clear hcz52_2
                            try clear hcz52_3
                            try clear hcz52_4
                            try clear hcz52_5
                            try clear hcz54_0
                            try clear hcz54_1
                            try clear hcz54_2
                            try clear hcz54_3
                            try clear hcz54_4
                            try clear hcz54_5
                            try clear hcz60_0
                            try clear hcz60_1
                            try clear hcz68_0
                            try clear hcz68_1
                            try clear hcz70_0
                            try clear hcz70_1
                            try clear hcz75_0
                            try clear hcz75_1
                            try clear hfz20_0
                            try clear hfz20_1
                            try clear hfz20_2
                            try clear hfz20_3
                            try clear hfz20_4
                            try clear hfz20_5
                            try clear hfz23_0
                            try clear hfz23_1
                            try clear hfz23_2
                            try clear hfz23_3
                            try clear hfz23_4
                            try clear hfz23_5
                            try clear hfz40_0
                            try clear hfz40_1
                            try clear hfz40_2
                            try clear hfz40_3
                            try clear hfz40_4
                            try clear hfz40_5
                            try clear hfz43_0
                            try clear hfz43_1
                            try clear hfz52_0
                            try clear hfz52_1
                            try clear hfz52_2
                            try clear hfz52_3
                            try clear hfz52_4
                            try clear hfz52_5
                            try clear hfz54_0
                            try clear hfz54_1
                            try clear hfz54_2
                            try clear hfz54_3
                            try clear hfz54_4
                            try clear hfz54_5
                            try clear hfz60_0
                            try clear hfz60_1
                            try clear hfz68_0
                            try clear hfz68_1
                            try clear hfz70_0
                            try clear hfz70_1
                            try clear hfz75_0
                            try clear hfz75_1
                            try clear hx253_0
                            try clear hx253_1
                            try clear hx253_2
                            try clear hx253_3
                            try clear hx253_4
                            try clear hx253_5
                            try clear hx260_0
                            try clear hx260_1
                            try clear hx260_2
                            try clear hx260_3
                            try clear hx260_4
                            try clear hx260_5
                            try clear hx270_0
                            try clear hx270_1
                            try clear hx270_2
                            try clear hx270_3
                            try clear hx270_4
                            try clear hx270_5
                            try clear p2
                            try clear p25
                            try clear p253
                            try clear p26
                            try clear p260
                            try clear p270
                            try clear p6
                            try clear q2
                            try clear q25
                            try clear q253
                            try clear q26
                            try clear q260
                            try clear q270
                            obtain ⟨kq, x114_47, rfl, HA, HJ47, HO_10, BK261, BK262, BK271, BK274, HB⟩ := hcut
                            cases kq with
                            | zero => exact absurd HA.out (by simp [tourlaw5_SteerParts.j8])
                            | succ kj47 =>
                             have H := HA.out
                             clear HA
                             simp only [tourlaw5_SteerParts.j8] at H
                             by_cases c77 : x114_47 = true
                             ·subst c77
                              have H1 : ((vec_Unit.f kj47 t272 t273).bind fun bt277 => ((vec_Len.f kj47 t272 t273).bind fun t279 => ((fix_MulDiv.f kj47 ((rd_T29 l0 x82_7).f2) (wrap64 (a1 - t279)) a1).bind fun t280 => ((vec_Scale.f kj47 bt277.1 bt277.2 t280).bind fun bt281 => ((vec_Add.f x263000_8 x263001_8 bt281.1 bt281.2).bind fun bt283 => (tourlaw5_SteerParts.l2 kj47 l0 a1 t256 x82_7 l0 (l0.length : Int) x82_7 l0 (l0.length : Int) (wrap64 (x91_8 + 1)) ((rd_T29 l0 x82_7).f0.f0) ((rd_T29 l0 x82_7).f0.f1) ((rd_T29 l0 x82_7).f1.f0) ((rd_T29 l0 x82_7).f1.f1) ((rd_T29 l0 x82_7).f2) ((rd_T29 l0 x82_7).f3) bt283.1 bt283.2)))))) = some r := by rw [if_pos rfl] at H; exact H
                              clear H
                              have H := H1
                              clear H1
                              replace H := Option.bind_eq_some_iff.mp H
                              obtain ⟨⟨t277, t278⟩, A780, H⟩ := H
                              replace H : ((vec_Len.f kj47 t272 t273).bind fun t279 => ((fix_MulDiv.f kj47 ((rd_T29 l0 x82_7).f2) (wrap64 (a1 - t279)) a1).bind fun t280 => ((vec_Scale.f kj47 t277 t278 t280).bind fun bt281 => ((vec_Add.f x263000_8 x263001_8 bt281.1 bt281.2).bind fun bt283 => (tourlaw5_SteerParts.l2 kj47 l0 a1 t256 x82_7 l0 (l0.length : Int) x82_7 l0 (l0.length : Int) (wrap64 (x91_8 + 1)) ((rd_T29 l0 x82_7).f0.f0) ((rd_T29 l0 x82_7).f0.f1) ((rd_T29 l0 x82_7).f1.f0) ((rd_T29 l0 x82_7).f1.f1) ((rd_T29 l0 x82_7).f2) ((rd_T29 l0 x82_7).f3) bt283.1 bt283.2))))) = some r := H
                              have A78 := Aside0.mk A780
                              clear A780
                              replace H := Option.bind_eq_some_iff.mp H
                              obtain ⟨t279, A790, H⟩ := H
                              replace H : ((fix_MulDiv.f kj47 ((rd_T29 l0 x82_7).f2) (wrap64 (a1 - t279)) a1).bind fun t280 => ((vec_Scale.f kj47 t277 t278 t280).bind fun bt281 => ((vec_Add.f x263000_8 x263001_8 bt281.1 bt281.2).bind fun bt283 => (tourlaw5_SteerParts.l2 kj47 l0 a1 t256 x82_7 l0 (l0.length : Int) x82_7 l0 (l0.length : Int) (wrap64 (x91_8 + 1)) ((rd_T29 l0 x82_7).f0.f0) ((rd_T29 l0 x82_7).f0.f1) ((rd_T29 l0 x82_7).f1.f0) ((rd_T29 l0 x82_7).f1.f1) ((rd_T29 l0 x82_7).f2) ((rd_T29 l0 x82_7).f3) bt283.1 bt283.2)))) = some r := H
                              have A79 := Aside0.mk A790
                              clear A790
                              replace H := Option.bind_eq_some_iff.mp H
                              obtain ⟨t280, A800, H⟩ := H
                              replace H : ((vec_Scale.f kj47 t277 t278 t280).bind fun bt281 => ((vec_Add.f x263000_8 x263001_8 bt281.1 bt281.2).bind fun bt283 => (tourlaw5_SteerParts.l2 kj47 l0 a1 t256 x82_7 l0 (l0.length : Int) x82_7 l0 (l0.length : Int) (wrap64 (x91_8 + 1)) ((rd_T29 l0 x82_7).f0.f0) ((rd_T29 l0 x82_7).f0.f1) ((rd_T29 l0 x82_7).f1.f0) ((rd_T29 l0 x82_7).f1.f1) ((rd_T29 l0 x82_7).f2) ((rd_T29 l0 x82_7).f3) bt283.1 bt283.2))) = some r := H
                              have A80 := Aside0.mk A800
                              clear A800
                              replace H := Option.bind_eq_some_iff.mp H
                              obtain ⟨⟨t281, t282⟩, A810, H⟩ := H
                              replace H : ((vec_Add.f x263000_8 x263001_8 t281 t282).bind fun bt283 => (tourlaw5_SteerParts.l2 kj47 l0 a1 t256 x82_7 l0 (l0.length : Int) x82_7 l0 (l0.length : Int) (wrap64 (x91_8 + 1)) ((rd_T29 l0 x82_7).f0.f0) ((rd_T29 l0 x82_7).f0.f1) ((rd_T29 l0 x82_7).f1.f0) ((rd_T29 l0 x82_7).f1.f1) ((rd_T29 l0 x82_7).f2) ((rd_T29 l0 x82_7).f3) bt283.1 bt283.2)) = some r := H
                              have A81 := Aside0.mk A810
                              clear A810
                              replace H := Option.bind_eq_some_iff.mp H
                              obtain ⟨⟨t283, t284⟩, A820, H⟩ := H
                              replace H : (tourlaw5_SteerParts.l2 kj47 l0 a1 t256 x82_7 l0 (l0.length : Int) x82_7 l0 (l0.length : Int) (wrap64 (x91_8 + 1)) ((rd_T29 l0 x82_7).f0.f0) ((rd_T29 l0 x82_7).f0.f1) ((rd_T29 l0 x82_7).f1.f0) ((rd_T29 l0 x82_7).f1.f1) ((rd_T29 l0 x82_7).f2) ((rd_T29 l0 x82_7).f3) t283 t284) = some r := H
                              have A82 := Aside0.mk A820
                              clear A820
                              have H' := Aside0.mk H
                              clear H
                              try go_wp2
                              have n0_ := Aside0.mk (Kd.R_drew HO_10.out)
                              have n1_ := Aside0.mk (blk_drew BK261.out)
                              have n2_ := Aside0.mk (blk_drew BK262.out)
                              have n3_ := Aside0.mk (blk_drew BK271.out)
                              have n4_ := Aside0.mk (blk_drew BK274.out)
                              have n5_ := Aside0.mk (below_drew1 HB.out)
                              clear HO_10
                              clear BK261
                              clear BK262
                              clear BK271
                              clear BK274
                              clear HB
                              have HO_10 := n0_
                              have BK261 := n1_
                              have BK262 := n2_
                              have BK271 := n3_
                              have BK274 := n4_
                              have HB := n5_
                              clear n0_ n1_ n2_ n3_ n4_ n5_
                              refine start_ (n := 14) (S := fun w' => w'.cell? ⟨gb262, 0, none⟩ = some (.int .i64 x263000_8) ∧ w'.cell? ⟨gb262, 1, none⟩ = some (.int .i64 x263001_8) ∧ w'.cell? ⟨gb274, 0, none⟩ = some (.int .i64 t272) ∧ w'.cell? ⟨gb274, 1, none⟩ = some (.int .i64 t273) ∧ w'.cell? ⟨gb261, 0, none⟩ = some (.int .i64 ((rd_T29 l0 x82_7).f0.f0)) ∧ w'.cell? ⟨gb261, 1, none⟩ = some (.int .i64 ((rd_T29 l0 x82_7).f0.f1)) ∧ w'.cell? ⟨gb261, 2, none⟩ = some (.int .i64 ((rd_T29 l0 x82_7).f1.f0)) ∧ w'.cell? ⟨gb261, 3, none⟩ = some (.int .i64 ((rd_T29 l0 x82_7).f1.f1)) ∧ w'.cell? ⟨gb261, 4, none⟩ = some (.int .i64 ((rd_T29 l0 x82_7).f2)) ∧ w'.cell? ⟨gb261, 5, none⟩ = some (.int .i64 ((rd_T29 l0 x82_7).f3))) (ds := [13]) #[false, false, false, false, false, false, false, false, false, false, false, false, false, false] (by kernel_rfl) rfl rfl ⟨(blk_cell BK262.out 0).trans rfl, (blk_cell BK262.out 1).trans rfl, (blk_cell BK274.out 0).trans rfl, (blk_cell BK274.out 1).trans rfl, (blk_cell BK261.out 0).trans rfl, (blk_cell BK261.out 1).trans rfl, (blk_cell BK261.out 2).trans rfl, (blk_cell BK261.out 3).trans rfl, (blk_cell BK261.out 4).trans rfl, (blk_cell BK261.out 5).trans rfl⟩ (fun hHeld => ?_); refine with_tabW tourlaw5_SteerParts.tab29 tourlaw5_SteerParts.bits29 (fun HT_ HW_ => ?_)
                              generalize wc.drew = w83 at HO_10 BK261 BK262 BK271 BK274 HB hHeld ⊢
                              refine pure_ (i := 3) (N := some 118) (v := ?_) (a' := ?_) #[false, false, false, true, false, false, false, false, false, false, false, false, false, false] rfl rfl (any_of HT_.out (by kernel_rfl)) (fun _ _ _ h => h) (Or.inl ⟨by rfl, ?_⟩) ?_ ?_
                              rotate_left
                              ·intro w'
                               go_simp
                               with_reducible rfl
                              rotate_left
                              ·simp only [Act.put, List.setIfInBounds_toArray, List.set_cons_zero, List.set_cons_succ, i64_w, i32_w]
                               rfl
                              refine pure_ (i := 5) (N := some 120) (v := ?_) (a' := ?_) #[false, false, false, true, false, true, false, false, false, false, false, false, false, false] rfl rfl (any_of HT_.out (by kernel_rfl)) (fun _ _ _ h => h) (Or.inl ⟨by rfl, ?_⟩) ?_ ?_
                              rotate_left
                              ·intro w'
                               go_simp
                               with_reducible rfl
                              rotate_left
                              ·simp only [Act.put, List.setIfInBounds_toArray, List.set_cons_zero, List.set_cons_succ, i64_w, i32_w]
                               rfl
                              refine pure_ (i := 9) (N := some 124) (v := ?_) (a' := ?_) #[false, false, false, true, false, true, false, false, false, true, false, false, false, false] rfl rfl (any_of HT_.out (by kernel_rfl)) (fun _ _ _ h => h) (Or.inl ⟨by rfl, ?_⟩) ?_ ?_
                              rotate_left
                              ·intro w'
                               go_simp
                               with_reducible rfl
                              rotate_left
                              ·simp only [Act.put, List.setIfInBounds_toArray, List.set_cons_zero, List.set_cons_succ, i64_w, i32_w]
                               rfl
                              refine take_ (i := 0) (N := some 115) (v := ?_) (a' := ?_) #[true, false, false, true, false, true, false, false, false, true, false, false, false, false] rfl rfl (take_ofW HT_.out HW_.out (by kernel_rfl)) (fun _ _ _ h => h) (Or.inl ⟨by rfl, ?_⟩) hHeld ?_ ?_
                              rotate_left
                              ·rintro w' ⟨s0, s1, s2, s3, s4, s5, s6, s7, s8, s9⟩
                               go_simp
                               with_reducible rfl
                              rotate_left
                              ·simp only [Act.put, List.setIfInBounds_toArray, List.set_cons_zero, List.set_cons_succ, i64_w, i32_w]
                               rfl
                              refine take_ (i := 1) (N := some 116) (v := ?_) (a' := ?_) #[true, true, false, true, false, true, false, false, false, true, false, false, false, false] rfl rfl (take_ofW HT_.out HW_.out (by kernel_rfl)) (fun _ _ _ h => h) (Or.inl ⟨by rfl, ?_⟩) hHeld ?_ ?_
                              rotate_left
                              ·rintro w' ⟨s0, s1, s2, s3, s4, s5, s6, s7, s8, s9⟩
                               go_simp
                               with_reducible rfl
                              rotate_left
                              ·simp only [Act.put, List.setIfInBounds_toArray, List.set_cons_zero, List.set_cons_succ, i64_w, i32_w]
                               rfl
                              refine take_ (i := 4) (N := some 119) (v := ?_) (a' := ?_) #[true, true, false, true, true, true, false, false, false, true, false, false, false, false] rfl rfl (take_ofW HT_.out HW_.out (by kernel_rfl)) (fun _ _ _ h => h) (Or.inl ⟨by rfl, ?_⟩) hHeld ?_ ?_
                              rotate_left
                              ·rintro w' ⟨s0, s1, s2, s3, s4, s5, s6, s7, s8, s9⟩
                               go_simp
                               with_reducible rfl
                              rotate_left
                              ·simp only [Act.put, List.setIfInBounds_toArray, List.set_cons_zero, List.set_cons_succ, i64_w, i32_w]
                               rfl
                              refine take_ (i := 6) (N := some 121) (v := ?_) (a' := ?_) #[true, true, false, true, true, true, true, false, false, true, false, false, false, false] rfl rfl (take_ofW HT_.out HW_.out (by kernel_rfl)) (fun _ _ _ h => h) (Or.inl ⟨by rfl, ?_⟩) hHeld ?_ ?_
                              rotate_left
                              ·rintro w' ⟨s0, s1, s2, s3, s4, s5, s6, s7, s8, s9⟩
                               go_simp
                               with_reducible rfl
                              rotate_left
                              ·simp only [Act.put, List.setIfInBounds_toArray, List.set_cons_zero, List.set_cons_succ, i64_w, i32_w]
                               rfl
                              refine one_ (i := 2) (N := some 117) #[true, true, true, true, true, true, true, false, false, true, false, false, false, false] rfl rfl (one_of HT_.out (by kernel_rfl)) (by decide) (fun K hK => ?_)
                              refine goes_ Try.func17 (by kernel_rfl) rfl #[.agg #[.int .i64 t272, .int .i64 t273]] (by rfl) rfl rfl (by (try simp only [List.map_toArray, List.map_cons, List.map_nil]); first | done | rfl | (simp only [List.length_drop, List.length_take]; rfl)) ?_
                              with_reducible refine (vec_Unit.calls kj47 t272 t273 t277 t278 _ A78.out).mono ?_
                              rintro e w84 ⟨rfl, hb⟩
                              refine ⟨_, rfl, ?_⟩
                              have n0_ := Aside0.mk (Kd.R_below (by (with_reducible repeat (first | apply Kd.R_alloc | apply Kd.R_drewN | apply Kd.R_drew)); exact HO_10.out) hb)
                              have n1_ := Aside0.mk (blk_below (g := gb261) (o := .cells #[.int .i64 ((rd_T29 l0 x82_7).f0.f0), .int .i64 ((rd_T29 l0 x82_7).f0.f1), .int .i64 ((rd_T29 l0 x82_7).f1.f0), .int .i64 ((rd_T29 l0 x82_7).f1.f1), .int .i64 ((rd_T29 l0 x82_7).f2), .int .i64 ((rd_T29 l0 x82_7).f3)] 29 (0, 0)) (by (with_reducible repeat (first | refine blk_drewN ?_ _ | refine blk_drew ?_ | refine blk_alloc ?_ _)); exact BK261.out) hb)
                              have n2_ := Aside0.mk (blk_below (g := gb262) (o := .cells #[.int .i64 x263000_8, .int .i64 x263001_8] 27 (0, 0)) (by (with_reducible repeat (first | refine blk_drewN ?_ _ | refine blk_drew ?_ | refine blk_alloc ?_ _)); exact BK262.out) hb)
                              have n3_ := Aside0.mk (blk_below (g := gb271) (o := .cells #[.int .i64 ((rd_T29 l0 x91_8).f0.f0), .int .i64 ((rd_T29 l0 x91_8).f0.f1), .int .i64 ((rd_T29 l0 x91_8).f1.f0), .int .i64 ((rd_T29 l0 x91_8).f1.f1), .int .i64 ((rd_T29 l0 x91_8).f2), .int .i64 ((rd_T29 l0 x91_8).f3)] 29 (0, 0)) (by (with_reducible repeat (first | refine blk_drewN ?_ _ | refine blk_drew ?_ | refine blk_alloc ?_ _)); exact BK271.out) hb)
                              have n4_ := Aside0.mk (blk_below (g := gb274) (o := .cells #[.int .i64 t272, .int .i64 t273] 27 (0, 0)) (by (with_reducible repeat (first | refine blk_drewN ?_ _ | refine blk_drew ?_ | refine blk_alloc ?_ _)); exact BK274.out) hb)
                              have n5_ := Aside0.mk (below_step (by repeat (first | (with_reducible first | exact HB.out | apply below_alloc | apply pw_below_drewN | apply below_drew1 | refine below_set ?_ GE261.out | refine below_set ?_ GE262.out | refine below_set ?_ GE271.out | refine below_set ?_ GE274.out) | exact HB.out)) hb)
                              clear HO_10
                              clear BK261
                              clear BK262
                              clear BK271
                              clear BK274
                              clear HB
                              have HO_10 := n0_
                              have BK261 := n1_
                              have BK262 := n2_
                              have BK271 := n3_
                              have BK274 := n4_
                              have HB := n5_
                              clear n0_ n1_ n2_ n3_ n4_ n5_
                              (try clear hb)
                              (try clear hb2)
                              (try clear hk)
                              (try clear hi)
                              refine hK.out _ _ ⟨(blk_cell BK262.out 0).trans rfl, (blk_cell BK262.out 1).trans rfl, (blk_cell BK274.out 0).trans rfl, (blk_cell BK274.out 1).trans rfl, (blk_cell BK261.out 0).trans rfl, (blk_cell BK261.out 1).trans rfl, (blk_cell BK261.out 2).trans rfl, (blk_cell BK261.out 3).trans rfl, (blk_cell BK261.out 4).trans rfl, (blk_cell BK261.out 5).trans rfl⟩ (fun hHeld => ?_)
                              clear hK K
                              refine norm_ (a' := ?_) ?_ ?_
                              rotate_left
                              ·show Act.put _ (some 117) _ = _
                               simp only [Act.put, List.setIfInBounds_toArray, List.set_cons_zero, List.set_cons_succ, i64_w, i32_w]
                               rfl
                              refine one_ (i := 7) (N := some 122) #[true, true, true, true, true, true, true, true, false, true, false, false, false, false] rfl rfl (one_of HT_.out (by kernel_rfl)) (by decide) (fun K hK => ?_)
                              refine goes_ Try.func14 (by kernel_rfl) rfl #[.agg #[.int .i64 t272, .int .i64 t273]] (by rfl) rfl rfl (by (try simp only [List.map_toArray, List.map_cons, List.map_nil]); first | done | rfl | (simp only [List.length_drop, List.length_take]; rfl)) ?_
                              with_reducible refine (vec_Len.calls kj47 t272 t273 t279 _ A79.out).mono ?_
                              rintro e w85 ⟨rfl, hb⟩
                              refine ⟨_, rfl, ?_⟩
                              have n0_ := Aside0.mk (Kd.R_below (by (with_reducible repeat (first | apply Kd.R_alloc | apply Kd.R_drewN | apply Kd.R_drew)); exact HO_10.out) hb)
                              have n1_ := Aside0.mk (blk_below (g := gb261) (o := .cells #[.int .i64 ((rd_T29 l0 x82_7).f0.f0), .int .i64 ((rd_T29 l0 x82_7).f0.f1), .int .i64 ((rd_T29 l0 x82_7).f1.f0), .int .i64 ((rd_T29 l0 x82_7).f1.f1), .int .i64 ((rd_T29 l0 x82_7).f2), .int .i64 ((rd_T29 l0 x82_7).f3)] 29 (0, 0)) (by (with_reducible repeat (first | refine blk_drewN ?_ _ | refine blk_drew ?_ | refine blk_alloc ?_ _)); exact BK261.out) hb)
                              have n2_ := Aside0.mk (blk_below (g := gb262) (o := .cells #[.int .i64 x263000_8, .int .i64 x263001_8] 27 (0, 0)) (by (with_reducible repeat (first | refine blk_drewN ?_ _ | refine blk_drew ?_ | refine blk_alloc ?_ _)); exact BK262.out) hb)
                              have n3_ := Aside0.mk (blk_below (g := gb271) (o := .cells #[.int .i64 ((rd_T29 l0 x91_8).f0.f0), .int .i64 ((rd_T29 l0 x91_8).f0.f1), .int .i64 ((rd_T29 l0 x91_8).f1.f0), .int .i64 ((rd_T29 l0 x91_8).f1.f1), .int .i64 ((rd_T29 l0 x91_8).f2), .int .i64 ((rd_T29 l0 x91_8).f3)] 29 (0, 0)) (by (with_reducible repeat (first | refine blk_drewN ?_ _ | refine blk_drew ?_ | refine blk_alloc ?_ _)); exact BK271.out) hb)
                              have n4_ := Aside0.mk (blk_below (g := gb274) (o := .cells #[.int .i64 t272, .int .i64 t273] 27 (0, 0)) (by (with_reducible repeat (first | refine blk_drewN ?_ _ | refine blk_drew ?_ | refine blk_alloc ?_ _)); exact BK274.out) hb)
                              have n5_ := Aside0.mk (below_step (by repeat (first | (with_reducible first | exact HB.out | apply below_alloc | apply pw_below_drewN | apply below_drew1 | refine below_set ?_ GE261.out | refine below_set ?_ GE262.out | refine below_set ?_ GE271.out | refine below_set ?_ GE274.out) | exact HB.out)) hb)
                              clear HO_10
                              clear BK261
                              clear BK262
                              clear BK271
                              clear BK274
                              clear HB
                              have HO_10 := n0_
                              have BK261 := n1_
                              have BK262 := n2_
                              have BK271 := n3_
                              have BK274 := n4_
                              have HB := n5_
                              clear n0_ n1_ n2_ n3_ n4_ n5_
                              (try clear hb)
                              (try clear hb2)
                              (try clear hk)
                              (try clear hi)
                              refine hK.out _ _ ⟨(blk_cell BK262.out 0).trans rfl, (blk_cell BK262.out 1).trans rfl, (blk_cell BK274.out 0).trans rfl, (blk_cell BK274.out 1).trans rfl, (blk_cell BK261.out 0).trans rfl, (blk_cell BK261.out 1).trans rfl, (blk_cell BK261.out 2).trans rfl, (blk_cell BK261.out 3).trans rfl, (blk_cell BK261.out 4).trans rfl, (blk_cell BK261.out 5).trans rfl⟩ (fun hHeld => ?_)
                              clear hK K
                              refine norm_ (a' := ?_) ?_ ?_
                              rotate_left
                              ·show Act.put _ (some 122) _ = _
                               simp only [Act.put, List.setIfInBounds_toArray, List.set_cons_zero, List.set_cons_succ, i64_w, i32_w]
                               rfl
                              refine pure_ (i := 8) (N := some 123) (v := ?_) (a' := ?_) #[true, true, true, true, true, true, true, true, true, true, false, false, false, false] rfl rfl (any_of HT_.out (by kernel_rfl)) (fun _ _ _ h => h) (Or.inl ⟨by rfl, ?_⟩) ?_ ?_
                              rotate_left
                              ·intro w'
                               go_simp
                               with_reducible rfl
                              rotate_left
                              ·simp only [Act.put, List.setIfInBounds_toArray, List.set_cons_zero, List.set_cons_succ, i64_w, i32_w]
                               rfl
                              refine one_ (i := 10) (N := some 125) #[true, true, true, true, true, true, true, true, true, true, true, false, false, false] rfl rfl (one_of HT_.out (by kernel_rfl)) (by decide) (fun K hK => ?_)
                              refine goes_ Try.func18 (by kernel_rfl) rfl #[.int .i64 ((rd_T29 l0 x82_7).f2), .int .i64 (wrap64 (a1 - t279)), .int .i64 a1] (by rfl) rfl rfl (by (try simp only [List.map_toArray, List.map_cons, List.map_nil]); first | done | rfl | (simp only [List.length_drop, List.length_take]; rfl)) ?_
                              with_reducible refine (fix_MulDiv.calls kj47 ((rd_T29 l0 x82_7).f2) (wrap64 (a1 - t279)) a1 t280 _ A80.out).mono ?_
                              rintro e w86 ⟨rfl, hb⟩
                              refine ⟨_, rfl, ?_⟩
                              have n0_ := Aside0.mk (Kd.R_below (by (with_reducible repeat (first | apply Kd.R_alloc | apply Kd.R_drewN | apply Kd.R_drew)); exact HO_10.out) hb)
                              have n1_ := Aside0.mk (blk_below (g := gb261) (o := .cells #[.int .i64 ((rd_T29 l0 x82_7).f0.f0), .int .i64 ((rd_T29 l0 x82_7).f0.f1), .int .i64 ((rd_T29 l0 x82_7).f1.f0), .int .i64 ((rd_T29 l0 x82_7).f1.f1), .int .i64 ((rd_T29 l0 x82_7).f2), .int .i64 ((rd_T29 l0 x82_7).f3)] 29 (0, 0)) (by (with_reducible repeat (first | refine blk_drewN ?_ _ | refine blk_drew ?_ | refine blk_alloc ?_ _)); exact BK261.out) hb)
                              have n2_ := Aside0.mk (blk_below (g := gb262) (o := .cells #[.int .i64 x263000_8, .int .i64 x263001_8] 27 (0, 0)) (by (with_reducible repeat (first | refine blk_drewN ?_ _ | refine blk_drew ?_ | refine blk_alloc ?_ _)); exact BK262.out) hb)
                              have n3_ := Aside0.mk (blk_below (g := gb271) (o := .cells #[.int .i64 ((rd_T29 l0 x91_8).f0.f0), .int .i64 ((rd_T29 l0 x91_8).f0.f1), .int .i64 ((rd_T29 l0 x91_8).f1.f0), .int .i64 ((rd_T29 l0 x91_8).f1.f1), .int .i64 ((rd_T29 l0 x91_8).f2), .int .i64 ((rd_T29 l0 x91_8).f3)] 29 (0, 0)) (by (with_reducible repeat (first | refine blk_drewN ?_ _ | refine blk_drew ?_ | refine blk_alloc ?_ _)); exact BK271.out) hb)
                              have n4_ := Aside0.mk (blk_below (g := gb274) (o := .cells #[.int .i64 t272, .int .i64 t273] 27 (0, 0)) (by (with_reducible repeat (first | refine blk_drewN ?_ _ | refine blk_drew ?_ | refine blk_alloc ?_ _)); exact BK274.out) hb)
                              have n5_ := Aside0.mk (below_step (by repeat (first | (with_reducible first | exact HB.out | apply below_alloc | apply pw_below_drewN | apply below_drew1 | refine below_set ?_ GE261.out | refine below_set ?_ GE262.out | refine below_set ?_ GE271.out | refine below_set ?_ GE274.out) | exact HB.out)) hb)
                              clear HO_10
                              clear BK261
                              clear BK262
                              clear BK271
                              clear BK274
                              clear HB
                              have HO_10 := n0_
                              have BK261 := n1_
                              have BK262 := n2_
                              have BK271 := n3_
                              have BK274 := n4_
                              have HB := n5_
                              clear n0_ n1_ n2_ n3_ n4_ n5_
                              (try clear hb)
                              (try clear hb2)
                              (try clear hk)
                              (try clear hi)
                              refine hK.out _ _ ⟨(blk_cell BK262.out 0).trans rfl, (blk_cell BK262.out 1).trans rfl, (blk_cell BK274.out 0).trans rfl, (blk_cell BK274.out 1).trans rfl, (blk_cell BK261.out 0).trans rfl, (blk_cell BK261.out 1).trans rfl, (blk_cell BK261.out 2).trans rfl, (blk_cell BK261.out 3).trans rfl, (blk_cell BK261.out 4).trans rfl, (blk_cell BK261.out 5).trans rfl⟩ (fun hHeld => ?_)
                              clear hK K
                              refine norm_ (a' := ?_) ?_ ?_
                              rotate_left
                              ·show Act.put _ (some 125) _ = _
                               simp only [Act.put, List.setIfInBounds_toArray, List.set_cons_zero, List.set_cons_succ, i64_w, i32_w]
                               rfl
                              refine one_ (i := 11) (N := some 126) #[true, true, true, true, true, true, true, true, true, true, true, true, false, false] rfl rfl (one_of HT_.out (by kernel_rfl)) (by decide) (fun K hK => ?_)
                              refine goes_ Try.func16 (by kernel_rfl) rfl #[.agg #[.int .i64 t277, .int .i64 t278], .int .i64 t280] (by rfl) rfl rfl (by (try simp only [List.map_toArray, List.map_cons, List.map_nil]); first | done | rfl | (simp only [List.length_drop, List.length_take]; rfl)) ?_
                              with_reducible refine (vec_Scale.calls kj47 t277 t278 t280 t281 t282 _ A81.out).mono ?_
                              rintro e w87 ⟨rfl, hb⟩
                              refine ⟨_, rfl, ?_⟩
                              have n0_ := Aside0.mk (Kd.R_below (by (with_reducible repeat (first | apply Kd.R_alloc | apply Kd.R_drewN | apply Kd.R_drew)); exact HO_10.out) hb)
                              have n1_ := Aside0.mk (blk_below (g := gb261) (o := .cells #[.int .i64 ((rd_T29 l0 x82_7).f0.f0), .int .i64 ((rd_T29 l0 x82_7).f0.f1), .int .i64 ((rd_T29 l0 x82_7).f1.f0), .int .i64 ((rd_T29 l0 x82_7).f1.f1), .int .i64 ((rd_T29 l0 x82_7).f2), .int .i64 ((rd_T29 l0 x82_7).f3)] 29 (0, 0)) (by (with_reducible repeat (first | refine blk_drewN ?_ _ | refine blk_drew ?_ | refine blk_alloc ?_ _)); exact BK261.out) hb)
                              have n2_ := Aside0.mk (blk_below (g := gb262) (o := .cells #[.int .i64 x263000_8, .int .i64 x263001_8] 27 (0, 0)) (by (with_reducible repeat (first | refine blk_drewN ?_ _ | refine blk_drew ?_ | refine blk_alloc ?_ _)); exact BK262.out) hb)
                              have n3_ := Aside0.mk (blk_below (g := gb271) (o := .cells #[.int .i64 ((rd_T29 l0 x91_8).f0.f0), .int .i64 ((rd_T29 l0 x91_8).f0.f1), .int .i64 ((rd_T29 l0 x91_8).f1.f0), .int .i64 ((rd_T29 l0 x91_8).f1.f1), .int .i64 ((rd_T29 l0 x91_8).f2), .int .i64 ((rd_T29 l0 x91_8).f3)] 29 (0, 0)) (by (with_reducible repeat (first | refine blk_drewN ?_ _ | refine blk_drew ?_ | refine blk_alloc ?_ _)); exact BK271.out) hb)
                              have n4_ := Aside0.mk (blk_below (g := gb274) (o := .cells #[.int .i64 t272, .int .i64 t273] 27 (0, 0)) (by (with_reducible repeat (first | refine blk_drewN ?_ _ | refine blk_drew ?_ | refine blk_alloc ?_ _)); exact BK274.out) hb)
                              have n5_ := Aside0.mk (below_step (by repeat (first | (with_reducible first | exact HB.out | apply below_alloc | apply pw_below_drewN | apply below_drew1 | refine below_set ?_ GE261.out | refine below_set ?_ GE262.out | refine below_set ?_ GE271.out | refine below_set ?_ GE274.out) | exact HB.out)) hb)
                              clear HO_10
                              clear BK261
                              clear BK262
                              clear BK271
                              clear BK274
                              clear HB
                              have HO_10 := n0_
                              have BK261 := n1_
                              have BK262 := n2_
                              have BK271 := n3_
                              have BK274 := n4_
                              have HB := n5_
                              clear n0_ n1_ n2_ n3_ n4_ n5_
                              (try clear hb)
                              (try clear hb2)
                              (try clear hk)
                              (try clear hi)
                              refine hK.out _ _ ⟨(blk_cell BK262.out 0).trans rfl, (blk_cell BK262.out 1).trans rfl, (blk_cell BK274.out 0).trans rfl, (blk_cell BK274.out 1).trans rfl, (blk_cell BK261.out 0).trans rfl, (blk_cell BK261.out 1).trans rfl, (blk_cell BK261.out 2).trans rfl, (blk_cell BK261.out 3).trans rfl, (blk_cell BK261.out 4).trans rfl, (blk_cell BK261.out 5).trans rfl⟩ (fun hHeld => ?_)
                              clear hK K
                              refine norm_ (a' := ?_) ?_ ?_
                              rotate_left
                              ·show Act.put _ (some 126) _ = _
                               simp only [Act.put, List.setIfInBounds_toArray, List.set_cons_zero, List.set_cons_succ, i64_w, i32_w]
                               rfl
                              refine one_ (i := 12) (N := some 127) #[true, true, true, true, true, true, true, true, true, true, true, true, true, false] rfl rfl (one_of HT_.out (by kernel_rfl)) (by decide) (fun K hK => ?_)
                              refine goes_ Try.func15 (by kernel_rfl) rfl #[.agg #[.int .i64 x263000_8, .int .i64 x263001_8], .agg #[.int .i64 t281, .int .i64 t282]] (by rfl) rfl rfl (by (try simp only [List.map_toArray, List.map_cons, List.map_nil]); first | done | rfl | (simp only [List.length_drop, List.length_take]; rfl)) ?_
                              with_reducible refine (vec_Add.calls x263000_8 x263001_8 t281 t282 t283 t284 _ A82.out).mono ?_
                              rintro e w88 ⟨rfl, hb⟩
                              refine ⟨_, rfl, ?_⟩
                              have n0_ := Aside0.mk (Kd.R_below (by (with_reducible repeat (first | apply Kd.R_alloc | apply Kd.R_drewN | apply Kd.R_drew)); exact HO_10.out) hb)
                              have n1_ := Aside0.mk (blk_below (g := gb261) (o := .cells #[.int .i64 ((rd_T29 l0 x82_7).f0.f0), .int .i64 ((rd_T29 l0 x82_7).f0.f1), .int .i64 ((rd_T29 l0 x82_7).f1.f0), .int .i64 ((rd_T29 l0 x82_7).f1.f1), .int .i64 ((rd_T29 l0 x82_7).f2), .int .i64 ((rd_T29 l0 x82_7).f3)] 29 (0, 0)) (by (with_reducible repeat (first | refine blk_drewN ?_ _ | refine blk_drew ?_ | refine blk_alloc ?_ _)); exact BK261.out) hb)
                              have n2_ := Aside0.mk (blk_below (g := gb262) (o := .cells #[.int .i64 x263000_8, .int .i64 x263001_8] 27 (0, 0)) (by (with_reducible repeat (first | refine blk_drewN ?_ _ | refine blk_drew ?_ | refine blk_alloc ?_ _)); exact BK262.out) hb)
                              have n3_ := Aside0.mk (blk_below (g := gb271) (o := .cells #[.int .i64 ((rd_T29 l0 x91_8).f0.f0), .int .i64 ((rd_T29 l0 x91_8).f0.f1), .int .i64 ((rd_T29 l0 x91_8).f1.f0), .int .i64 ((rd_T29 l0 x91_8).f1.f1), .int .i64 ((rd_T29 l0 x91_8).f2), .int .i64 ((rd_T29 l0 x91_8).f3)] 29 (0, 0)) (by (with_reducible repeat (first | refine blk_drewN ?_ _ | refine blk_drew ?_ | refine blk_alloc ?_ _)); exact BK271.out) hb)
                              have n4_ := Aside0.mk (blk_below (g := gb274) (o := .cells #[.int .i64 t272, .int .i64 t273] 27 (0, 0)) (by (with_reducible repeat (first | refine blk_drewN ?_ _ | refine blk_drew ?_ | refine blk_alloc ?_ _)); exact BK274.out) hb)
                              have n5_ := Aside0.mk (below_step (by repeat (first | (with_reducible first | exact HB.out | apply below_alloc | apply pw_below_drewN | apply below_drew1 | refine below_set ?_ GE261.out | refine below_set ?_ GE262.out | refine below_set ?_ GE271.out | refine below_set ?_ GE274.out) | exact HB.out)) hb)
                              clear HO_10
                              clear BK261
                              clear BK262
                              clear BK271
                              clear BK274
                              clear HB
                              have HO_10 := n0_
                              have BK261 := n1_
                              have BK262 := n2_
                              have BK271 := n3_
                              have BK274 := n4_
                              have HB := n5_
                              clear n0_ n1_ n2_ n3_ n4_ n5_
                              (try clear hb)
                              (try clear hb2)
                              (try clear hk)
                              (try clear hi)
                              refine hK.out _ _ ⟨(blk_cell BK262.out 0).trans rfl, (blk_cell BK262.out 1).trans rfl, (blk_cell BK274.out 0).trans rfl, (blk_cell BK274.out 1).trans rfl, (blk_cell BK261.out 0).trans rfl, (blk_cell BK261.out 1).trans rfl, (blk_cell BK261.out 2).trans rfl, (blk_cell BK261.out 3).trans rfl, (blk_cell BK261.out 4).trans rfl, (blk_cell BK261.out 5).trans rfl⟩ (fun hHeld => ?_)
                              clear hK K
                              refine norm_ (a' := ?_) ?_ ?_
                              rotate_left
                              ·show Act.put _ (some 127) _ = _
                               simp only [Act.put, List.setIfInBounds_toArray, List.set_cons_zero, List.set_cons_succ, i64_w, i32_w]
                               rfl
                              refine last_ (i := 13) (N := none) #[true, true, true, true, true, true, true, true, true, true, true, true, true, true] rfl rfl (one_of HT_.out (by kernel_rfl)) (by decide) (fun K hK => ?_)
                              have hs89 : w88.cell? ⟨gb262, 0, none⟩ = some (.int .i64 x263000_8) := (blk_cell BK262.out 0).trans rfl
                              have hfs89 := blk_frozen BK262.out 0
                              have hns89_0 := NB261_262.out
                              have hns89_2 := NB271_262.out
                              have hns89_3 := NB274_262.out
                              have hms89_0 := NB262_261.out
                              have hms89_2 := NB262_271.out
                              have hms89_3 := NB262_274.out
                              have hs90 : w88.cell? ⟨gb262, 1, none⟩ = some (.int .i64 x263001_8) := (blk_cell BK262.out 1).trans rfl
                              have hfs90 := blk_frozen BK262.out 1
                              have hns90_0 := NB261_262.out
                              have hns90_2 := NB271_262.out
                              have hns90_3 := NB274_262.out
                              have hms90_0 := NB262_261.out
                              have hms90_2 := NB262_271.out
                              have hms90_3 := NB262_274.out
                              refine skip_ (w1 := ?_) (by rfl) rfl ?_ ?_
                              rotate_left
                              ·go_simp
                               rfl
                              refine hK.out _ _ ?_
                              clear hK K
                              refine done_ (done_of HT_.out (by kernel_rfl)) ?_
                              try go_wp2
                              go_roundg kj47
                              case measure => have := HJ3.out; have := HJ11.out; have := HK3.out; have := HJ23.out; have := HJ26.out; have := HJ30.out; have := HK7.out; have := HK8.out; have := HJ47.out; omega
                              case rel => exact ⟨(wrap64 (x91_8 + 1)), (t283), (t284), (by first | rfl | (simp; done) | (simp [*]; done)), H', ⟨by have := HJ3.out; have := HJ11.out; have := HK3.out; have := HJ23.out; have := HJ26.out; have := HJ30.out; have := HK7.out; have := HK8.out; have := HJ47.out; omega⟩, ⟨by (with_reducible repeat (first | apply Kd.R_alloc | apply Kd.R_drewN | apply Kd.R_drew)); exact Kd.R_mono (Kd.R_far (p := ⟨gb262, 1, none⟩) (Kd.R_far (p := ⟨gb262, 0, none⟩) (Kd.R_types HO_10.out BK262.out (by decide)) (fun _ hk => hk.2) (.int .i64 t283)) (fun _ hk => hk.2) (.int .i64 t284)) (fun _ hk => hk.1.1)⟩, ⟨by (with_reducible repeat (first | refine blk_drewN ?_ _ | refine blk_drew ?_ | refine blk_alloc ?_ _)); refine blk_far ?_ NB261_262.out _; (with_reducible repeat (first | refine blk_drewN ?_ _ | refine blk_drew ?_ | refine blk_alloc ?_ _)); refine blk_far ?_ NB261_262.out _; (with_reducible repeat (first | refine blk_drewN ?_ _ | refine blk_drew ?_ | refine blk_alloc ?_ _)); exact BK261.out⟩, ⟨by (with_reducible repeat (first | refine blk_drewN ?_ _ | refine blk_drew ?_ | refine blk_alloc ?_ _)); refine blk_put (cs := #[.int .i64 t283, .int .i64 x263001_8]) ?_ 1 _ rfl; (with_reducible repeat (first | refine blk_drewN ?_ _ | refine blk_drew ?_ | refine blk_alloc ?_ _)); refine blk_put (cs := #[.int .i64 x263000_8, .int .i64 x263001_8]) ?_ 0 _ rfl; (with_reducible repeat (first | refine blk_drewN ?_ _ | refine blk_drew ?_ | refine blk_alloc ?_ _)); exact BK262.out⟩, ⟨by repeat (first | (with_reducible first | exact HB.out | apply below_alloc | apply pw_below_drewN | apply below_drew1 | refine below_set ?_ GE261.out | refine below_set ?_ GE262.out | refine below_set ?_ GE271.out | refine below_set ?_ GE274.out) | exact HB.out)⟩⟩
                             ·replace c77 := Bool.eq_false_iff.mpr c77
                              subst c77
                              have H1 : (tourlaw5_SteerParts.l2 kj47 l0 a1 t256 x82_7 l0 (l0.length : Int) x82_7 l0 (l0.length : Int) (wrap64 (x91_8 + 1)) ((rd_T29 l0 x82_7).f0.f0) ((rd_T29 l0 x82_7).f0.f1) ((rd_T29 l0 x82_7).f1.f0) ((rd_T29 l0 x82_7).f1.f1) ((rd_T29 l0 x82_7).f2) ((rd_T29 l0 x82_7).f3) x263000_8 x263001_8) = some r := by rw [if_neg (show ¬ (false = true) by decide)] at H; exact H
                              clear H
                              have H := H1
                              clear H1
                              have H' := Aside0.mk H
                              clear H
                              go_wp2
                              go_roundg kj47
                              case measure => have := HJ3.out; have := HJ11.out; have := HK3.out; have := HJ23.out; have := HJ26.out; have := HJ30.out; have := HK7.out; have := HK8.out; have := HJ47.out; omega
                              case rel => exact ⟨(wrap64 (x91_8 + 1)), (x263000_8), (x263001_8), (by first | rfl | (simp; done) | (simp [*]; done)), H', ⟨by have := HJ3.out; have := HJ11.out; have := HK3.out; have := HJ23.out; have := HJ26.out; have := HJ30.out; have := HK7.out; have := HK8.out; have := HJ47.out; omega⟩, ⟨by (with_reducible repeat (first | apply Kd.R_alloc | apply Kd.R_drewN | apply Kd.R_drew)); exact Kd.R_mono HO_10.out (fun _ hk => hk.1)⟩, ⟨by (with_reducible repeat (first | refine blk_drewN ?_ _ | refine blk_drew ?_ | refine blk_alloc ?_ _)); exact BK261.out⟩, ⟨by (with_reducible repeat (first | refine blk_drewN ?_ _ | refine blk_drew ?_ | refine blk_alloc ?_ _)); exact BK262.out⟩, ⟨by repeat (first | (with_reducible first | exact HB.out | apply below_alloc | apply pw_below_drewN | apply below_drew1 | refine below_set ?_ GE261.out | refine below_set ?_ GE262.out | refine below_set ?_ GE271.out | refine below_set ?_ GE274.out) | exact HB.out)⟩⟩
                          ·rw [if_neg c46] at H
                           exact absurd H (by simp)
                         ·rw [if_neg c45] at H
                          exact absurd H (by simp)
                        ·rw [if_neg c44] at H
                         have c44b0 : decide (x91_8 < (l0.length : Int)) = false := decide_eq_false c44
                         clear c44
                         by_cases c91 : 0 ≤ x82_7
                         ·rw [if_pos c91] at H
                          have c91b0 : decide (0 ≤ x82_7) = true := decide_eq_true c91
                          clear c91
                          by_cases c92 : x82_7 < (t256.length : Int)
                          ·rw [if_pos c92] at H
                           have c92b0 : decide (x82_7 < (t256.length : Int)) = true := decide_eq_true c92
                           clear c92
                           replace H := Option.bind_eq_some_iff.mp H
                           obtain ⟨⟨t264, t265, t266, t267, t268, t269⟩, A930, H⟩ := H
                           replace H : (if ((!(((rd_T29 t256 x82_7).f0.f0) == t264) || (!(((rd_T29 t256 x82_7).f0.f1) == t265))) || ((!(((rd_T29 t256 x82_7).f1.f0) == t266) || (!(((rd_T29 t256 x82_7).f1.f1) == t267))) || (!(((rd_T29 t256 x82_7).f2) == t268) || (!(((rd_T29 t256 x82_7).f3) == t269))))) = true then (some false) else (tourlaw5_SteerParts.l1 k8 l0 a1 t256 l0 (l0.length : Int) (wrap64 (x82_7 + 1)))) = some r := H
                           have A93 := Aside0.mk A930
                           clear A930
                           by_cases c94 : ((!(((rd_T29 t256 x82_7).f0.f0) == t264) || (!(((rd_T29 t256 x82_7).f0.f1) == t265))) || ((!(((rd_T29 t256 x82_7).f1.f0) == t266) || (!(((rd_T29 t256 x82_7).f1.f1) == t267))) || (!(((rd_T29 t256 x82_7).f2) == t268) || (!(((rd_T29 t256 x82_7).f3) == t269))))) = true
                           ·rw [if_pos c94] at H
                            have c94b0 : ((!(((rd_T29 t256 x82_7).f0.f0) == t264) || (!(((rd_T29 t256 x82_7).f0.f1) == t265))) || ((!(((rd_T29 t256 x82_7).f1.f0) == t266) || (!(((rd_T29 t256 x82_7).f1.f1) == t267))) || (!(((rd_T29 t256 x82_7).f2) == t268) || (!(((rd_T29 t256 x82_7).f3) == t269))))) = true := c94
                            clear c94
                            obtain rfl := Option.some.inj H
                            try go_wp2
                            have n0_ := Aside0.mk (Kd.R_drew HO_10.out)
                            have n1_ := Aside0.mk (blk_drew BK261.out)
                            have n2_ := Aside0.mk (blk_drew BK262.out)
                            have n3_ := Aside0.mk (below_drew1 HB.out)
                            clear HO_10
                            clear BK261
                            clear BK262
                            clear HB
                            have HO_10 := n0_
                            have BK261 := n1_
                            have BK262 := n2_
                            have HB := n3_
                            clear n0_ n1_ n2_ n3_
                            obtain ⟨Ao96, co96, eo96⟩ := Kd.R_slice HO_10.out
                            (first | subst eo96 | (injection eo96 with f1_ f2_ f3_; have f4_ := f1_.symm; have f5_ := f3_.symm; clear f1_ f2_ f3_; subst f4_; subst f5_))
                            have p263 : 0 ≤ (x82_7 : Int) := of_decide_eq_true (by first | (with_reducible assumption) | assumption)
                            have q263 : x82_7 < (t256.length : Int) := of_decide_eq_true (by first | (with_reducible assumption) | assumption)
                            obtain ⟨ad263, e263, hx263_0, hx263_1, hx263_2, hx263_3, hx263_4, hx263_5⟩ := at_T29 (Kd.R_reads' HO_10.out).2.2 x82_7 p263 q263
                            cases e263
                            replace p263 := eq_true p263
                            replace q263 := eq_true q263
                            refine start_ (n := 8) (S := fun w' => w'.cell? ⟨gb261, 0, none⟩ = some (.int .i64 ((rd_T29 l0 x82_7).f0.f0)) ∧ w'.cell? ⟨gb261, 1, none⟩ = some (.int .i64 ((rd_T29 l0 x82_7).f0.f1)) ∧ w'.cell? ⟨gb261, 2, none⟩ = some (.int .i64 ((rd_T29 l0 x82_7).f1.f0)) ∧ w'.cell? ⟨gb261, 3, none⟩ = some (.int .i64 ((rd_T29 l0 x82_7).f1.f1)) ∧ w'.cell? ⟨gb261, 4, none⟩ = some (.int .i64 ((rd_T29 l0 x82_7).f2)) ∧ w'.cell? ⟨gb261, 5, none⟩ = some (.int .i64 ((rd_T29 l0 x82_7).f3)) ∧ w'.cell? ⟨gb262, 0, none⟩ = some (.int .i64 x263000_8) ∧ w'.cell? ⟨gb262, 1, none⟩ = some (.int .i64 x263001_8) ∧ w'.cell? (ad263.add ((x82_7).toNat * 6)) = some (.int .i64 ((rd_T29 t256 x82_7).f0.f0)) ∧ w'.cell? ⟨(ad263.add ((x82_7).toNat * 6)).block, (ad263.add ((x82_7).toNat * 6)).off + 1, none⟩ = some (.int .i64 ((rd_T29 t256 x82_7).f0.f1)) ∧ w'.cell? ⟨(ad263.add ((x82_7).toNat * 6)).block, (ad263.add ((x82_7).toNat * 6)).off + 2, none⟩ = some (.int .i64 ((rd_T29 t256 x82_7).f1.f0)) ∧ w'.cell? ⟨(ad263.add ((x82_7).toNat * 6)).block, (ad263.add ((x82_7).toNat * 6)).off + 3, none⟩ = some (.int .i64 ((rd_T29 t256 x82_7).f1.f1)) ∧ w'.cell? ⟨(ad263.add ((x82_7).toNat * 6)).block, (ad263.add ((x82_7).toNat * 6)).off + 4, none⟩ = some (.int .i64 ((rd_T29 t256 x82_7).f2)) ∧ w'.cell? ⟨(ad263.add ((x82_7).toNat * 6)).block, (ad263.add ((x82_7).toNat * 6)).off + 5, none⟩ = some (.int .i64 ((rd_T29 t256 x82_7).f3))) (ds := []) #[false, false, false, false, false, false, false, false] (by kernel_rfl) rfl rfl ⟨(blk_cell BK261.out 0).trans rfl, (blk_cell BK261.out 1).trans rfl, (blk_cell BK261.out 2).trans rfl, (blk_cell BK261.out 3).trans rfl, (blk_cell BK261.out 4).trans rfl, (blk_cell BK261.out 5).trans rfl, (blk_cell BK262.out 0).trans rfl, (blk_cell BK262.out 1).trans rfl, hx263_0, hx263_1, hx263_2, hx263_3, hx263_4, hx263_5⟩ (fun hHeld => ?_); refine with_tabW tourlaw5_SteerParts.tab31 tourlaw5_SteerParts.bits31 (fun HT_ HW_ => ?_)
                            generalize wr.drew = w95 at HO_10 BK261 BK262 HB hx263_0 hx263_1 hx263_2 hx263_3 hx263_4 hx263_5 hHeld ⊢
                            refine pure_ (i := 0) (N := some 129) (v := ?_) (a' := ?_) #[true, false, false, false, false, false, false, false] rfl rfl (any_of HT_.out (by kernel_rfl)) (fun _ _ _ h => h) (Or.inl ⟨by rfl, ?_⟩) ?_ ?_
                            rotate_left
                            ·intro w'
                             go_simp
                             with_reducible rfl
                            rotate_left
                            ·simp only [Act.put, List.setIfInBounds_toArray, List.set_cons_zero, List.set_cons_succ, i64_w, i32_w]
                             rfl
                            refine pure_ (i := 1) (N := some 130) (v := ?_) (a' := ?_) #[true, true, false, false, false, false, false, false] rfl rfl (any_of HT_.out (by kernel_rfl)) (fun _ _ _ h => h) (Or.inl ⟨by rfl, ?_⟩) ?_ ?_
                            rotate_left
                            ·intro w'
                             go_simp
                             with_reducible rfl
                            rotate_left
                            ·simp only [Act.put, List.setIfInBounds_toArray, List.set_cons_zero, List.set_cons_succ, i64_w, i32_w]
                             rfl
                            refine pure_ (i := 2) (N := some 131) (v := ?_) (a' := ?_) #[true, true, true, false, false, false, false, false] rfl rfl (any_of HT_.out (by kernel_rfl)) (fun _ _ _ h => h) (Or.inl ⟨by rfl, ?_⟩) ?_ ?_
                            rotate_left
                            ·intro w'
                             go_simp
                             with_reducible rfl
                            rotate_left
                            ·simp only [Act.put, List.setIfInBounds_toArray, List.set_cons_zero, List.set_cons_succ, i64_w, i32_w]
                             rfl
                            refine take_ (i := 3) (N := some 132) (v := ?_) (a' := ?_) #[true, true, true, true, false, false, false, false] rfl rfl (take_ofW HT_.out HW_.out (by kernel_rfl)) (fun _ _ _ h => h) (Or.inl ⟨by rfl, ?_⟩) hHeld ?_ ?_
                            rotate_left
                            ·rintro w' ⟨s0, s1, s2, s3, s4, s5, s6, s7, s8, s9, s10, s11, s12, s13⟩
                             go_simp
                             with_reducible rfl
                            rotate_left
                            ·simp only [Act.put, List.setIfInBounds_toArray, List.set_cons_zero, List.set_cons_succ, i64_w, i32_w]
                             rfl
                            refine take_ (i := 4) (N := some 133) (v := ?_) (a' := ?_) #[true, true, true, true, true, false, false, false] rfl rfl (take_ofW HT_.out HW_.out (by kernel_rfl)) (fun _ _ _ h => h) (Or.inl ⟨by rfl, ?_⟩) hHeld ?_ ?_
                            rotate_left
                            ·rintro w' ⟨s0, s1, s2, s3, s4, s5, s6, s7, s8, s9, s10, s11, s12, s13⟩
                             go_simp
                             with_reducible rfl
                            rotate_left
                            ·simp only [Act.put, List.setIfInBounds_toArray, List.set_cons_zero, List.set_cons_succ, i64_w, i32_w]
                             rfl
                            refine take_ (i := 5) (N := some 134) (v := ?_) (a' := ?_) #[true, true, true, true, true, true, false, false] rfl rfl (take_ofW HT_.out HW_.out (by kernel_rfl)) (fun _ _ _ h => h) (Or.inl ⟨by rfl, ?_⟩) hHeld ?_ ?_
                            rotate_left
                            ·rintro w' ⟨s0, s1, s2, s3, s4, s5, s6, s7, s8, s9, s10, s11, s12, s13⟩
                             go_simp
                             with_reducible rfl
                            rotate_left
                            ·simp only [Act.put, List.setIfInBounds_toArray, List.set_cons_zero, List.set_cons_succ, i64_w, i32_w]
                             rfl
                            refine one_ (i := 6) (N := some 135) #[true, true, true, true, true, true, true, false] rfl rfl (one_of HT_.out (by kernel_rfl)) (by decide) (fun K hK => ?_)
                            refine goes_ Try.func19 (by kernel_rfl) rfl #[.agg #[.int .i64 ((rd_T29 l0 x82_7).f0.f0), .int .i64 ((rd_T29 l0 x82_7).f0.f1), .int .i64 ((rd_T29 l0 x82_7).f1.f0), .int .i64 ((rd_T29 l0 x82_7).f1.f1), .int .i64 ((rd_T29 l0 x82_7).f2), .int .i64 ((rd_T29 l0 x82_7).f3)], .agg #[.int .i64 x263000_8, .int .i64 x263001_8]] (by rfl) rfl rfl (by (try simp only [List.map_toArray, List.map_cons, List.map_nil]); first | done | rfl | (simp only [List.length_drop, List.length_take]; rfl)) ?_
                            with_reducible refine (tourref5_Steered.calls k8 ((rd_T29 l0 x82_7).f0.f0) ((rd_T29 l0 x82_7).f0.f1) ((rd_T29 l0 x82_7).f1.f0) ((rd_T29 l0 x82_7).f1.f1) ((rd_T29 l0 x82_7).f2) ((rd_T29 l0 x82_7).f3) x263000_8 x263001_8 t264 t265 t266 t267 t268 t269 _ A93.out).mono ?_
                            rintro e w97 ⟨rfl, hb⟩
                            have HS8_ := (hb.cell (World.block_lt_of_cell? _ _ (hHeld.2.2.2.2.2.2.2.2.1))).trans (hHeld.2.2.2.2.2.2.2.2.1)
                            have HS9_ := (hb.cell (World.block_lt_of_cell? _ _ (hHeld.2.2.2.2.2.2.2.2.2.1))).trans (hHeld.2.2.2.2.2.2.2.2.2.1)
                            have HS10_ := (hb.cell (World.block_lt_of_cell? _ _ (hHeld.2.2.2.2.2.2.2.2.2.2.1))).trans (hHeld.2.2.2.2.2.2.2.2.2.2.1)
                            have HS11_ := (hb.cell (World.block_lt_of_cell? _ _ (hHeld.2.2.2.2.2.2.2.2.2.2.2.1))).trans (hHeld.2.2.2.2.2.2.2.2.2.2.2.1)
                            have HS12_ := (hb.cell (World.block_lt_of_cell? _ _ (hHeld.2.2.2.2.2.2.2.2.2.2.2.2.1))).trans (hHeld.2.2.2.2.2.2.2.2.2.2.2.2.1)
                            have HS13_ := (hb.cell (World.block_lt_of_cell? _ _ (hHeld.2.2.2.2.2.2.2.2.2.2.2.2.2))).trans (hHeld.2.2.2.2.2.2.2.2.2.2.2.2.2)
                            refine ⟨_, rfl, ?_⟩
                            have n0_ := Aside0.mk (Kd.R_below (by (with_reducible repeat (first | apply Kd.R_alloc | apply Kd.R_drewN | apply Kd.R_drew)); exact HO_10.out) hb)
                            have n1_ := Aside0.mk (blk_below (g := gb261) (o := .cells #[.int .i64 ((rd_T29 l0 x82_7).f0.f0), .int .i64 ((rd_T29 l0 x82_7).f0.f1), .int .i64 ((rd_T29 l0 x82_7).f1.f0), .int .i64 ((rd_T29 l0 x82_7).f1.f1), .int .i64 ((rd_T29 l0 x82_7).f2), .int .i64 ((rd_T29 l0 x82_7).f3)] 29 (0, 0)) (by (with_reducible repeat (first | refine blk_drewN ?_ _ | refine blk_drew ?_ | refine blk_alloc ?_ _)); exact BK261.out) hb)
                            have n2_ := Aside0.mk (blk_below (g := gb262) (o := .cells #[.int .i64 x263000_8, .int .i64 x263001_8] 27 (0, 0)) (by (with_reducible repeat (first | refine blk_drewN ?_ _ | refine blk_drew ?_ | refine blk_alloc ?_ _)); exact BK262.out) hb)
                            have n3_ := Aside0.mk (below_step (by repeat (first | (with_reducible first | exact HB.out | apply below_alloc | apply pw_below_drewN | apply below_drew1 | refine below_set ?_ GE261.out | refine below_set ?_ GE262.out) | exact HB.out)) hb)
                            clear HO_10
                            clear BK261
                            clear BK262
                            clear HB
                            have HO_10 := n0_
                            have BK261 := n1_
                            have BK262 := n2_
                            have HB := n3_
                            clear n0_ n1_ n2_ n3_
                            (try clear hb)
                            (try clear hb2)
                            (try clear hk)
                            (try clear hi)
                            refine hK.out _ _ ⟨(blk_cell BK261.out 0).trans rfl, (blk_cell BK261.out 1).trans rfl, (blk_cell BK261.out 2).trans rfl, (blk_cell BK261.out 3).trans rfl, (blk_cell BK261.out 4).trans rfl, (blk_cell BK261.out 5).trans rfl, (blk_cell BK262.out 0).trans rfl, (blk_cell BK262.out 1).trans rfl, HS8_, HS9_, HS10_, HS11_, HS12_, HS13_⟩ (fun hHeld => ?_)
                            clear hK K
                            refine norm_ (a' := ?_) ?_ ?_
                            rotate_left
                            ·show Act.put _ (some 135) _ = _
                             simp only [Act.put, List.setIfInBounds_toArray, List.set_cons_zero, List.set_cons_succ, i64_w, i32_w]
                             rfl
                            refine pure_ (i := 7) (N := some 136) (v := ?_) (a' := ?_) #[true, true, true, true, true, true, true, true] rfl rfl (any_of HT_.out (by kernel_rfl)) (fun _ _ _ h => h) (Or.inl ⟨by rfl, ?_⟩) ?_ ?_
                            rotate_left
                            ·intro w'
                             go_simp
                             with_reducible rfl
                            rotate_left
                            ·simp only [Act.put, List.setIfInBounds_toArray, List.set_cons_zero, List.set_cons_succ, i64_w, i32_w]
                             rfl
                            refine done_ (done_of HT_.out (by kernel_rfl)) ?_
                            try go_wp2
                            go_ret
                            exact ⟨by first | rfl | (simp [errW_none, errW_some] <;> rfl) | (simp [*, errW_none, errW_some] <;> rfl), by repeat (first | (with_reducible first | exact HB.out | apply below_alloc | apply pw_below_drewN | apply below_drew1 | refine below_set ?_ GE261.out | refine below_set ?_ GE262.out) | exact HB.out)⟩
                           ·rw [if_neg c94] at H
                            have c94b0 : ((!(((rd_T29 t256 x82_7).f0.f0) == t264) || (!(((rd_T29 t256 x82_7).f0.f1) == t265))) || ((!(((rd_T29 t256 x82_7).f1.f0) == t266) || (!(((rd_T29 t256 x82_7).f1.f1) == t267))) || (!(((rd_T29 t256 x82_7).f2) == t268) || (!(((rd_T29 t256 x82_7).f3) == t269))))) = false := by simpa using c94
                            clear c94
                            have H' := Aside0.mk H
                            clear H
                            try go_wp2
                            have n0_ := Aside0.mk (Kd.R_drew HO_10.out)
                            have n1_ := Aside0.mk (blk_drew BK261.out)
                            have n2_ := Aside0.mk (blk_drew BK262.out)
                            have n3_ := Aside0.mk (below_drew1 HB.out)
                            clear HO_10
                            clear BK261
                            clear BK262
                            clear HB
                            have HO_10 := n0_
                            have BK261 := n1_
                            have BK262 := n2_
                            have HB := n3_
                            clear n0_ n1_ n2_ n3_
                            obtain ⟨Ao99, co99, eo99⟩ := Kd.R_slice HO_10.out
                            (first | subst eo99 | (injection eo99 with f1_ f2_ f3_; have f4_ := f1_.symm; have f5_ := f3_.symm; clear f1_ f2_ f3_; subst f4_; subst f5_))
                            have p263 : 0 ≤ (x82_7 : Int) := of_decide_eq_true (by first | (with_reducible assumption) | assumption)
                            have q263 : x82_7 < (t256.length : Int) := of_decide_eq_true (by first | (with_reducible assumption) | assumption)
                            obtain ⟨ad263, e263, hx263_0, hx263_1, hx263_2, hx263_3, hx263_4, hx263_5⟩ := at_T29 (Kd.R_reads' HO_10.out).2.2 x82_7 p263 q263
                            cases e263
                            replace p263 := eq_true p263
                            replace q263 := eq_true q263
                            refine start_ (n := 8) (S := fun w' => w'.cell? ⟨gb261, 0, none⟩ = some (.int .i64 ((rd_T29 l0 x82_7).f0.f0)) ∧ w'.cell? ⟨gb261, 1, none⟩ = some (.int .i64 ((rd_T29 l0 x82_7).f0.f1)) ∧ w'.cell? ⟨gb261, 2, none⟩ = some (.int .i64 ((rd_T29 l0 x82_7).f1.f0)) ∧ w'.cell? ⟨gb261, 3, none⟩ = some (.int .i64 ((rd_T29 l0 x82_7).f1.f1)) ∧ w'.cell? ⟨gb261, 4, none⟩ = some (.int .i64 ((rd_T29 l0 x82_7).f2)) ∧ w'.cell? ⟨gb261, 5, none⟩ = some (.int .i64 ((rd_T29 l0 x82_7).f3)) ∧ w'.cell? ⟨gb262, 0, none⟩ = some (.int .i64 x263000_8) ∧ w'.cell? ⟨gb262, 1, none⟩ = some (.int .i64 x263001_8) ∧ w'.cell? (ad263.add ((x82_7).toNat * 6)) = some (.int .i64 ((rd_T29 t256 x82_7).f0.f0)) ∧ w'.cell? ⟨(ad263.add ((x82_7).toNat * 6)).block, (ad263.add ((x82_7).toNat * 6)).off + 1, none⟩ = some (.int .i64 ((rd_T29 t256 x82_7).f0.f1)) ∧ w'.cell? ⟨(ad263.add ((x82_7).toNat * 6)).block, (ad263.add ((x82_7).toNat * 6)).off + 2, none⟩ = some (.int .i64 ((rd_T29 t256 x82_7).f1.f0)) ∧ w'.cell? ⟨(ad263.add ((x82_7).toNat * 6)).block, (ad263.add ((x82_7).toNat * 6)).off + 3, none⟩ = some (.int .i64 ((rd_T29 t256 x82_7).f1.f1)) ∧ w'.cell? ⟨(ad263.add ((x82_7).toNat * 6)).block, (ad263.add ((x82_7).toNat * 6)).off + 4, none⟩ = some (.int .i64 ((rd_T29 t256 x82_7).f2)) ∧ w'.cell? ⟨(ad263.add ((x82_7).toNat * 6)).block, (ad263.add ((x82_7).toNat * 6)).off + 5, none⟩ = some (.int .i64 ((rd_T29 t256 x82_7).f3))) (ds := []) #[false, false, false, false, false, false, false, false] (by kernel_rfl) rfl rfl ⟨(blk_cell BK261.out 0).trans rfl, (blk_cell BK261.out 1).trans rfl, (blk_cell BK261.out 2).trans rfl, (blk_cell BK261.out 3).trans rfl, (blk_cell BK261.out 4).trans rfl, (blk_cell BK261.out 5).trans rfl, (blk_cell BK262.out 0).trans rfl, (blk_cell BK262.out 1).trans rfl, hx263_0, hx263_1, hx263_2, hx263_3, hx263_4, hx263_5⟩ (fun hHeld => ?_); refine with_tabW tourlaw5_SteerParts.tab31 tourlaw5_SteerParts.bits31 (fun HT_ HW_ => ?_)
                            generalize wr.drew = w98 at HO_10 BK261 BK262 HB hx263_0 hx263_1 hx263_2 hx263_3 hx263_4 hx263_5 hHeld ⊢
                            refine pure_ (i := 0) (N := some 129) (v := ?_) (a' := ?_) #[true, false, false, false, false, false, false, false] rfl rfl (any_of HT_.out (by kernel_rfl)) (fun _ _ _ h => h) (Or.inl ⟨by rfl, ?_⟩) ?_ ?_
                            rotate_left
                            ·intro w'
                             go_simp
                             with_reducible rfl
                            rotate_left
                            ·simp only [Act.put, List.setIfInBounds_toArray, List.set_cons_zero, List.set_cons_succ, i64_w, i32_w]
                             rfl
                            refine pure_ (i := 1) (N := some 130) (v := ?_) (a' := ?_) #[true, true, false, false, false, false, false, false] rfl rfl (any_of HT_.out (by kernel_rfl)) (fun _ _ _ h => h) (Or.inl ⟨by rfl, ?_⟩) ?_ ?_
                            rotate_left
                            ·intro w'
                             go_simp
                             with_reducible rfl
                            rotate_left
                            ·simp only [Act.put, List.setIfInBounds_toArray, List.set_cons_zero, List.set_cons_succ, i64_w, i32_w]
                             rfl
                            refine pure_ (i := 2) (N := some 131) (v := ?_) (a' := ?_) #[true, true, true, false, false, false, false, false] rfl rfl (any_of HT_.out (by kernel_rfl)) (fun _ _ _ h => h) (Or.inl ⟨by rfl, ?_⟩) ?_ ?_
                            rotate_left
                            ·intro w'
                             go_simp
                             with_reducible rfl
                            rotate_left
                            ·simp only [Act.put, List.setIfInBounds_toArray, List.set_cons_zero, List.set_cons_succ, i64_w, i32_w]
                             rfl
                            refine take_ (i := 3) (N := some 132) (v := ?_) (a' := ?_) #[true, true, true, true, false, false, false, false] rfl rfl (take_ofW HT_.out HW_.out (by kernel_rfl)) (fun _ _ _ h => h) (Or.inl ⟨by rfl, ?_⟩) hHeld ?_ ?_
                            rotate_left
                            ·rintro w' ⟨s0, s1, s2, s3, s4, s5, s6, s7, s8, s9, s10, s11, s12, s13⟩
                             go_simp
                             with_reducible rfl
                            rotate_left
                            ·simp only [Act.put, List.setIfInBounds_toArray, List.set_cons_zero, List.set_cons_succ, i64_w, i32_w]
                             rfl
                            refine take_ (i := 4) (N := some 133) (v := ?_) (a' := ?_) #[true, true, true, true, true, false, false, false] rfl rfl (take_ofW HT_.out HW_.out (by kernel_rfl)) (fun _ _ _ h => h) (Or.inl ⟨by rfl, ?_⟩) hHeld ?_ ?_
                            rotate_left
                            ·rintro w' ⟨s0, s1, s2, s3, s4, s5, s6, s7, s8, s9, s10, s11, s12, s13⟩
                             go_simp
                             with_reducible rfl
                            rotate_left
                            ·simp only [Act.put, List.setIfInBounds_toArray, List.set_cons_zero, List.set_cons_succ, i64_w, i32_w]
                             rfl
                            refine take_ (i := 5) (N := some 134) (v := ?_) (a' := ?_) #[true, true, true, true, true, true, false, false] rfl rfl (take_ofW HT_.out HW_.out (by kernel_rfl)) (fun _ _ _ h => h) (Or.inl ⟨by rfl, ?_⟩) hHeld ?_ ?_
                            rotate_left
                            ·rintro w' ⟨s0, s1, s2, s3, s4, s5, s6, s7, s8, s9, s10, s11, s12, s13⟩
                             go_simp
                             with_reducible rfl
                            rotate_left
                            ·simp only [Act.put, List.setIfInBounds_toArray, List.set_cons_zero, List.set_cons_succ, i64_w, i32_w]
                             rfl
                            refine one_ (i := 6) (N := some 135) #[true, true, true, true, true, true, true, false] rfl rfl (one_of HT_.out (by kernel_rfl)) (by decide) (fun K hK => ?_)
                            refine goes_ Try.func19 (by kernel_rfl) rfl #[.agg #[.int .i64 ((rd_T29 l0 x82_7).f0.f0), .int .i64 ((rd_T29 l0 x82_7).f0.f1), .int .i64 ((rd_T29 l0 x82_7).f1.f0), .int .i64 ((rd_T29 l0 x82_7).f1.f1), .int .i64 ((rd_T29 l0 x82_7).f2), .int .i64 ((rd_T29 l0 x82_7).f3)], .agg #[.int .i64 x263000_8, .int .i64 x263001_8]] (by rfl) rfl rfl (by (try simp only [List.map_toArray, List.map_cons, List.map_nil]); first | done | rfl | (simp only [List.length_drop, List.length_take]; rfl)) ?_
                            with_reducible refine (tourref5_Steered.calls k8 ((rd_T29 l0 x82_7).f0.f0) ((rd_T29 l0 x82_7).f0.f1) ((rd_T29 l0 x82_7).f1.f0) ((rd_T29 l0 x82_7).f1.f1) ((rd_T29 l0 x82_7).f2) ((rd_T29 l0 x82_7).f3) x263000_8 x263001_8 t264 t265 t266 t267 t268 t269 _ A93.out).mono ?_
                            rintro e w100 ⟨rfl, hb⟩
                            have HS8_ := (hb.cell (World.block_lt_of_cell? _ _ (hHeld.2.2.2.2.2.2.2.2.1))).trans (hHeld.2.2.2.2.2.2.2.2.1)
                            have HS9_ := (hb.cell (World.block_lt_of_cell? _ _ (hHeld.2.2.2.2.2.2.2.2.2.1))).trans (hHeld.2.2.2.2.2.2.2.2.2.1)
                            have HS10_ := (hb.cell (World.block_lt_of_cell? _ _ (hHeld.2.2.2.2.2.2.2.2.2.2.1))).trans (hHeld.2.2.2.2.2.2.2.2.2.2.1)
                            have HS11_ := (hb.cell (World.block_lt_of_cell? _ _ (hHeld.2.2.2.2.2.2.2.2.2.2.2.1))).trans (hHeld.2.2.2.2.2.2.2.2.2.2.2.1)
                            have HS12_ := (hb.cell (World.block_lt_of_cell? _ _ (hHeld.2.2.2.2.2.2.2.2.2.2.2.2.1))).trans (hHeld.2.2.2.2.2.2.2.2.2.2.2.2.1)
                            have HS13_ := (hb.cell (World.block_lt_of_cell? _ _ (hHeld.2.2.2.2.2.2.2.2.2.2.2.2.2))).trans (hHeld.2.2.2.2.2.2.2.2.2.2.2.2.2)
                            refine ⟨_, rfl, ?_⟩
                            have n0_ := Aside0.mk (Kd.R_below (by (with_reducible repeat (first | apply Kd.R_alloc | apply Kd.R_drewN | apply Kd.R_drew)); exact HO_10.out) hb)
                            have n1_ := Aside0.mk (blk_below (g := gb261) (o := .cells #[.int .i64 ((rd_T29 l0 x82_7).f0.f0), .int .i64 ((rd_T29 l0 x82_7).f0.f1), .int .i64 ((rd_T29 l0 x82_7).f1.f0), .int .i64 ((rd_T29 l0 x82_7).f1.f1), .int .i64 ((rd_T29 l0 x82_7).f2), .int .i64 ((rd_T29 l0 x82_7).f3)] 29 (0, 0)) (by (with_reducible repeat (first | refine blk_drewN ?_ _ | refine blk_drew ?_ | refine blk_alloc ?_ _)); exact BK261.out) hb)
                            have n2_ := Aside0.mk (blk_below (g := gb262) (o := .cells #[.int .i64 x263000_8, .int .i64 x263001_8] 27 (0, 0)) (by (with_reducible repeat (first | refine blk_drewN ?_ _ | refine blk_drew ?_ | refine blk_alloc ?_ _)); exact BK262.out) hb)
                            have n3_ := Aside0.mk (below_step (by repeat (first | (with_reducible first | exact HB.out | apply below_alloc | apply pw_below_drewN | apply below_drew1 | refine below_set ?_ GE261.out | refine below_set ?_ GE262.out) | exact HB.out)) hb)
                            clear HO_10
                            clear BK261
                            clear BK262
                            clear HB
                            have HO_10 := n0_
                            have BK261 := n1_
                            have BK262 := n2_
                            have HB := n3_
                            clear n0_ n1_ n2_ n3_
                            (try clear hb)
                            (try clear hb2)
                            (try clear hk)
                            (try clear hi)
                            refine hK.out _ _ ⟨(blk_cell BK261.out 0).trans rfl, (blk_cell BK261.out 1).trans rfl, (blk_cell BK261.out 2).trans rfl, (blk_cell BK261.out 3).trans rfl, (blk_cell BK261.out 4).trans rfl, (blk_cell BK261.out 5).trans rfl, (blk_cell BK262.out 0).trans rfl, (blk_cell BK262.out 1).trans rfl, HS8_, HS9_, HS10_, HS11_, HS12_, HS13_⟩ (fun hHeld => ?_)
                            clear hK K
                            refine norm_ (a' := ?_) ?_ ?_
                            rotate_left
                            ·show Act.put _ (some 135) _ = _
                             simp only [Act.put, List.setIfInBounds_toArray, List.set_cons_zero, List.set_cons_succ, i64_w, i32_w]
                             rfl
                            refine pure_ (i := 7) (N := some 136) (v := ?_) (a' := ?_) #[true, true, true, true, true, true, true, true] rfl rfl (any_of HT_.out (by kernel_rfl)) (fun _ _ _ h => h) (Or.inl ⟨by rfl, ?_⟩) ?_ ?_
                            rotate_left
                            ·intro w'
                             go_simp
                             with_reducible rfl
                            rotate_left
                            ·simp only [Act.put, List.setIfInBounds_toArray, List.set_cons_zero, List.set_cons_succ, i64_w, i32_w]
                             rfl
                            refine done_ (done_of HT_.out (by kernel_rfl)) ?_
                            try go_wp2
                            go_roundg k8
                            case measure => have := HJ3.out; have := HJ11.out; have := HK3.out; have := HJ23.out; have := HJ26.out; have := HJ30.out; have := HK7.out; have := HK8.out; omega
                            case rel => exact ⟨(wrap64 (x82_7 + 1)), (by first | rfl | (simp; done) | (simp [*]; done)), H', ⟨by have := HJ3.out; have := HJ11.out; have := HK3.out; have := HJ23.out; have := HJ26.out; have := HJ30.out; have := HK7.out; have := HK8.out; omega⟩, ⟨by (with_reducible repeat (first | apply Kd.R_alloc | apply Kd.R_drewN | apply Kd.R_drew)); exact Kd.R_mono HO_10.out (fun _ hk => trivial)⟩, ⟨by repeat (first | (with_reducible first | exact HB.out | apply below_alloc | apply pw_below_drewN | apply below_drew1 | refine below_set ?_ GE261.out | refine below_set ?_ GE262.out) | exact HB.out)⟩⟩
                          ·rw [if_neg c92] at H
                           exact absurd H (by simp)
                         ·rw [if_neg c91] at H
                          exact absurd H (by simp)
                     ·rw [if_neg c38] at H
                      exact absurd H (by simp)
                    ·rw [if_neg c37] at H
                     exact absurd H (by simp)
                   ·rw [if_neg c36] at H
                    have c36b0 : decide (x82_7 < (l0.length : Int)) = false := decide_eq_false c36
                    clear c36
                    obtain rfl := Option.some.inj H
                    go_wp2
                    go_ret
                    exact ⟨by first | rfl | (simp [errW_none, errW_some] <;> rfl) | (simp [*, errW_none, errW_some] <;> rfl), by repeat (first | (with_reducible first | exact HB.out | apply below_alloc | apply pw_below_drewN | apply below_drew1) | exact HB.out)⟩
             ·rw [if_neg c30] at H
              have c30b0 : (x7_26 == 0) = false := beq_eq_false_iff_ne.mpr c30
              have c30b1 : (x7_26 != 0) = true := bne_iff_ne.mpr c30
              by_cases c101 : t257 = x7_26
              ·rw [if_pos c101] at H
               have c101b0 : (t257 == x7_26) = true := beq_iff_eq.mpr c101
               have c101b1 : (t257 != x7_26) = false := bne_eq_false_iff_eq.mpr c101
               clear c101
               obtain rfl := Option.some.inj H
               go_wp2_with (first | ((with_reducible refine gate_callee (f := 11) rfl ?_); refine goesL_ (some 58) rfl rfl Try.func11 (by kernel_rfl) rfl #[.slice A0 l0.length c0, .int .i64 a1] rfl (by (try simp only [List.map_toArray, List.map_cons, List.map_nil]); first | done | rfl | (simp only [List.length_drop, List.length_take]; rfl)) ?_; (with_reducible refine (steer_Apart.calls kj26 _ _ l0 a1 t256 t257 _ ?side1 ?side2 A29.out).mono ?_); (case side1 => repeat (first | exact (Kd.C_below HR0.out HB.out) | (with_reducible refine Kd.C_alloc ?_ _) | (with_reducible refine Kd.C_drewN ?_ _) | (with_reducible refine Kd.C_drew ?_))); (case side2 => exact HC0.out); rintro e w102 ⟨v258, rfl, ho0, hb⟩; refine ⟨_, rfl, ?_⟩; have n0_ := Aside0.mk (Kd.R_lower ho0 (below_size (by repeat (first | (with_reducible first | exact HB.out | apply below_alloc | apply pw_below_drewN | apply below_drew1) | exact HB.out)))); have n1_ := Aside0.mk (below_step (by repeat (first | (with_reducible first | exact HB.out | apply below_alloc | apply pw_below_drewN | apply below_drew1) | exact HB.out)) hb); clear HB; have HO259 := n0_; have HB := n1_; clear n0_ n1_; (try clear hb); (try clear hb2); (try clear hk); (try clear hi); (try clear ho0); obtain ⟨Ao103, co103, eo103⟩ := Kd.R_slice HO259.out; subst eo103))
               go_ret
               exact ⟨by first | rfl | (simp [errW_none, errW_some] <;> rfl) | (simp [*, errW_none, errW_some] <;> rfl), by repeat (first | (with_reducible first | exact HB.out | apply below_alloc | apply pw_below_drewN | apply below_drew1) | exact HB.out)⟩
              ·rw [if_neg c101] at H
               have c101b0 : (t257 == x7_26) = false := beq_eq_false_iff_ne.mpr c101
               have c101b1 : (t257 != x7_26) = true := bne_iff_ne.mpr c101
               obtain rfl := Option.some.inj H
               go_wp2_with (first | ((with_reducible refine gate_callee (f := 11) rfl ?_); refine goesL_ (some 58) rfl rfl Try.func11 (by kernel_rfl) rfl #[.slice A0 l0.length c0, .int .i64 a1] rfl (by (try simp only [List.map_toArray, List.map_cons, List.map_nil]); first | done | rfl | (simp only [List.length_drop, List.length_take]; rfl)) ?_; (with_reducible refine (steer_Apart.calls kj26 _ _ l0 a1 t256 t257 _ ?side1 ?side2 A29.out).mono ?_); (case side1 => repeat (first | exact (Kd.C_below HR0.out HB.out) | (with_reducible refine Kd.C_alloc ?_ _) | (with_reducible refine Kd.C_drewN ?_ _) | (with_reducible refine Kd.C_drew ?_))); (case side2 => exact HC0.out); rintro e w104 ⟨v258, rfl, ho0, hb⟩; refine ⟨_, rfl, ?_⟩; have n0_ := Aside0.mk (Kd.R_lower ho0 (below_size (by repeat (first | (with_reducible first | exact HB.out | apply below_alloc | apply pw_below_drewN | apply below_drew1) | exact HB.out)))); have n1_ := Aside0.mk (below_step (by repeat (first | (with_reducible first | exact HB.out | apply below_alloc | apply pw_below_drewN | apply below_drew1) | exact HB.out)) hb); clear HB; have HO259 := n0_; have HB := n1_; clear n0_ n1_; (try clear hb); (try clear hb2); (try clear hk); (try clear hi); (try clear ho0)))
               go_ret
               exact ⟨by first | rfl | (simp [errW_none, errW_some] <;> rfl) | (simp [*, errW_none, errW_some] <;> rfl), by repeat (first | (with_reducible first | exact HB.out | apply below_alloc | apply pw_below_drewN | apply below_drew1) | exact HB.out)⟩

end Go.Proofs.Ytdopeneehminaaa.PSteerParts
