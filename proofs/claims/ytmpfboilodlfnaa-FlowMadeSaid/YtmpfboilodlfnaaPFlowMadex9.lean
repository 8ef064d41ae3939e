-- Printed by a program: the print with changes of this session (wip/printpatch.py).
import Derived.Test.YtmpfboilodlfnaaPFlowMadex0
import Derived.Test.YtmpfboilodlfnaaPFlowMadex1
import Derived.Test.YtmpfboilodlfnaaPFlowMadex2
import Derived.Test.YtmpfboilodlfnaaPFlowMadex3
import Derived.Test.YtmpfboilodlfnaaPFlowMadex4
import Derived.Test.YtmpfboilodlfnaaPFlowMadex5
import Derived.Test.YtmpfboilodlfnaaPFlowMadex6
import Derived.Test.YtmpfboilodlfnaaPFlowMadex7
import Derived.Test.YtmpfboilodlfnaaPFlowMadex8
namespace Go.Proofs.Ytmpfboilodlfnaa.PFlowMade
open Go.Proofs.Ytmpfboilodlfnaa.Fnv Go.Proofs.Ytmpfboilodlfnaa.Ary
open Go.RowKit Go.Proofs.YtmpfboilodlfnaaW.PrintWords Go.Proofs.YtmpfboilodlfnaaW.PrintLast Go.Proofs.YtmpfboilodlfnaaW.PrintMore
attribute [local go_sem] max2_int min2_int max_two min_two max_three min_three max_four min_four   -- for this text's walks alone
set_option linter.unusedVariables false
set_option linter.unusedSimpArgs false

/-! ### tourlaw5_FlowTells: function 6 -/
mutual
def tourlaw5_FlowTells.j0 : Nat → List Int → Int → Int → Bool → Int → Int → List Int → Option (Bool)
 | 0, _, _, _, _, _, _, _ => none
 | k + 1, x1, x2, x3, x31, x175000, x175001, x175002 => if x31 = true then (some false) else ((tourref5_GridFault.f k x175000 x175001 x175002).bind fun t180 => ((flow_Check.f k x175000 x175001 x175002).bind fun t181 => (if t181 = t180 then ((flow_Step.f k x175000 x175001 x175002 x2 x3).bind fun t182 => ((tourref5_Beyond.f k x175000 x175001 x175002 x2 x3).bind fun t183 => (tourlaw5_FlowTells.j1 k x1 x2 t180 (t182 != t183) x175000 x175001 x175002))) else (tourlaw5_FlowTells.j1 k x1 x2 t180 true x175000 x175001 x175002))))
def tourlaw5_FlowTells.j1 : Nat → List Int → Int → Int → Bool → Int → Int → List Int → Option (Bool)
 | 0, _, _, _, _, _, _, _ => none
 | k + 1, x1, x2, x9, x48, x175000, x175001, x175002 => if x48 = true then (some false) else (if x9 = 0 then ((slices_ContainsFunc_int_int.f x1 x175000 x175001 x175002).bind fun t184 => (tourlaw5_FlowTells.j2 k x1 x2 x9 t184 x175000 x175001 x175002)) else (tourlaw5_FlowTells.j2 k x1 x2 x9 false x175000 x175001 x175002))
def tourlaw5_FlowTells.j2 : Nat → List Int → Int → Int → Bool → Int → Int → List Int → Option (Bool)
 | 0, _, _, _, _, _, _, _ => none
 | k + 1, x1, x2, x9, x55, x175000, x175001, x175002 => if x55 = true then (tourlaw5_FlowTells.j3 k x1 x2 1 x175000 x175001 x175002) else (tourlaw5_FlowTells.j3 k x1 x2 x9 x175000 x175001 x175002)
def tourlaw5_FlowTells.j3 : Nat → List Int → Int → Int → Int → Int → List Int → Option (Bool)
 | 0, _, _, _, _, _, _ => none
 | k + 1, x1, x2, x9, x175000, x175001, x175002 => (flow_Field.f k x175000 x175001 x175002 x1).bind fun bt185 => ((flow_Ways.f k x175000 x175001 x175002 x1).bind fun bt189 => ((flow_Walk.f k x175000 x175001 x175002 x1 x2).bind fun bt193 => (if x9 = 0 then ((tourref5_Costs.f k x175000 x175001 x175002 x1).bind fun t197 => (if bt185.2 = 0 then (if bt189.2 = 0 then ((slices_Equal_int_int.f k bt185.1 t197).bind fun t200 => (if t200 = true then (tourlaw5_FlowTells.j4 k x2 bt189.1 bt193.1 bt193.2 t197 ((bt189.1.length : Int) != (t197.length : Int)) x175000 x175001 x175002) else (tourlaw5_FlowTells.j4 k x2 bt189.1 bt193.1 bt193.2 t197 true x175000 x175001 x175002))) else (tourlaw5_FlowTells.j4 k x2 bt189.1 bt193.1 bt193.2 t197 true x175000 x175001 x175002)) else (tourlaw5_FlowTells.j4 k x2 bt189.1 bt193.1 bt193.2 t197 true x175000 x175001 x175002))) else (if bt185.2 = x9 then (if bt189.2 = x9 then (if bt193.2 = x9 then (some ((wrap64 ((wrap64 ((bt185.1.length : Int) + (bt189.1.length : Int))) + (bt193.1.length : Int))) == 0)) else (some false)) else (some false)) else (some false)))))
def tourlaw5_FlowTells.j4 : Nat → Int → List Int → List Int → Int → List Int → Bool → Int → Int → List Int → Option (Bool)
 | 0, _, _, _, _, _, _, _, _, _ => none
 | k + 1, x2, x12, x14, x15, x16, x122, x175000, x175001, x175002 => if x122 = true then (some false) else (tourlaw5_FlowTells.l0 k x2 x12 x14 x15 x16 x12 (x12.length : Int) 0 x175000 x175001 x175002)
def tourlaw5_FlowTells.l0 : Nat → Int → List Int → List Int → Int → List Int → List Int → Int → Int → Int → Int → List Int → Option (Bool)
 | 0, _, _, _, _, _, _, _, _, _, _, _ => none
 | k + 1, x2, x12, x14, x15, x16, x123, x124, x125, x175000, x175001, x175002 => if x125 < x124 then (if 0 ≤ x125 then (if x125 < (x123.length : Int) then (tourlaw5_FlowTells.l1 k x2 x12 x14 x15 x16 x125 (rd x123 x125) 0 4 x123 x124 x125 x175000 x175001 x175002) else (none)) else (none)) else (if x2 < 0 then (tourlaw5_FlowTells.j7 k x2 x12 x14 x15 x16 true x175000 x175001 x175002) else (tourlaw5_FlowTells.j7 k x2 x12 x14 x15 x16 (decide (x2 ≥ (x16.length : Int))) x175000 x175001 x175002))
def tourlaw5_FlowTells.l1 : Nat → Int → List Int → List Int → Int → List Int → Int → Int → Int → Int → List Int → Int → Int → Int → Int → List Int → Option (Bool)
 | 0, _, _, _, _, _, _, _, _, _, _, _, _, _, _, _ => none
 | k + 1, x2, x12, x14, x15, x16, x17, x18, x19, x20, x123, x124, x125, x175000, x175001, x175002 => if x20 ≥ 1 then ((tourref5_Beyond.f k x175000 x175001 x175002 x17 x20).bind fun t202 => (if 0 ≤ x17 then (if x17 < (x16.length : Int) then (if (rd x16 x17) > 0 then (if t202 ≥ 0 then (if 0 ≤ t202 then (if t202 < (x16.length : Int) then (if (rd x16 t202) ≥ 0 then (if t202 < (x175002.length : Int) then (if (wrap64 ((rd x16 t202) + (rd x175002 t202))) = (rd x16 x17) then (tourlaw5_FlowTells.l1 k x2 x12 x14 x15 x16 x17 x18 x20 (wrap64 (x20 - 1)) x123 x124 x125 x175000 x175001 x175002) else (tourlaw5_FlowTells.l1 k x2 x12 x14 x15 x16 x17 x18 x19 (wrap64 (x20 - 1)) x123 x124 x125 x175000 x175001 x175002)) else (none)) else (tourlaw5_FlowTells.l1 k x2 x12 x14 x15 x16 x17 x18 x19 (wrap64 (x20 - 1)) x123 x124 x125 x175000 x175001 x175002)) else (none)) else (none)) else (tourlaw5_FlowTells.l1 k x2 x12 x14 x15 x16 x17 x18 x19 (wrap64 (x20 - 1)) x123 x124 x125 x175000 x175001 x175002)) else (tourlaw5_FlowTells.l1 k x2 x12 x14 x15 x16 x17 x18 x19 (wrap64 (x20 - 1)) x123 x124 x125 x175000 x175001 x175002)) else (none)) else (none))) else (if x18 = x19 then (tourlaw5_FlowTells.l0 k x2 x12 x14 x15 x16 x123 x124 (wrap64 (x125 + 1)) x175000 x175001 x175002) else (some false))
def tourlaw5_FlowTells.j7 : Nat → Int → List Int → List Int → Int → List Int → Bool → Int → Int → List Int → Option (Bool)
 | 0, _, _, _, _, _, _, _, _, _ => none
 | k + 1, x2, x12, x14, x15, x16, x183, x175000, x175001, x175002 => if x183 = true then (if x15 = 1 then (some ((x14.length : Int) == 0)) else (some false)) else (if 0 ≤ x2 then (if x2 < (x16.length : Int) then (if (rd x16 x2) < 0 then (if x15 = 4 then (some ((x14.length : Int) == 0)) else (some false)) else (tourlaw5_FlowTells.l2 k x12 x14 x15 x2 x175000 x175001 x175002)) else (none)) else (none))
def tourlaw5_FlowTells.l2 : Nat → List Int → List Int → Int → Int → Int → Int → List Int → Option (Bool)
 | 0, _, _, _, _, _, _, _ => none
 | k + 1, x12, x14, x15, x22, x175000, x175001, x175002 => if (x14.length : Int) = 0 then (tourlaw5_FlowTells.j9 k x12 x14 x15 x22 true x175000 x175001 x175002) else (if 0 < (x14.length : Int) then (tourlaw5_FlowTells.j9 k x12 x14 x15 x22 ((rd x14 0) != x22) x175000 x175001 x175002) else (none))
def tourlaw5_FlowTells.j9 : Nat → List Int → List Int → Int → Int → Bool → Int → Int → List Int → Option (Bool)
 | 0, _, _, _, _, _, _, _, _ => none
 | k + 1, x12, x14, x15, x22, x220, x175000, x175001, x175002 => if x220 = true then (some false) else (if 1 ≤ (x14.length : Int) then ((some (x14.drop (1 : Int).toNat : List Int)).bind fun y210 => (if 0 ≤ x22 then (if x22 < (x12.length : Int) then (if (rd x12 x22) = 0 then (if x15 = 0 then (some ((y210.length : Int) == 0)) else (some false)) else ((tourref5_Beyond.f k x175000 x175001 x175002 x22 (rd x12 x22)).bind fun t215 => (tourlaw5_FlowTells.l2 k x12 y210 x15 t215 x175000 x175001 x175002))) else (none)) else (none))) else (none))
end
def tourlaw5_FlowTells.f (k : Nat) (a0_0 : Int) (a0_1 : Int) (l0_2 : List Int) (l1 : List Int) (a2 : Int) (a3 : Int) : Option (Bool) := (flow_Check.f k 1 1 (([1] : List Int))).bind fun t178 => (if t178 = 0 then ((flow_Check.f k 0 0 ([] : List Int)).bind fun t179 => (tourlaw5_FlowTells.j0 k l1 a2 a3 (t179 != 2) a0_0 a0_1 l0_2)) else (tourlaw5_FlowTells.j0 k l1 a2 a3 true a0_0 a0_1 l0_2))
theorem tourlaw5_FlowTells.mono_l : ∀ k, (∀ y0 y1 y2 y3 y4 y5 y6, LeO (tourlaw5_FlowTells.j0 k y0 y1 y2 y3 y4 y5 y6) (tourlaw5_FlowTells.j0 (k + 1) y0 y1 y2 y3 y4 y5 y6)) ∧ (∀ y0 y1 y2 y3 y4 y5 y6, LeO (tourlaw5_FlowTells.j1 k y0 y1 y2 y3 y4 y5 y6) (tourlaw5_FlowTells.j1 (k + 1) y0 y1 y2 y3 y4 y5 y6)) ∧ (∀ y0 y1 y2 y3 y4 y5 y6, LeO (tourlaw5_FlowTells.j2 k y0 y1 y2 y3 y4 y5 y6) (tourlaw5_FlowTells.j2 (k + 1) y0 y1 y2 y3 y4 y5 y6)) ∧ (∀ y0 y1 y2 y3 y4 y5, LeO (tourlaw5_FlowTells.j3 k y0 y1 y2 y3 y4 y5) (tourlaw5_FlowTells.j3 (k + 1) y0 y1 y2 y3 y4 y5)) ∧ (∀ y0 y1 y2 y3 y4 y5 y6 y7 y8, LeO (tourlaw5_FlowTells.j4 k y0 y1 y2 y3 y4 y5 y6 y7 y8) (tourlaw5_FlowTells.j4 (k + 1) y0 y1 y2 y3 y4 y5 y6 y7 y8)) ∧ (∀ y0 y1 y2 y3 y4 y5 y6 y7 y8 y9 y10, LeO (tourlaw5_FlowTells.l0 k y0 y1 y2 y3 y4 y5 y6 y7 y8 y9 y10) (tourlaw5_FlowTells.l0 (k + 1) y0 y1 y2 y3 y4 y5 y6 y7 y8 y9 y10)) ∧ (∀ y0 y1 y2 y3 y4 y5 y6 y7 y8 y9 y10 y11 y12 y13 y14, LeO (tourlaw5_FlowTells.l1 k y0 y1 y2 y3 y4 y5 y6 y7 y8 y9 y10 y11 y12 y13 y14) (tourlaw5_FlowTells.l1 (k + 1) y0 y1 y2 y3 y4 y5 y6 y7 y8 y9 y10 y11 y12 y13 y14)) ∧ (∀ y0 y1 y2 y3 y4 y5 y6 y7 y8, LeO (tourlaw5_FlowTells.j7 k y0 y1 y2 y3 y4 y5 y6 y7 y8) (tourlaw5_FlowTells.j7 (k + 1) y0 y1 y2 y3 y4 y5 y6 y7 y8)) ∧ (∀ y0 y1 y2 y3 y4 y5 y6, LeO (tourlaw5_FlowTells.l2 k y0 y1 y2 y3 y4 y5 y6) (tourlaw5_FlowTells.l2 (k + 1) y0 y1 y2 y3 y4 y5 y6)) ∧ (∀ y0 y1 y2 y3 y4 y5 y6 y7, LeO (tourlaw5_FlowTells.j9 k y0 y1 y2 y3 y4 y5 y6 y7) (tourlaw5_FlowTells.j9 (k + 1) y0 y1 y2 y3 y4 y5 y6 y7))
 | 0 => ⟨fun _ _ _ _ _ _ _ r h => by simp [tourlaw5_FlowTells.j0] at h, fun _ _ _ _ _ _ _ r h => by simp [tourlaw5_FlowTells.j1] at h, fun _ _ _ _ _ _ _ r h => by simp [tourlaw5_FlowTells.j2] at h, fun _ _ _ _ _ _ r h => by simp [tourlaw5_FlowTells.j3] at h, fun _ _ _ _ _ _ _ _ _ r h => by simp [tourlaw5_FlowTells.j4] at h, fun _ _ _ _ _ _ _ _ _ _ _ r h => by simp [tourlaw5_FlowTells.l0] at h, fun _ _ _ _ _ _ _ _ _ _ _ _ _ _ _ r h => by simp [tourlaw5_FlowTells.l1] at h, fun _ _ _ _ _ _ _ _ _ r h => by simp [tourlaw5_FlowTells.j7] at h, fun _ _ _ _ _ _ _ r h => by simp [tourlaw5_FlowTells.l2] at h, fun _ _ _ _ _ _ _ _ r h => by simp [tourlaw5_FlowTells.j9] at h⟩
 | k + 1 => by
  obtain ⟨ih0, ih1, ih2, ih3, ih4, ih5, ih6, ih7, ih8, ih9⟩ := tourlaw5_FlowTells.mono_l k
  refine ⟨?_, ?_, ?_, ?_, ?_, ?_, ?_, ?_, ?_, ?_⟩
  ·intro y0 y1 y2 y3 y4 y5 y6
   unfold tourlaw5_FlowTells.j0
   repeat' first
   | (with_reducible exact ih0 _ _ _ _ _ _ _)
   | (with_reducible exact ih1 _ _ _ _ _ _ _)
   | (with_reducible exact ih2 _ _ _ _ _ _ _)
   | (with_reducible exact ih3 _ _ _ _ _ _)
   | (with_reducible exact ih4 _ _ _ _ _ _ _ _ _)
   | (with_reducible exact ih5 _ _ _ _ _ _ _ _ _ _ _)
   | (with_reducible exact ih6 _ _ _ _ _ _ _ _ _ _ _ _ _ _ _)
   | (with_reducible exact ih7 _ _ _ _ _ _ _ _ _)
   | (with_reducible exact ih8 _ _ _ _ _ _ _)
   | (with_reducible exact ih9 _ _ _ _ _ _ _ _)
   | (with_reducible exact flow_Check.mono _ _ _ _)
   | (with_reducible exact flow_Field.mono _ _ _ _ _)
   | (with_reducible exact flow_Step.mono _ _ _ _ _ _)
   | (with_reducible exact flow_Walk.mono _ _ _ _ _ _)
   | (with_reducible exact flow_Ways.mono _ _ _ _ _)
   | (with_reducible exact slices_Equal_int_int.mono _ _ _)
   | (with_reducible exact tourref5_Beyond.mono _ _ _ _ _ _)
   | (with_reducible exact tourref5_Costs.mono _ _ _ _ _)
   | (with_reducible exact tourref5_GridFault.mono _ _ _ _)
   | (with_reducible exact LeO.refl _)
   | (with_reducible exact LeO.none _)
   | (with_reducible refine LeO.ite ?_ ?_)
   | (with_reducible refine LeO.bind ?_ (fun _ => ?_))
   | exact ih0 _ _ _ _ _ _ _
   | exact ih1 _ _ _ _ _ _ _
   | exact ih2 _ _ _ _ _ _ _
   | exact ih3 _ _ _ _ _ _
   | exact ih4 _ _ _ _ _ _ _ _ _
   | exact ih5 _ _ _ _ _ _ _ _ _ _ _
   | exact ih6 _ _ _ _ _ _ _ _ _ _ _ _ _ _ _
   | exact ih7 _ _ _ _ _ _ _ _ _
   | exact ih8 _ _ _ _ _ _ _
   | exact ih9 _ _ _ _ _ _ _ _
   | exact flow_Check.mono _ _ _ _
   | exact flow_Field.mono _ _ _ _ _
   | exact flow_Step.mono _ _ _ _ _ _
   | exact flow_Walk.mono _ _ _ _ _ _
   | exact flow_Ways.mono _ _ _ _ _
   | exact slices_Equal_int_int.mono _ _ _
   | exact tourref5_Beyond.mono _ _ _ _ _ _
   | exact tourref5_Costs.mono _ _ _ _ _
   | exact tourref5_GridFault.mono _ _ _ _
   | exact LeO.none _
   | refine LeO.ite ?_ ?_
   | refine LeO.bind ?_ (fun _ => ?_)
  ·intro y0 y1 y2 y3 y4 y5 y6
   unfold tourlaw5_FlowTells.j1
   repeat' first
   | (with_reducible exact ih0 _ _ _ _ _ _ _)
   | (with_reducible exact ih1 _ _ _ _ _ _ _)
   | (with_reducible exact ih2 _ _ _ _ _ _ _)
   | (with_reducible exact ih3 _ _ _ _ _ _)
   | (with_reducible exact ih4 _ _ _ _ _ _ _ _ _)
   | (with_reducible exact ih5 _ _ _ _ _ _ _ _ _ _ _)
   | (with_reducible exact ih6 _ _ _ _ _ _ _ _ _ _ _ _ _ _ _)
   | (with_reducible exact ih7 _ _ _ _ _ _ _ _ _)
   | (with_reducible exact ih8 _ _ _ _ _ _ _)
   | (with_reducible exact ih9 _ _ _ _ _ _ _ _)
   | (with_reducible exact flow_Check.mono _ _ _ _)
   | (with_reducible exact flow_Field.mono _ _ _ _ _)
   | (with_reducible exact flow_Step.mono _ _ _ _ _ _)
   | (with_reducible exact flow_Walk.mono _ _ _ _ _ _)
   | (with_reducible exact flow_Ways.mono _ _ _ _ _)
   | (with_reducible exact slices_Equal_int_int.mono _ _ _)
   | (with_reducible exact tourref5_Beyond.mono _ _ _ _ _ _)
   | (with_reducible exact tourref5_Costs.mono _ _ _ _ _)
   | (with_reducible exact tourref5_GridFault.mono _ _ _ _)
   | (with_reducible exact LeO.refl _)
   | (with_reducible exact LeO.none _)
   | (with_reducible refine LeO.ite ?_ ?_)
   | (with_reducible refine LeO.bind ?_ (fun _ => ?_))
   | exact ih0 _ _ _ _ _ _ _
   | exact ih1 _ _ _ _ _ _ _
   | exact ih2 _ _ _ _ _ _ _
   | exact ih3 _ _ _ _ _ _
   | exact ih4 _ _ _ _ _ _ _ _ _
   | exact ih5 _ _ _ _ _ _ _ _ _ _ _
   | exact ih6 _ _ _ _ _ _ _ _ _ _ _ _ _ _ _
   | exact ih7 _ _ _ _ _ _ _ _ _
   | exact ih8 _ _ _ _ _ _ _
   | exact ih9 _ _ _ _ _ _ _ _
   | exact flow_Check.mono _ _ _ _
   | exact flow_Field.mono _ _ _ _ _
   | exact flow_Step.mono _ _ _ _ _ _
   | exact flow_Walk.mono _ _ _ _ _ _
   | exact flow_Ways.mono _ _ _ _ _
   | exact slices_Equal_int_int.mono _ _ _
   | exact tourref5_Beyond.mono _ _ _ _ _ _
   | exact tourref5_Costs.mono _ _ _ _ _
   | exact tourref5_GridFault.mono _ _ _ _
   | exact LeO.none _
   | refine LeO.ite ?_ ?_
   | refine LeO.bind ?_ (fun _ => ?_)
  ·intro y0 y1 y2 y3 y4 y5 y6
   unfold tourlaw5_FlowTells.j2
   repeat' first
   | (with_reducible exact ih0 _ _ _ _ _ _ _)
   | (with_reducible exact ih1 _ _ _ _ _ _ _)
   | (with_reducible exact ih2 _ _ _ _ _ _ _)
   | (with_reducible exact ih3 _ _ _ _ _ _)
   | (with_reducible exact ih4 _ _ _ _ _ _ _ _ _)
   | (with_reducible exact ih5 _ _ _ _ _ _ _ _ _ _ _)
   | (with_reducible exact ih6 _ _ _ _ _ _ _ _ _ _ _ _ _ _ _)
   | (with_reducible exact ih7 _ _ _ _ _ _ _ _ _)
   | (with_reducible exact ih8 _ _ _ _ _ _ _)
   | (with_reducible exact ih9 _ _ _ _ _ _ _ _)
   | (with_reducible exact flow_Check.mono _ _ _ _)
   | (with_reducible exact flow_Field.mono _ _ _ _ _)
   | (with_reducible exact flow_Step.mono _ _ _ _ _ _)
   | (with_reducible exact flow_Walk.mono _ _ _ _ _ _)
   | (with_reducible exact flow_Ways.mono _ _ _ _ _)
   | (with_reducible exact slices_Equal_int_int.mono _ _ _)
   | (with_reducible exact tourref5_Beyond.mono _ _ _ _ _ _)
   | (with_reducible exact tourref5_Costs.mono _ _ _ _ _)
   | (with_reducible exact tourref5_GridFault.mono _ _ _ _)
   | (with_reducible exact LeO.refl _)
   | (with_reducible exact LeO.none _)
   | (with_reducible refine LeO.ite ?_ ?_)
   | (with_reducible refine LeO.bind ?_ (fun _ => ?_))
   | exact ih0 _ _ _ _ _ _ _
   | exact ih1 _ _ _ _ _ _ _
   | exact ih2 _ _ _ _ _ _ _
   | exact ih3 _ _ _ _ _ _
   | exact ih4 _ _ _ _ _ _ _ _ _
   | exact ih5 _ _ _ _ _ _ _ _ _ _ _
   | exact ih6 _ _ _ _ _ _ _ _ _ _ _ _ _ _ _
   | exact ih7 _ _ _ _ _ _ _ _ _
   | exact ih8 _ _ _ _ _ _ _
   | exact ih9 _ _ _ _ _ _ _ _
   | exact flow_Check.mono _ _ _ _
   | exact flow_Field.mono _ _ _ _ _
   | exact flow_Step.mono _ _ _ _ _ _
   | exact flow_Walk.mono _ _ _ _ _ _
   | exact flow_Ways.mono _ _ _ _ _
   | exact slices_Equal_int_int.mono _ _ _
   | exact tourref5_Beyond.mono _ _ _ _ _ _
   | exact tourref5_Costs.mono _ _ _ _ _
   | exact tourref5_GridFault.mono _ _ _ _
   | exact LeO.none _
   | refine LeO.ite ?_ ?_
   | refine LeO.bind ?_ (fun _ => ?_)
  ·intro y0 y1 y2 y3 y4 y5
   unfold tourlaw5_FlowTells.j3
   repeat' first
   | (with_reducible exact ih0 _ _ _ _ _ _ _)
   | (with_reducible exact ih1 _ _ _ _ _ _ _)
   | (with_reducible exact ih2 _ _ _ _ _ _ _)
   | (with_reducible exact ih3 _ _ _ _ _ _)
   | (with_reducible exact ih4 _ _ _ _ _ _ _ _ _)
   | (with_reducible exact ih5 _ _ _ _ _ _ _ _ _ _ _)
   | (with_reducible exact ih6 _ _ _ _ _ _ _ _ _ _ _ _ _ _ _)
   | (with_reducible exact ih7 _ _ _ _ _ _ _ _ _)
   | (with_reducible exact ih8 _ _ _ _ _ _ _)
   | (with_reducible exact ih9 _ _ _ _ _ _ _ _)
   | (with_reducible exact flow_Check.mono _ _ _ _)
   | (with_reducible exact flow_Field.mono _ _ _ _ _)
   | (with_reducible exact flow_Step.mono _ _ _ _ _ _)
   | (with_reducible exact flow_Walk.mono _ _ _ _ _ _)
   | (with_reducible exact flow_Ways.mono _ _ _ _ _)
   | (with_reducible exact slices_Equal_int_int.mono _ _ _)
   | (with_reducible exact tourref5_Beyond.mono _ _ _ _ _ _)
   | (with_reducible exact tourref5_Costs.mono _ _ _ _ _)
   | (with_reducible exact tourref5_GridFault.mono _ _ _ _)
   | (with_reducible exact LeO.refl _)
   | (with_reducible exact LeO.none _)
   | (with_reducible refine LeO.ite ?_ ?_)
   | (with_reducible refine LeO.bind ?_ (fun _ => ?_))
   | exact ih0 _ _ _ _ _ _ _
   | exact ih1 _ _ _ _ _ _ _
   | exact ih2 _ _ _ _ _ _ _
   | exact ih3 _ _ _ _ _ _
   | exact ih4 _ _ _ _ _ _ _ _ _
   | exact ih5 _ _ _ _ _ _ _ _ _ _ _
   | exact ih6 _ _ _ _ _ _ _ _ _ _ _ _ _ _ _
   | exact ih7 _ _ _ _ _ _ _ _ _
   | exact ih8 _ _ _ _ _ _ _
   | exact ih9 _ _ _ _ _ _ _ _
   | exact flow_Check.mono _ _ _ _
   | exact flow_Field.mono _ _ _ _ _
   | exact flow_Step.mono _ _ _ _ _ _
   | exact flow_Walk.mono _ _ _ _ _ _
   | exact flow_Ways.mono _ _ _ _ _
   | exact slices_Equal_int_int.mono _ _ _
   | exact tourref5_Beyond.mono _ _ _ _ _ _
   | exact tourref5_Costs.mono _ _ _ _ _
   | exact tourref5_GridFault.mono _ _ _ _
   | exact LeO.none _
   | refine LeO.ite ?_ ?_
   | refine LeO.bind ?_ (fun _ => ?_)
  ·intro y0 y1 y2 y3 y4 y5 y6 y7 y8
   unfold tourlaw5_FlowTells.j4
   repeat' first
   | (with_reducible exact ih0 _ _ _ _ _ _ _)
   | (with_reducible exact ih1 _ _ _ _ _ _ _)
   | (with_reducible exact ih2 _ _ _ _ _ _ _)
   | (with_reducible exact ih3 _ _ _ _ _ _)
   | (with_reducible exact ih4 _ _ _ _ _ _ _ _ _)
   | (with_reducible exact ih5 _ _ _ _ _ _ _ _ _ _ _)
   | (with_reducible exact ih6 _ _ _ _ _ _ _ _ _ _ _ _ _ _ _)
   | (with_reducible exact ih7 _ _ _ _ _ _ _ _ _)
   | (with_reducible exact ih8 _ _ _ _ _ _ _)
   | (with_reducible exact ih9 _ _ _ _ _ _ _ _)
   | (with_reducible exact flow_Check.mono _ _ _ _)
   | (with_reducible exact flow_Field.mono _ _ _ _ _)
   | (with_reducible exact flow_Step.mono _ _ _ _ _ _)
   | (with_reducible exact flow_Walk.mono _ _ _ _ _ _)
   | (with_reducible exact flow_Ways.mono _ _ _ _ _)
   | (with_reducible exact slices_Equal_int_int.mono _ _ _)
   | (with_reducible exact tourref5_Beyond.mono _ _ _ _ _ _)
   | (with_reducible exact tourref5_Costs.mono _ _ _ _ _)
   | (with_reducible exact tourref5_GridFault.mono _ _ _ _)
   | (with_reducible exact LeO.refl _)
   | (with_reducible exact LeO.none _)
   | (with_reducible refine LeO.ite ?_ ?_)
   | (with_reducible refine LeO.bind ?_ (fun _ => ?_))
   | exact ih0 _ _ _ _ _ _ _
   | exact ih1 _ _ _ _ _ _ _
   | exact ih2 _ _ _ _ _ _ _
   | exact ih3 _ _ _ _ _ _
   | exact ih4 _ _ _ _ _ _ _ _ _
   | exact ih5 _ _ _ _ _ _ _ _ _ _ _
   | exact ih6 _ _ _ _ _ _ _ _ _ _ _ _ _ _ _
   | exact ih7 _ _ _ _ _ _ _ _ _
   | exact ih8 _ _ _ _ _ _ _
   | exact ih9 _ _ _ _ _ _ _ _
   | exact flow_Check.mono _ _ _ _
   | exact flow_Field.mono _ _ _ _ _
   | exact flow_Step.mono _ _ _ _ _ _
   | exact flow_Walk.mono _ _ _ _ _ _
   | exact flow_Ways.mono _ _ _ _ _
   | exact slices_Equal_int_int.mono _ _ _
   | exact tourref5_Beyond.mono _ _ _ _ _ _
   | exact tourref5_Costs.mono _ _ _ _ _
   | exact tourref5_GridFault.mono _ _ _ _
   | exact LeO.none _
   | refine LeO.ite ?_ ?_
   | refine LeO.bind ?_ (fun _ => ?_)
  ·intro y0 y1 y2 y3 y4 y5 y6 y7 y8 y9 y10
   unfold tourlaw5_FlowTells.l0
   repeat' first
   | (with_reducible exact ih0 _ _ _ _ _ _ _)
   | (with_reducible exact ih1 _ _ _ _ _ _ _)
   | (with_reducible exact ih2 _ _ _ _ _ _ _)
   | (with_reducible exact ih3 _ _ _ _ _ _)
   | (with_reducible exact ih4 _ _ _ _ _ _ _ _ _)
   | (with_reducible exact ih5 _ _ _ _ _ _ _ _ _ _ _)
   | (with_reducible exact ih6 _ _ _ _ _ _ _ _ _ _ _ _ _ _ _)
   | (with_reducible exact ih7 _ _ _ _ _ _ _ _ _)
   | (with_reducible exact ih8 _ _ _ _ _ _ _)
   | (with_reducible exact ih9 _ _ _ _ _ _ _ _)
   | (with_reducible exact flow_Check.mono _ _ _ _)
   | (with_reducible exact flow_Field.mono _ _ _ _ _)
   | (with_reducible exact flow_Step.mono _ _ _ _ _ _)
   | (with_reducible exact flow_Walk.mono _ _ _ _ _ _)
   | (with_reducible exact flow_Ways.mono _ _ _ _ _)
   | (with_reducible exact slices_Equal_int_int.mono _ _ _)
   | (with_reducible exact tourref5_Beyond.mono _ _ _ _ _ _)
   | (with_reducible exact tourref5_Costs.mono _ _ _ _ _)
   | (with_reducible exact tourref5_GridFault.mono _ _ _ _)
   | (with_reducible exact LeO.refl _)
   | (with_reducible exact LeO.none _)
   | (with_reducible refine LeO.ite ?_ ?_)
   | (with_reducible refine LeO.bind ?_ (fun _ => ?_))
   | exact ih0 _ _ _ _ _ _ _
   | exact ih1 _ _ _ _ _ _ _
   | exact ih2 _ _ _ _ _ _ _
   | exact ih3 _ _ _ _ _ _
   | exact ih4 _ _ _ _ _ _ _ _ _
   | exact ih5 _ _ _ _ _ _ _ _ _ _ _
   | exact ih6 _ _ _ _ _ _ _ _ _ _ _ _ _ _ _
   | exact ih7 _ _ _ _ _ _ _ _ _
   | exact ih8 _ _ _ _ _ _ _
   | exact ih9 _ _ _ _ _ _ _ _
   | exact flow_Check.mono _ _ _ _
   | exact flow_Field.mono _ _ _ _ _
   | exact flow_Step.mono _ _ _ _ _ _
   | exact flow_Walk.mono _ _ _ _ _ _
   | exact flow_Ways.mono _ _ _ _ _
   | exact slices_Equal_int_int.mono _ _ _
   | exact tourref5_Beyond.mono _ _ _ _ _ _
   | exact tourref5_Costs.mono _ _ _ _ _
   | exact tourref5_GridFault.mono _ _ _ _
   | exact LeO.none _
   | refine LeO.ite ?_ ?_
   | refine LeO.bind ?_ (fun _ => ?_)
  ·intro y0 y1 y2 y3 y4 y5 y6 y7 y8 y9 y10 y11 y12 y13 y14
   unfold tourlaw5_FlowTells.l1
   repeat' first
   | (with_reducible exact ih0 _ _ _ _ _ _ _)
   | (with_reducible exact ih1 _ _ _ _ _ _ _)
   | (with_reducible exact ih2 _ _ _ _ _ _ _)
   | (with_reducible exact ih3 _ _ _ _ _ _)
   | (with_reducible exact ih4 _ _ _ _ _ _ _ _ _)
   | (with_reducible exact ih5 _ _ _ _ _ _ _ _ _ _ _)
   | (with_reducible exact ih6 _ _ _ _ _ _ _ _ _ _ _ _ _ _ _)
   | (with_reducible exact ih7 _ _ _ _ _ _ _ _ _)
   | (with_reducible exact ih8 _ _ _ _ _ _ _)
   | (with_reducible exact ih9 _ _ _ _ _ _ _ _)
   | (with_reducible exact flow_Check.mono _ _ _ _)
   | (with_reducible exact flow_Field.mono _ _ _ _ _)
   | (with_reducible exact flow_Step.mono _ _ _ _ _ _)
   | (with_reducible exact flow_Walk.mono _ _ _ _ _ _)
   | (with_reducible exact flow_Ways.mono _ _ _ _ _)
   | (with_reducible exact slices_Equal_int_int.mono _ _ _)
   | (with_reducible exact tourref5_Beyond.mono _ _ _ _ _ _)
   | (with_reducible exact tourref5_Costs.mono _ _ _ _ _)
   | (with_reducible exact tourref5_GridFault.mono _ _ _ _)
   | (with_reducible exact LeO.refl _)
   | (with_reducible exact LeO.none _)
   | (with_reducible refine LeO.ite ?_ ?_)
   | (with_reducible refine LeO.bind ?_ (fun _ => ?_))
   | exact ih0 _ _ _ _ _ _ _
   | exact ih1 _ _ _ _ _ _ _
   | exact ih2 _ _ _ _ _ _ _
   | exact ih3 _ _ _ _ _ _
   | exact ih4 _ _ _ _ _ _ _ _ _
   | exact ih5 _ _ _ _ _ _ _ _ _ _ _
   | exact ih6 _ _ _ _ _ _ _ _ _ _ _ _ _ _ _
   | exact ih7 _ _ _ _ _ _ _ _ _
   | exact ih8 _ _ _ _ _ _ _
   | exact ih9 _ _ _ _ _ _ _ _
   | exact flow_Check.mono _ _ _ _
   | exact flow_Field.mono _ _ _ _ _
   | exact flow_Step.mono _ _ _ _ _ _
   | exact flow_Walk.mono _ _ _ _ _ _
   | exact flow_Ways.mono _ _ _ _ _
   | exact slices_Equal_int_int.mono _ _ _
   | exact tourref5_Beyond.mono _ _ _ _ _ _
   | exact tourref5_Costs.mono _ _ _ _ _
   | exact tourref5_GridFault.mono _ _ _ _
   | exact LeO.none _
   | refine LeO.ite ?_ ?_
   | refine LeO.bind ?_ (fun _ => ?_)
  ·intro y0 y1 y2 y3 y4 y5 y6 y7 y8
   unfold tourlaw5_FlowTells.j7
   repeat' first
   | (with_reducible exact ih0 _ _ _ _ _ _ _)
   | (with_reducible exact ih1 _ _ _ _ _ _ _)
   | (with_reducible exact ih2 _ _ _ _ _ _ _)
   | (with_reducible exact ih3 _ _ _ _ _ _)
   | (with_reducible exact ih4 _ _ _ _ _ _ _ _ _)
   | (with_reducible exact ih5 _ _ _ _ _ _ _ _ _ _ _)
   | (with_reducible exact ih6 _ _ _ _ _ _ _ _ _ _ _ _ _ _ _)
   | (with_reducible exact ih7 _ _ _ _ _ _ _ _ _)
   | (with_reducible exact ih8 _ _ _ _ _ _ _)
   | (with_reducible exact ih9 _ _ _ _ _ _ _ _)
   | (with_reducible exact flow_Check.mono _ _ _ _)
   | (with_reducible exact flow_Field.mono _ _ _ _ _)
   | (with_reducible exact flow_Step.mono _ _ _ _ _ _)
   | (with_reducible exact flow_Walk.mono _ _ _ _ _ _)
   | (with_reducible exact flow_Ways.mono _ _ _ _ _)
   | (with_reducible exact slices_Equal_int_int.mono _ _ _)
   | (with_reducible exact tourref5_Beyond.mono _ _ _ _ _ _)
   | (with_reducible exact tourref5_Costs.mono _ _ _ _ _)
   | (with_reducible exact tourref5_GridFault.mono _ _ _ _)
   | (with_reducible exact LeO.refl _)
   | (with_reducible exact LeO.none _)
   | (with_reducible refine LeO.ite ?_ ?_)
   | (with_reducible refine LeO.bind ?_ (fun _ => ?_))
   | exact ih0 _ _ _ _ _ _ _
   | exact ih1 _ _ _ _ _ _ _
   | exact ih2 _ _ _ _ _ _ _
   | exact ih3 _ _ _ _ _ _
   | exact ih4 _ _ _ _ _ _ _ _ _
   | exact ih5 _ _ _ _ _ _ _ _ _ _ _
   | exact ih6 _ _ _ _ _ _ _ _ _ _ _ _ _ _ _
   | exact ih7 _ _ _ _ _ _ _ _ _
   | exact ih8 _ _ _ _ _ _ _
   | exact ih9 _ _ _ _ _ _ _ _
   | exact flow_Check.mono _ _ _ _
   | exact flow_Field.mono _ _ _ _ _
   | exact flow_Step.mono _ _ _ _ _ _
   | exact flow_Walk.mono _ _ _ _ _ _
   | exact flow_Ways.mono _ _ _ _ _
   | exact slices_Equal_int_int.mono _ _ _
   | exact tourref5_Beyond.mono _ _ _ _ _ _
   | exact tourref5_Costs.mono _ _ _ _ _
   | exact tourref5_GridFault.mono _ _ _ _
   | exact LeO.none _
   | refine LeO.ite ?_ ?_
   | refine LeO.bind ?_ (fun _ => ?_)
  ·intro y0 y1 y2 y3 y4 y5 y6
   unfold tourlaw5_FlowTells.l2
   repeat' first
   | (with_reducible exact ih0 _ _ _ _ _ _ _)
   | (with_reducible exact ih1 _ _ _ _ _ _ _)
   | (with_reducible exact ih2 _ _ _ _ _ _ _)
   | (with_reducible exact ih3 _ _ _ _ _ _)
   | (with_reducible exact ih4 _ _ _ _ _ _ _ _ _)
   | (with_reducible exact ih5 _ _ _ _ _ _ _ _ _ _ _)
   | (with_reducible exact ih6 _ _ _ _ _ _ _ _ _ _ _ _ _ _ _)
   | (with_reducible exact ih7 _ _ _ _ _ _ _ _ _)
   | (with_reducible exact ih8 _ _ _ _ _ _ _)
   | (with_reducible exact ih9 _ _ _ _ _ _ _ _)
   | (with_reducible exact flow_Check.mono _ _ _ _)
   | (with_reducible exact flow_Field.mono _ _ _ _ _)
   | (with_reducible exact flow_Step.mono _ _ _ _ _ _)
   | (with_reducible exact flow_Walk.mono _ _ _ _ _ _)
   | (with_reducible exact flow_Ways.mono _ _ _ _ _)
   | (with_reducible exact slices_Equal_int_int.mono _ _ _)
   | (with_reducible exact tourref5_Beyond.mono _ _ _ _ _ _)
   | (with_reducible exact tourref5_Costs.mono _ _ _ _ _)
   | (with_reducible exact tourref5_GridFault.mono _ _ _ _)
   | (with_reducible exact LeO.refl _)
   | (with_reducible exact LeO.none _)
   | (with_reducible refine LeO.ite ?_ ?_)
   | (with_reducible refine LeO.bind ?_ (fun _ => ?_))
   | exact ih0 _ _ _ _ _ _ _
   | exact ih1 _ _ _ _ _ _ _
   | exact ih2 _ _ _ _ _ _ _
   | exact ih3 _ _ _ _ _ _
   | exact ih4 _ _ _ _ _ _ _ _ _
   | exact ih5 _ _ _ _ _ _ _ _ _ _ _
   | exact ih6 _ _ _ _ _ _ _ _ _ _ _ _ _ _ _
   | exact ih7 _ _ _ _ _ _ _ _ _
   | exact ih8 _ _ _ _ _ _ _
   | exact ih9 _ _ _ _ _ _ _ _
   | exact flow_Check.mono _ _ _ _
   | exact flow_Field.mono _ _ _ _ _
   | exact flow_Step.mono _ _ _ _ _ _
   | exact flow_Walk.mono _ _ _ _ _ _
   | exact flow_Ways.mono _ _ _ _ _
   | exact slices_Equal_int_int.mono _ _ _
   | exact tourref5_Beyond.mono _ _ _ _ _ _
   | exact tourref5_Costs.mono _ _ _ _ _
   | exact tourref5_GridFault.mono _ _ _ _
   | exact LeO.none _
   | refine LeO.ite ?_ ?_
   | refine LeO.bind ?_ (fun _ => ?_)
  ·intro y0 y1 y2 y3 y4 y5 y6 y7
   unfold tourlaw5_FlowTells.j9
   repeat' first
   | (with_reducible exact ih0 _ _ _ _ _ _ _)
   | (with_reducible exact ih1 _ _ _ _ _ _ _)
   | (with_reducible exact ih2 _ _ _ _ _ _ _)
   | (with_reducible exact ih3 _ _ _ _ _ _)
   | (with_reducible exact ih4 _ _ _ _ _ _ _ _ _)
   | (with_reducible exact ih5 _ _ _ _ _ _ _ _ _ _ _)
   | (with_reducible exact ih6 _ _ _ _ _ _ _ _ _ _ _ _ _ _ _)
   | (with_reducible exact ih7 _ _ _ _ _ _ _ _ _)
   | (with_reducible exact ih8 _ _ _ _ _ _ _)
   | (with_reducible exact ih9 _ _ _ _ _ _ _ _)
   | (with_reducible exact flow_Check.mono _ _ _ _)
   | (with_reducible exact flow_Field.mono _ _ _ _ _)
   | (with_reducible exact flow_Step.mono _ _ _ _ _ _)
   | (with_reducible exact flow_Walk.mono _ _ _ _ _ _)
   | (with_reducible exact flow_Ways.mono _ _ _ _ _)
   | (with_reducible exact slices_Equal_int_int.mono _ _ _)
   | (with_reducible exact tourref5_Beyond.mono _ _ _ _ _ _)
   | (with_reducible exact tourref5_Costs.mono _ _ _ _ _)
   | (with_reducible exact tourref5_GridFault.mono _ _ _ _)
   | (with_reducible exact LeO.refl _)
   | (with_reducible exact LeO.none _)
   | (with_reducible refine LeO.ite ?_ ?_)
   | (with_reducible refine LeO.bind ?_ (fun _ => ?_))
   | exact ih0 _ _ _ _ _ _ _
   | exact ih1 _ _ _ _ _ _ _
   | exact ih2 _ _ _ _ _ _ _
   | exact ih3 _ _ _ _ _ _
   | exact ih4 _ _ _ _ _ _ _ _ _
   | exact ih5 _ _ _ _ _ _ _ _ _ _ _
   | exact ih6 _ _ _ _ _ _ _ _ _ _ _ _ _ _ _
   | exact ih7 _ _ _ _ _ _ _ _ _
   | exact ih8 _ _ _ _ _ _ _
   | exact ih9 _ _ _ _ _ _ _ _
   | exact flow_Check.mono _ _ _ _
   | exact flow_Field.mono _ _ _ _ _
   | exact flow_Step.mono _ _ _ _ _ _
   | exact flow_Walk.mono _ _ _ _ _ _
   | exact flow_Ways.mono _ _ _ _ _
   | exact slices_Equal_int_int.mono _ _ _
   | exact tourref5_Beyond.mono _ _ _ _ _ _
   | exact tourref5_Costs.mono _ _ _ _ _
   | exact tourref5_GridFault.mono _ _ _ _
   | exact LeO.none _
   | refine LeO.ite ?_ ?_
   | refine LeO.bind ?_ (fun _ => ?_)
theorem tourlaw5_FlowTells.mono : ∀ a0 a1 a2 a3 a4 a5 k, LeO (tourlaw5_FlowTells.f k a0 a1 a2 a3 a4 a5) (tourlaw5_FlowTells.f (k + 1) a0 a1 a2 a3 a4 a5) := by
 intro a0 a1 a2 a3 a4 a5 k
 obtain ⟨ih0, ih1, ih2, ih3, ih4, ih5, ih6, ih7, ih8, ih9⟩ := tourlaw5_FlowTells.mono_l k
 unfold tourlaw5_FlowTells.f
 repeat' first
   | (with_reducible exact ih0 _ _ _ _ _ _ _)
   | (with_reducible exact ih1 _ _ _ _ _ _ _)
   | (with_reducible exact ih2 _ _ _ _ _ _ _)
   | (with_reducible exact ih3 _ _ _ _ _ _)
   | (with_reducible exact ih4 _ _ _ _ _ _ _ _ _)
   | (with_reducible exact ih5 _ _ _ _ _ _ _ _ _ _ _)
   | (with_reducible exact ih6 _ _ _ _ _ _ _ _ _ _ _ _ _ _ _)
   | (with_reducible exact ih7 _ _ _ _ _ _ _ _ _)
   | (with_reducible exact ih8 _ _ _ _ _ _ _)
   | (with_reducible exact ih9 _ _ _ _ _ _ _ _)
   | (with_reducible exact flow_Check.mono _ _ _ _)
   | (with_reducible exact flow_Field.mono _ _ _ _ _)
   | (with_reducible exact flow_Step.mono _ _ _ _ _ _)
   | (with_reducible exact flow_Walk.mono _ _ _ _ _ _)
   | (with_reducible exact flow_Ways.mono _ _ _ _ _)
   | (with_reducible exact slices_Equal_int_int.mono _ _ _)
   | (with_reducible exact tourref5_Beyond.mono _ _ _ _ _ _)
   | (with_reducible exact tourref5_Costs.mono _ _ _ _ _)
   | (with_reducible exact tourref5_GridFault.mono _ _ _ _)
   | (with_reducible exact LeO.refl _)
   | (with_reducible exact LeO.none _)
   | (with_reducible refine LeO.ite ?_ ?_)
   | (with_reducible refine LeO.bind ?_ (fun _ => ?_))
   | exact ih0 _ _ _ _ _ _ _
   | exact ih1 _ _ _ _ _ _ _
   | exact ih2 _ _ _ _ _ _ _
   | exact ih3 _ _ _ _ _ _
   | exact ih4 _ _ _ _ _ _ _ _ _
   | exact ih5 _ _ _ _ _ _ _ _ _ _ _
   | exact ih6 _ _ _ _ _ _ _ _ _ _ _ _ _ _ _
   | exact ih7 _ _ _ _ _ _ _ _ _
   | exact ih8 _ _ _ _ _ _ _
   | exact ih9 _ _ _ _ _ _ _ _
   | exact flow_Check.mono _ _ _ _
   | exact flow_Field.mono _ _ _ _ _
   | exact flow_Step.mono _ _ _ _ _ _
   | exact flow_Walk.mono _ _ _ _ _ _
   | exact flow_Ways.mono _ _ _ _ _
   | exact slices_Equal_int_int.mono _ _ _
   | exact tourref5_Beyond.mono _ _ _ _ _ _
   | exact tourref5_Costs.mono _ _ _ _ _
   | exact tourref5_GridFault.mono _ _ _ _
   | exact LeO.none _
   | refine LeO.ite ?_ ?_
   | refine LeO.bind ?_ (fun _ => ?_)
def tourlaw5_FlowTells.T4 : Bool × List (List Nat × List Nat) := (true, [([], []), ([0], [0]), ([], []), ([1, 2], [1, 2]), ([3, 1], [3]), ([4], [4]), ([4], [4]), ([4], [4]), ([5, 6, 7, 4, 4], [4, 5, 6, 7]), ([4], [4]), ([4], [4]), ([4], [4]), ([9, 10, 11, 8, 4], [4, 9, 10, 11]), ([8, 12, 4], [4, 8, 12]), ([4, 13], [4, 13])])
def tourlaw5_FlowTells.B4 : List Nat := [0, 1, 0, 7, 15, 31, 31, 31, 255, 31, 31, 31, 4095, 8191, 16383]
theorem tourlaw5_FlowTells.tab4 : rtab .any (opsOf Try.f6 4) = tourlaw5_FlowTells.T4 := by kernel_rfl
theorem tourlaw5_FlowTells.bits4 : waitsOk tourlaw5_FlowTells.T4.2 tourlaw5_FlowTells.B4 = true := by kernel_rfl
def tourlaw5_FlowTells.T24 : Bool × List (List Nat × List Nat) := (true, [([], []), ([], []), ([0, 1], [0, 1]), ([2], [2]), ([3], [3]), ([4], [4]), ([5], [5]), ([6, 5], [5, 6]), ([5, 7], [5, 7]), ([8, 5], [8]), ([9], [9]), ([9], [9]), ([10, 11, 9], [9, 10, 11]), ([12, 9], [9, 12]), ([13, 9], [9, 13]), ([9, 14], [9, 14]), ([15, 9], [15]), ([16], [16]), ([16], [16]), ([17, 18, 16], [16, 17, 18]), ([19, 16], [16, 19]), ([16], [16]), ([21, 16], [16, 21]), ([16], [16]), ([22, 23, 16], [16, 22, 23]), ([24, 16], [16, 24]), ([20, 25, 16], [16, 20, 25]), ([16], [16]), ([16], [16]), ([27, 28, 16], [16, 27, 28]), ([29, 16], [16, 29]), ([26, 30, 16], [16, 26, 30]), ([16, 31], [16, 31])])
def tourlaw5_FlowTells.B24 : List Nat := [0, 0, 3, 7, 15, 31, 63, 127, 255, 511, 1023, 1023, 4095, 8191, 16383, 32767, 65535, 131071, 131071, 524287, 1048575, 131071, 2228223, 131071, 14811135, 31588351, 67108863, 131071, 131071, 402784255, 939655167, 2147483647, 4294967295]
theorem tourlaw5_FlowTells.tab24 : rtab .any (opsOf Try.f6 24) = tourlaw5_FlowTells.T24 := by kernel_rfl
theorem tourlaw5_FlowTells.bits24 : waitsOk tourlaw5_FlowTells.T24.2 tourlaw5_FlowTells.B24 = true := by kernel_rfl
def tourlaw5_FlowTells.T34 : Bool × List (List Nat × List Nat) := (true, [([], []), ([], []), ([], []), ([], []), ([2, 3], [2, 3]), ([4], [4]), ([0, 1, 5], [0, 1, 5]), ([6, 6, 0, 1, 2, 3, 4, 5, 6], [1, 3, 6])])
def tourlaw5_FlowTells.B34 : List Nat := [0, 0, 0, 0, 12, 28, 63, 127]
theorem tourlaw5_FlowTells.tab34 : rtab .any (opsOf Try.f6 34) = tourlaw5_FlowTells.T34 := by kernel_rfl
theorem tourlaw5_FlowTells.bits34 : waitsOk tourlaw5_FlowTells.T34.2 tourlaw5_FlowTells.B34 = true := by kernel_rfl
end Go.Proofs.Ytmpfboilodlfnaa.PFlowMade
