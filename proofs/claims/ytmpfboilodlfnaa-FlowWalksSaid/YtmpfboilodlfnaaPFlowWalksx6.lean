-- Printed by a program: the print with changes of this session (wip/printpatch.py).
import Derived.Test.YtmpfboilodlfnaaPFlowWalksx0
import Derived.Test.YtmpfboilodlfnaaPFlowWalksx2
import Derived.Test.YtmpfboilodlfnaaPFlowWalksx3
import Derived.Test.YtmpfboilodlfnaaPFlowWalksx5
namespace Go.Proofs.Ytmpfboilodlfnaa.PFlowWalks
open Go.Proofs.Ytmpfboilodlfnaa.Fnv Go.Proofs.Ytmpfboilodlfnaa.Ary
open Go.RowKit Go.Proofs.YtmpfboilodlfnaaW.PrintWords Go.Proofs.YtmpfboilodlfnaaW.PrintLast Go.Proofs.YtmpfboilodlfnaaW.PrintMore
attribute [local go_sem] max2_int min2_int max_two min_two max_three min_three max_four min_four   -- for this text's walks alone
set_option linter.unusedVariables false
set_option linter.unusedSimpArgs false

/-! ### tourkeep5_FlowWalks: function 5 -/
mutual
def tourkeep5_FlowWalks.j0 : Nat → Int → List Int → List Int → List Int → Int → Bool → Int → Int → List Int → Option (Bool)
 | 0, _, _, _, _, _, _, _, _, _ => none
 | k + 1, x2, x8, x9, x11, x12, x52, x189000, x189001, x189002 => if x52 = true then (none) else (if x12 = 0 then (if (x11.length : Int) = 0 then (tourkeep5_FlowWalks.j1 k x2 x9 x11 true x189000 x189001 x189002) else (if 0 < (x11.length : Int) then (if (rd x11 0) = x2 then (if 0 ≤ (wrap64 ((x11.length : Int) - 1)) then (if (wrap64 ((x11.length : Int) - 1)) < (x11.length : Int) then ((slices_Contains_int_int.f k x8 (rd x11 (wrap64 ((x11.length : Int) - 1)))).bind fun t204 => (tourkeep5_FlowWalks.j1 k x2 x9 x11 (!t204) x189000 x189001 x189002)) else (none)) else (none)) else (tourkeep5_FlowWalks.j1 k x2 x9 x11 true x189000 x189001 x189002)) else (none))) else (if x12 = 4 then (if 0 ≤ x2 then (if x2 < (x9.length : Int) then (if (rd x9 x2) < 0 then (some ((x11.length : Int) == 0)) else (none)) else (none)) else (none)) else (none)))
def tourkeep5_FlowWalks.j1 : Nat → Int → List Int → List Int → Bool → Int → Int → List Int → Option (Bool)
 | 0, _, _, _, _, _, _, _ => none
 | k + 1, x2, x9, x11, x89, x189000, x189001, x189002 => if x89 = true then (none) else (tourkeep5_FlowWalks.l0 k x2 x9 x11 0 x11 (x11.length : Int) 0 x189000 x189001 x189002)
def tourkeep5_FlowWalks.l0 : Nat → Int → List Int → List Int → Int → List Int → Int → Int → Int → Int → List Int → Option (Bool)
 | 0, _, _, _, _, _, _, _, _, _, _ => none
 | k + 1, x2, x9, x11, x13, x90, x91, x92, x189000, x189001, x189002 => if x92 < x91 then (if 0 ≤ x92 then (if x92 < (x90.length : Int) then (if (rd x90 x92) < 0 then (tourkeep5_FlowWalks.j3 k x2 x9 x11 x13 x92 (rd x90 x92) x90 x91 x92 true x189000 x189001 x189002) else (if (rd x90 x92) ≥ (x9.length : Int) then (tourkeep5_FlowWalks.j3 k x2 x9 x11 x13 x92 (rd x90 x92) x90 x91 x92 true x189000 x189001 x189002) else (if x92 ≤ (x11.length : Int) then ((slices_Contains_int_int.f k (x11.take (x92 : Int).toNat) (rd x90 x92)).bind fun t211 => (tourkeep5_FlowWalks.j3 k x2 x9 x11 x13 x92 (rd x90 x92) x90 x91 x92 t211 x189000 x189001 x189002)) else (none)))) else (none)) else (none)) else (if 0 ≤ x2 then (if x2 < (x9.length : Int) then (some (x13 == (rd x9 x2))) else (none)) else (none))
def tourkeep5_FlowWalks.j3 : Nat → Int → List Int → List Int → Int → Int → Int → List Int → Int → Int → Bool → Int → Int → List Int → Option (Bool)
 | 0, _, _, _, _, _, _, _, _, _, _, _, _, _ => none
 | k + 1, x2, x9, x11, x13, x14, x15, x90, x91, x92, x111, x189000, x189001, x189002 => if x111 = true then (none) else (if x14 > 0 then (if 0 ≤ x15 then (if x15 < (x189002.length : Int) then (tourkeep5_FlowWalks.l0 k x2 x9 x11 (wrap64 (x13 + (rd x189002 x15))) x90 x91 (wrap64 (x92 + 1)) x189000 x189001 x189002) else (none)) else (none)) else (tourkeep5_FlowWalks.l0 k x2 x9 x11 x13 x90 x91 (wrap64 (x92 + 1)) x189000 x189001 x189002))
end
def tourkeep5_FlowWalks.f (k : Nat) (l0 : List Int) (l1 : List Int) (a2 : Int) : Option (Bool) := (tourkeep5_flows.f k).bind fun t182 => (if t182 = true then ((tourref5_Grid.f k l0).bind fun bt183 => ((tourkeep5_within.f k l1 (bt183.2.2.length : Int)).bind fun t189 => ((tourref5_Below.f a2 (bt183.2.2.length : Int)).bind fun t192 => ((flow_Field.f k bt183.1 bt183.2.1 bt183.2.2 t189).bind fun bt193 => ((flow_Walk.f k bt183.1 bt183.2.1 bt183.2.2 t189 t192).bind fun bt197 => (if bt193.2 = 0 then (tourkeep5_FlowWalks.j0 k t192 t189 bt193.1 bt197.1 bt197.2 ((bt193.1.length : Int) != (bt183.2.2.length : Int)) bt183.1 bt183.2.1 bt183.2.2) else (tourkeep5_FlowWalks.j0 k t192 t189 bt193.1 bt197.1 bt197.2 true bt183.1 bt183.2.1 bt183.2.2))))))) else (none))
theorem tourkeep5_FlowWalks.mono_l : ∀ k, (∀ y0 y1 y2 y3 y4 y5 y6 y7 y8, LeO (tourkeep5_FlowWalks.j0 k y0 y1 y2 y3 y4 y5 y6 y7 y8) (tourkeep5_FlowWalks.j0 (k + 1) y0 y1 y2 y3 y4 y5 y6 y7 y8)) ∧ (∀ y0 y1 y2 y3 y4 y5 y6, LeO (tourkeep5_FlowWalks.j1 k y0 y1 y2 y3 y4 y5 y6) (tourkeep5_FlowWalks.j1 (k + 1) y0 y1 y2 y3 y4 y5 y6)) ∧ (∀ y0 y1 y2 y3 y4 y5 y6 y7 y8 y9, LeO (tourkeep5_FlowWalks.l0 k y0 y1 y2 y3 y4 y5 y6 y7 y8 y9) (tourkeep5_FlowWalks.l0 (k + 1) y0 y1 y2 y3 y4 y5 y6 y7 y8 y9)) ∧ (∀ y0 y1 y2 y3 y4 y5 y6 y7 y8 y9 y10 y11 y12, LeO (tourkeep5_FlowWalks.j3 k y0 y1 y2 y3 y4 y5 y6 y7 y8 y9 y10 y11 y12) (tourkeep5_FlowWalks.j3 (k + 1) y0 y1 y2 y3 y4 y5 y6 y7 y8 y9 y10 y11 y12))
 | 0 => ⟨fun _ _ _ _ _ _ _ _ _ r h => by simp [tourkeep5_FlowWalks.j0] at h, fun _ _ _ _ _ _ _ r h => by simp [tourkeep5_FlowWalks.j1] at h, fun _ _ _ _ _ _ _ _ _ _ r h => by simp [tourkeep5_FlowWalks.l0] at h, fun _ _ _ _ _ _ _ _ _ _ _ _ _ r h => by simp [tourkeep5_FlowWalks.j3] at h⟩
 | k + 1 => by
  obtain ⟨ih0, ih1, ih2, ih3⟩ := tourkeep5_FlowWalks.mono_l k
  refine ⟨?_, ?_, ?_, ?_⟩
  ·intro y0 y1 y2 y3 y4 y5 y6 y7 y8
   unfold tourkeep5_FlowWalks.j0
   repeat' first
   | (with_reducible exact ih0 _ _ _ _ _ _ _ _ _)
   | (with_reducible exact ih1 _ _ _ _ _ _ _)
   | (with_reducible exact ih2 _ _ _ _ _ _ _ _ _ _)
   | (with_reducible exact ih3 _ _ _ _ _ _ _ _ _ _ _ _ _)
   | (with_reducible exact flow_Field.mono _ _ _ _ _)
   | (with_reducible exact flow_Walk.mono _ _ _ _ _ _)
   | (with_reducible exact slices_Contains_int_int.mono _ _ _)
   | (with_reducible exact tourkeep5_flows.mono _)
   | (with_reducible exact tourkeep5_within.mono _ _ _)
   | (with_reducible exact tourref5_Grid.mono _ _)
   | (with_reducible exact LeO.refl _)
   | (with_reducible exact LeO.none _)
   | (with_reducible refine LeO.ite ?_ ?_)
   | (with_reducible refine LeO.bind ?_ (fun _ => ?_))
   | exact ih0 _ _ _ _ _ _ _ _ _
   | exact ih1 _ _ _ _ _ _ _
   | exact ih2 _ _ _ _ _ _ _ _ _ _
   | exact ih3 _ _ _ _ _ _ _ _ _ _ _ _ _
   | exact flow_Field.mono _ _ _ _ _
   | exact flow_Walk.mono _ _ _ _ _ _
   | exact slices_Contains_int_int.mono _ _ _
   | exact tourkeep5_flows.mono _
   | exact tourkeep5_within.mono _ _ _
   | exact tourref5_Grid.mono _ _
   | exact LeO.none _
   | refine LeO.ite ?_ ?_
   | refine LeO.bind ?_ (fun _ => ?_)
  ·intro y0 y1 y2 y3 y4 y5 y6
   unfold tourkeep5_FlowWalks.j1
   repeat' first
   | (with_reducible exact ih0 _ _ _ _ _ _ _ _ _)
   | (with_reducible exact ih1 _ _ _ _ _ _ _)
   | (with_reducible exact ih2 _ _ _ _ _ _ _ _ _ _)
   | (with_reducible exact ih3 _ _ _ _ _ _ _ _ _ _ _ _ _)
   | (with_reducible exact flow_Field.mono _ _ _ _ _)
   | (with_reducible exact flow_Walk.mono _ _ _ _ _ _)
   | (with_reducible exact slices_Contains_int_int.mono _ _ _)
   | (with_reducible exact tourkeep5_flows.mono _)
   | (with_reducible exact tourkeep5_within.mono _ _ _)
   | (with_reducible exact tourref5_Grid.mono _ _)
   | (with_reducible exact LeO.refl _)
   | (with_reducible exact LeO.none _)
   | (with_reducible refine LeO.ite ?_ ?_)
   | (with_reducible refine LeO.bind ?_ (fun _ => ?_))
   | exact ih0 _ _ _ _ _ _ _ _ _
   | exact ih1 _ _ _ _ _ _ _
   | exact ih2 _ _ _ _ _ _ _ _ _ _
   | exact ih3 _ _ _ _ _ _ _ _ _ _ _ _ _
   | exact flow_Field.mono _ _ _ _ _
   | exact flow_Walk.mono _ _ _ _ _ _
   | exact slices_Contains_int_int.mono _ _ _
   | exact tourkeep5_flows.mono _
   | exact tourkeep5_within.mono _ _ _
   | exact tourref5_Grid.mono _ _
   | exact LeO.none _
   | refine LeO.ite ?_ ?_
   | refine LeO.bind ?_ (fun _ => ?_)
  ·intro y0 y1 y2 y3 y4 y5 y6 y7 y8 y9
   unfold tourkeep5_FlowWalks.l0
   repeat' first
   | (with_reducible exact ih0 _ _ _ _ _ _ _ _ _)
   | (with_reducible exact ih1 _ _ _ _ _ _ _)
   | (with_reducible exact ih2 _ _ _ _ _ _ _ _ _ _)
   | (with_reducible exact ih3 _ _ _ _ _ _ _ _ _ _ _ _ _)
   | (with_reducible exact flow_Field.mono _ _ _ _ _)
   | (with_reducible exact flow_Walk.mono _ _ _ _ _ _)
   | (with_reducible exact slices_Contains_int_int.mono _ _ _)
   | (with_reducible exact tourkeep5_flows.mono _)
   | (with_reducible exact tourkeep5_within.mono _ _ _)
   | (with_reducible exact tourref5_Grid.mono _ _)
   | (with_reducible exact LeO.refl _)
   | (with_reducible exact LeO.none _)
   | (with_reducible refine LeO.ite ?_ ?_)
   | (with_reducible refine LeO.bind ?_ (fun _ => ?_))
   | exact ih0 _ _ _ _ _ _ _ _ _
   | exact ih1 _ _ _ _ _ _ _
   | exact ih2 _ _ _ _ _ _ _ _ _ _
   | exact ih3 _ _ _ _ _ _ _ _ _ _ _ _ _
   | exact flow_Field.mono _ _ _ _ _
   | exact flow_Walk.mono _ _ _ _ _ _
   | exact slices_Contains_int_int.mono _ _ _
   | exact tourkeep5_flows.mono _
   | exact tourkeep5_within.mono _ _ _
   | exact tourref5_Grid.mono _ _
   | exact LeO.none _
   | refine LeO.ite ?_ ?_
   | refine LeO.bind ?_ (fun _ => ?_)
  ·intro y0 y1 y2 y3 y4 y5 y6 y7 y8 y9 y10 y11 y12
   unfold tourkeep5_FlowWalks.j3
   repeat' first
   | (with_reducible exact ih0 _ _ _ _ _ _ _ _ _)
   | (with_reducible exact ih1 _ _ _ _ _ _ _)
   | (with_reducible exact ih2 _ _ _ _ _ _ _ _ _ _)
   | (with_reducible exact ih3 _ _ _ _ _ _ _ _ _ _ _ _ _)
   | (with_reducible exact flow_Field.mono _ _ _ _ _)
   | (with_reducible exact flow_Walk.mono _ _ _ _ _ _)
   | (with_reducible exact slices_Contains_int_int.mono _ _ _)
   | (with_reducible exact tourkeep5_flows.mono _)
   | (with_reducible exact tourkeep5_within.mono _ _ _)
   | (with_reducible exact tourref5_Grid.mono _ _)
   | (with_reducible exact LeO.refl _)
   | (with_reducible exact LeO.none _)
   | (with_reducible refine LeO.ite ?_ ?_)
   | (with_reducible refine LeO.bind ?_ (fun _ => ?_))
   | exact ih0 _ _ _ _ _ _ _ _ _
   | exact ih1 _ _ _ _ _ _ _
   | exact ih2 _ _ _ _ _ _ _ _ _ _
   | exact ih3 _ _ _ _ _ _ _ _ _ _ _ _ _
   | exact flow_Field.mono _ _ _ _ _
   | exact flow_Walk.mono _ _ _ _ _ _
   | exact slices_Contains_int_int.mono _ _ _
   | exact tourkeep5_flows.mono _
   | exact tourkeep5_within.mono _ _ _
   | exact tourref5_Grid.mono _ _
   | exact LeO.none _
   | refine LeO.ite ?_ ?_
   | refine LeO.bind ?_ (fun _ => ?_)
theorem tourkeep5_FlowWalks.mono : ∀ a0 a1 a2 k, LeO (tourkeep5_FlowWalks.f k a0 a1 a2) (tourkeep5_FlowWalks.f (k + 1) a0 a1 a2) := by
 intro a0 a1 a2 k
 obtain ⟨ih0, ih1, ih2, ih3⟩ := tourkeep5_FlowWalks.mono_l k
 unfold tourkeep5_FlowWalks.f
 repeat' first
   | (with_reducible exact ih0 _ _ _ _ _ _ _ _ _)
   | (with_reducible exact ih1 _ _ _ _ _ _ _)
   | (with_reducible exact ih2 _ _ _ _ _ _ _ _ _ _)
   | (with_reducible exact ih3 _ _ _ _ _ _ _ _ _ _ _ _ _)
   | (with_reducible exact flow_Field.mono _ _ _ _ _)
   | (with_reducible exact flow_Walk.mono _ _ _ _ _ _)
   | (with_reducible exact slices_Contains_int_int.mono _ _ _)
   | (with_reducible exact tourkeep5_flows.mono _)
   | (with_reducible exact tourkeep5_within.mono _ _ _)
   | (with_reducible exact tourref5_Grid.mono _ _)
   | (with_reducible exact LeO.refl _)
   | (with_reducible exact LeO.none _)
   | (with_reducible refine LeO.ite ?_ ?_)
   | (with_reducible refine LeO.bind ?_ (fun _ => ?_))
   | exact ih0 _ _ _ _ _ _ _ _ _
   | exact ih1 _ _ _ _ _ _ _
   | exact ih2 _ _ _ _ _ _ _ _ _ _
   | exact ih3 _ _ _ _ _ _ _ _ _ _ _ _ _
   | exact flow_Field.mono _ _ _ _ _
   | exact flow_Walk.mono _ _ _ _ _ _
   | exact slices_Contains_int_int.mono _ _ _
   | exact tourkeep5_flows.mono _
   | exact tourkeep5_within.mono _ _ _
   | exact tourref5_Grid.mono _ _
   | exact LeO.none _
   | refine LeO.ite ?_ ?_
   | refine LeO.bind ?_ (fun _ => ?_)
set_option maxHeartbeats 8000000 in
set_option maxRecDepth 100000 in
theorem tourkeep5_FlowWalks.calls (k : Nat) (A0 : Option Addr) (c0 : Nat) (l0 : List Int) (A1 : Option Addr) (c1 : Nat) (l1 : List Int) (a2 : Int) (r : Bool) (w : World) (hr0 : Kd.C (Kd.int .i64) w A0 l0.length l0) (hc0 : l0.length ≤ c0) (hr1 : Kd.C (Kd.int .i64) w A1 l1.length l1) (hc1 : l1.length ≤ c1) (h : tourkeep5_FlowWalks.f k l0 l1 a2 = some r) :
  Calls Try.prog 5 #[.slice A0 l0.length c0, .slice A1 l1.length c1, .int .i64 a2] w fun e w' => e = .returned (.bool r) ∧ Below w.heap.size w w' := by
 have hu25 := Try.underlying25
 have HR0 := Aside0.mk hr0
 have HC0 := Aside0.mk hc0
 clear hr0 hc0
 have HR1 := Aside0.mk hr1
 have HC1 := Aside0.mk hc1
 clear hr1 hc1
 have HB := Aside0.mk (Below.refl w.heap.size w)
 have H : ((tourkeep5_flows.f k).bind fun t182 => (if t182 = true then ((tourref5_Grid.f k l0).bind fun bt183 => ((tourkeep5_within.f k l1 (bt183.2.2.length : Int)).bind fun t189 => ((tourref5_Below.f a2 (bt183.2.2.length : Int)).bind fun t192 => ((flow_Field.f k bt183.1 bt183.2.1 bt183.2.2 t189).bind fun bt193 => ((flow_Walk.f k bt183.1 bt183.2.1 bt183.2.2 t189 t192).bind fun bt197 => (if bt193.2 = 0 then (tourkeep5_FlowWalks.j0 k t192 t189 bt193.1 bt197.1 bt197.2 ((bt193.1.length : Int) != (bt183.2.2.length : Int)) bt183.1 bt183.2.1 bt183.2.2) else (tourkeep5_FlowWalks.j0 k t192 t189 bt193.1 bt197.1 bt197.2 true bt183.1 bt183.2.1 bt183.2.2))))))) else (none))) = some r := h
 clear h
 replace H := Option.bind_eq_some_iff.mp H
 obtain ⟨t182, A40, H⟩ := H
 replace H : (if t182 = true then ((tourref5_Grid.f k l0).bind fun bt183 => ((tourkeep5_within.f k l1 (bt183.2.2.length : Int)).bind fun t189 => ((tourref5_Below.f a2 (bt183.2.2.length : Int)).bind fun t192 => ((flow_Field.f k bt183.1 bt183.2.1 bt183.2.2 t189).bind fun bt193 => ((flow_Walk.f k bt183.1 bt183.2.1 bt183.2.2 t189 t192).bind fun bt197 => (if bt193.2 = 0 then (tourkeep5_FlowWalks.j0 k t192 t189 bt193.1 bt197.1 bt197.2 ((bt193.1.length : Int) != (bt183.2.2.length : Int)) bt183.1 bt183.2.1 bt183.2.2) else (tourkeep5_FlowWalks.j0 k t192 t189 bt193.1 bt197.1 bt197.2 true bt183.1 bt183.2.1 bt183.2.2))))))) else (none)) = some r := H
 have A4 := Aside0.mk A40
 clear A40
 by_cases c5 : t182 = true
 ·subst c5
  have H1 : ((tourref5_Grid.f k l0).bind fun bt183 => ((tourkeep5_within.f k l1 (bt183.2.2.length : Int)).bind fun t189 => ((tourref5_Below.f a2 (bt183.2.2.length : Int)).bind fun t192 => ((flow_Field.f k bt183.1 bt183.2.1 bt183.2.2 t189).bind fun bt193 => ((flow_Walk.f k bt183.1 bt183.2.1 bt183.2.2 t189 t192).bind fun bt197 => (if bt193.2 = 0 then (tourkeep5_FlowWalks.j0 k t192 t189 bt193.1 bt197.1 bt197.2 ((bt193.1.length : Int) != (bt183.2.2.length : Int)) bt183.1 bt183.2.1 bt183.2.2) else (tourkeep5_FlowWalks.j0 k t192 t189 bt193.1 bt197.1 bt197.2 true bt183.1 bt183.2.1 bt183.2.2))))))) = some r := by rw [if_pos rfl] at H; exact H
  clear H
  have H := H1
  clear H1
  replace H := Option.bind_eq_some_iff.mp H
  obtain ⟨⟨t183, t184, t185⟩, A60, H⟩ := H
  replace H : ((tourkeep5_within.f k l1 (t185.length : Int)).bind fun t189 => ((tourref5_Below.f a2 (t185.length : Int)).bind fun t192 => ((flow_Field.f k t183 t184 t185 t189).bind fun bt193 => ((flow_Walk.f k t183 t184 t185 t189 t192).bind fun bt197 => (if bt193.2 = 0 then (tourkeep5_FlowWalks.j0 k t192 t189 bt193.1 bt197.1 bt197.2 ((bt193.1.length : Int) != (t185.length : Int)) t183 t184 t185) else (tourkeep5_FlowWalks.j0 k t192 t189 bt193.1 bt197.1 bt197.2 true t183 t184 t185)))))) = some r := H
  have A6 := Aside0.mk A60
  clear A60
  replace H := Option.bind_eq_some_iff.mp H
  obtain ⟨t189, A70, H⟩ := H
  replace H : ((tourref5_Below.f a2 (t185.length : Int)).bind fun t192 => ((flow_Field.f k t183 t184 t185 t189).bind fun bt193 => ((flow_Walk.f k t183 t184 t185 t189 t192).bind fun bt197 => (if bt193.2 = 0 then (tourkeep5_FlowWalks.j0 k t192 t189 bt193.1 bt197.1 bt197.2 ((bt193.1.length : Int) != (t185.length : Int)) t183 t184 t185) else (tourkeep5_FlowWalks.j0 k t192 t189 bt193.1 bt197.1 bt197.2 true t183 t184 t185))))) = some r := H
  have A7 := Aside0.mk A70
  clear A70
  replace H := Option.bind_eq_some_iff.mp H
  obtain ⟨t192, A80, H⟩ := H
  replace H : ((flow_Field.f k t183 t184 t185 t189).bind fun bt193 => ((flow_Walk.f k t183 t184 t185 t189 t192).bind fun bt197 => (if bt193.2 = 0 then (tourkeep5_FlowWalks.j0 k t192 t189 bt193.1 bt197.1 bt197.2 ((bt193.1.length : Int) != (t185.length : Int)) t183 t184 t185) else (tourkeep5_FlowWalks.j0 k t192 t189 bt193.1 bt197.1 bt197.2 true t183 t184 t185)))) = some r := H
  have A8 := Aside0.mk A80
  clear A80
  replace H := Option.bind_eq_some_iff.mp H
  obtain ⟨⟨t193, t196⟩, A90, H⟩ := H
  replace H : ((flow_Walk.f k t183 t184 t185 t189 t192).bind fun bt197 => (if t196 = 0 then (tourkeep5_FlowWalks.j0 k t192 t189 t193 bt197.1 bt197.2 ((t193.length : Int) != (t185.length : Int)) t183 t184 t185) else (tourkeep5_FlowWalks.j0 k t192 t189 t193 bt197.1 bt197.2 true t183 t184 t185))) = some r := H
  have A9 := Aside0.mk A90
  clear A90
  replace H := Option.bind_eq_some_iff.mp H
  obtain ⟨⟨t197, t200⟩, A100, H⟩ := H
  replace H : (if t196 = 0 then (tourkeep5_FlowWalks.j0 k t192 t189 t193 t197 t200 ((t193.length : Int) != (t185.length : Int)) t183 t184 t185) else (tourkeep5_FlowWalks.j0 k t192 t189 t193 t197 t200 true t183 t184 t185)) = some r := H
  have A10 := Aside0.mk A100
  clear A100
  have HC11 := Aside0.mk H
  clear H
  go_enter Try.func5, Try.ntmps5
  go_upto_region 8 with (first | ((with_reducible refine gate_callee (f := 8) rfl ?_); refine goesL_ (some 16) rfl rfl Try.func8 (by kernel_rfl) rfl #[] rfl (by (try simp only [List.map_toArray, List.map_cons, List.map_nil]); first | done | rfl | (simp only [List.length_drop, List.length_take]; rfl)) ?_; (with_reducible refine (tourkeep5_flows.calls k  true _ A4.out).mono ?_); rintro e w12 ⟨rfl, hb⟩; refine ⟨_, rfl, ?_⟩; have n0_ := Aside0.mk (below_step (by repeat (first | (with_reducible first | exact HB.out | apply below_alloc | apply pw_below_drewN | apply below_drew1) | exact HB.out)) hb); clear HB; have HB := n0_; clear n0_; (try clear hb); (try clear hb2); (try clear hk); (try clear hi)) | ((with_reducible refine gate_callee (f := 9) rfl ?_); refine goesL_ (some 19) rfl rfl Try.func9 (by kernel_rfl) rfl #[.slice A0 l0.length c0] rfl (by (try simp only [List.map_toArray, List.map_cons, List.map_nil]); first | done | rfl | (simp only [List.length_drop, List.length_take]; rfl)) ?_; (with_reducible refine (tourref5_Grid.calls k _ _ l0 t183 t184 t185 _ ?side1 ?side2 A6.out).mono ?_); (case side1 => repeat (first | exact (Kd.C_below HR0.out HB.out) | (with_reducible refine Kd.C_alloc ?_ _) | (with_reducible refine Kd.C_drewN ?_ _) | (with_reducible refine Kd.C_drew ?_))); (case side2 => exact HC0.out); rintro e w13 ⟨v186, rfl, ho0, hb⟩; refine ⟨_, rfl, ?_⟩; have n0_ := Aside0.mk (Kd.R_lower ho0 (below_size (by repeat (first | (with_reducible first | exact HB.out | apply below_alloc | apply pw_below_drewN | apply below_drew1) | exact HB.out)))); have n1_ := Aside0.mk (below_step (by repeat (first | (with_reducible first | exact HB.out | apply below_alloc | apply pw_below_drewN | apply below_drew1) | exact HB.out)) hb); clear HB; have HO187 := n0_; have HB := n1_; clear n0_ n1_; (try clear hb); (try clear hb2); (try clear hk); (try clear hi); (try clear ho0)) | ((with_reducible refine gate_dst (N := 7) rfl ?_); (try (refine gate_guard (by rfl) ?_; dsimp only)); refine box_event ?hg (N := 7) ?hd (cs := #[.int .i64 0, .int .i64 0, .slice none 0 0]) (t := 25) ?hr ?_; (case hd => rfl); (case hg => rfl); (case hr => first | (go_simp; done) | (go_simp; rfl)); intro gb188 hg w14 hbox hb; have n0_ := Aside0.mk (Kd.R_below (by (with_reducible repeat (first | apply Kd.R_alloc | apply Kd.R_drewN | apply Kd.R_drew)); exact HO187.out) hb); have n1_ := Aside0.mk (below_step (by repeat (first | (with_reducible first | exact HB.out | apply below_alloc | apply pw_below_drewN | apply below_drew1) | exact HB.out)) hb); have n2_ := Aside0.mk (hbox); have n3_ := Aside0.mk ((by rw [hg]; exact (below_size (by repeat (first | (with_reducible first | exact HB.out | apply below_alloc | apply pw_below_drewN | apply below_drew1) | exact HB.out))) : w.heap.size ≤ gb188)); have n4_ := Aside0.mk ((by rw [hg]; exact (below_size (by repeat (first | (with_reducible first | exact HB.out | apply below_alloc | apply pw_below_drewN | apply below_drew1) | exact HB.out))) : w.heap.size ≤ gb188)); clear HO187; clear HB; have HO187 := n0_; have HB := n1_; have BK188 := n2_; have GW188 := n3_; have GE188 := n4_; clear n0_ n1_ n2_ n3_ n4_; clear hb hbox hg; have hcz15_0 : w14.cell? ⟨gb188, 0, none⟩ = some (.int .i64 0) := (blk_cell BK188.out 0).trans rfl; have hcz15_1 : w14.cell? ⟨gb188, 1, none⟩ = some (.int .i64 0) := (blk_cell BK188.out 1).trans rfl; have hcz15_2 : w14.cell? ⟨gb188, 2, none⟩ = some (.slice none 0 0) := (blk_cell BK188.out 2).trans rfl; have hfz15_0 := blk_frozen BK188.out 0; have hfz15_1 := blk_frozen BK188.out 1; have hfz15_2 := blk_frozen BK188.out 2; obtain ⟨Ao16, co16, eo16⟩ := Kd.R_slice HO187.out; subst eo16) | ((with_reducible refine gate_callee (f := 11) rfl ?_); refine goesL_ (some 24) rfl rfl Try.func11 (by kernel_rfl) rfl #[.slice A1 l1.length c1, .int .i64 (t185.length : Int)] rfl (by (try simp only [List.map_toArray, List.map_cons, List.map_nil]); first | done | rfl | (simp only [List.length_drop, List.length_take]; rfl)) ?_; (with_reducible refine (tourkeep5_within.calls k _ _ l1 (t185.length : Int) t189 _ ?side1 ?side2 A7.out).mono ?_); (case side1 => exact Kd.C_below HR1.out (by repeat (first | (with_reducible first | exact HB.out | apply below_alloc | apply pw_below_drewN | apply below_drew1 | refine below_set ?_ GE188.out) | exact HB.out))); (case side2 => exact HC1.out); rintro e w17 ⟨v190, rfl, ho0, hb⟩; refine ⟨_, rfl, ?_⟩; have n0_ := Aside0.mk (Kd.R_elder' (by (with_reducible repeat (first | apply Kd.R_alloc | apply Kd.R_drewN | apply Kd.R_drew)); exact (Kd.R_mono (Kd.R_far (p := ⟨gb188, 2, none⟩) (Kd.R_far (p := ⟨gb188, 1, none⟩) (Kd.R_far (p := ⟨gb188, 0, none⟩) (Kd.R_types HO187.out BK188.out (by decide)) (fun _ hk => hk.2) (.int .i64 t183)) (fun _ hk => hk.2) (.int .i64 t184)) (fun _ hk => hk.2) (.slice Ao16 t185.length co16)) (fun _ h_ => h_.1))) (Kd.R_base ho0) hb); have n1_ := Aside0.mk (Kd.R_lower (Kd.R_new' ho0 (Kd.R_lt (by (with_reducible repeat (first | apply Kd.R_alloc | apply Kd.R_drewN | apply Kd.R_drew)); exact (Kd.R_mono (Kd.R_far (p := ⟨gb188, 2, none⟩) (Kd.R_far (p := ⟨gb188, 1, none⟩) (Kd.R_far (p := ⟨gb188, 0, none⟩) (Kd.R_types HO187.out BK188.out (by decide)) (fun _ hk => hk.2) (.int .i64 t183)) (fun _ hk => hk.2) (.int .i64 t184)) (fun _ hk => hk.2) (.slice Ao16 t185.length co16)) (fun _ h_ => h_.1))))) (below_size (by repeat (first | (with_reducible first | exact HB.out | apply below_alloc | apply pw_below_drewN | apply below_drew1 | refine below_set ?_ GE188.out) | exact HB.out)))); have n2_ := Aside0.mk (blk_below (g := gb188) (o := .cells #[.int .i64 t183, .int .i64 t184, .slice Ao16 t185.length co16] 25 (0, 0)) (by (with_reducible repeat (first | refine blk_drewN ?_ _ | refine blk_drew ?_ | refine blk_alloc ?_ _)); refine blk_put (cs := #[.int .i64 t183, .int .i64 t184, .slice none 0 0]) ?_ 2 _ rfl; (with_reducible repeat (first | refine blk_drewN ?_ _ | refine blk_drew ?_ | refine blk_alloc ?_ _)); refine blk_put (cs := #[.int .i64 t183, .int .i64 0, .slice none 0 0]) ?_ 1 _ rfl; (with_reducible repeat (first | refine blk_drewN ?_ _ | refine blk_drew ?_ | refine blk_alloc ?_ _)); refine blk_put (cs := #[.int .i64 0, .int .i64 0, .slice none 0 0]) ?_ 0 _ rfl; (with_reducible repeat (first | refine blk_drewN ?_ _ | refine blk_drew ?_ | refine blk_alloc ?_ _)); exact BK188.out) hb); have n3_ := Aside0.mk (below_step (by repeat (first | (with_reducible first | exact HB.out | apply below_alloc | apply pw_below_drewN | apply below_drew1 | refine below_set ?_ GE188.out) | exact HB.out)) hb); clear HO187; clear BK188; clear HB; have HO187 := n0_; have HO191 := n1_; have BK188 := n2_; have HB := n3_; clear n0_ n1_ n2_ n3_; (try clear hb); (try clear hb2); (try clear hk); (try clear hi); (try clear ho0); have hcz18_0 : w17.cell? ⟨gb188, 0, none⟩ = some (.int .i64 t183) := (blk_cell BK188.out 0).trans rfl; have hcz18_1 : w17.cell? ⟨gb188, 1, none⟩ = some (.int .i64 t184) := (blk_cell BK188.out 1).trans rfl; have hcz18_2 : w17.cell? ⟨gb188, 2, none⟩ = some (.slice Ao16 t185.length co16) := (blk_cell BK188.out 2).trans rfl; have hfz18_0 := blk_frozen BK188.out 0; have hfz18_1 := blk_frozen BK188.out 1; have hfz18_2 := blk_frozen BK188.out 2) | ((with_reducible refine gate_callee (f := 14) rfl ?_); refine goesL_ (some 29) rfl rfl Try.func14 (by kernel_rfl) rfl #[.int .i64 a2, .int .i64 (t185.length : Int)] rfl (by (try simp only [List.map_toArray, List.map_cons, List.map_nil]); first | done | rfl | (simp only [List.length_drop, List.length_take]; rfl)) ?_; (with_reducible refine (tourref5_Below.calls a2 (t185.length : Int) t192 _ A8.out).mono ?_); rintro e w' ⟨rfl, ⟨nd, rfl⟩⟩; refine ⟨_, rfl, ?_⟩; obtain ⟨Ao19, co19, eo19⟩ := Kd.R_slice HO191.out; subst eo19) | ((with_reducible refine gate_callee (f := 10) rfl ?_); refine goesL_ (some 33) rfl rfl Try.func10 (by kernel_rfl) rfl #[.agg #[.int .i64 t183, .int .i64 t184, .slice Ao16 t185.length co16], .slice Ao19 t189.length co19] rfl (by (try simp only [List.map_toArray, List.map_cons, List.map_nil]); first | done | rfl | (simp only [List.length_drop, List.length_take]; rfl)) ?_; (with_reducible refine (flow_Field.calls k t183 t184 _ _ t185 _ _ t189 t193 t196 _ ?side1 ?side2 ?side3 ?side4 A9.out).mono ?_); (case side1 => repeat (first | exact (Kd.R_reads' HO187.out).2.2 | (with_reducible refine Kd.C_alloc ?_ _) | (with_reducible refine Kd.C_drewN ?_ _) | (with_reducible refine Kd.C_drew ?_))); (case side2 => exact (Kd.R_reads' HO187.out).2.1); (case side3 => repeat (first | exact (Kd.R_reads' HO191.out).2.2 | (with_reducible refine Kd.C_alloc ?_ _) | (with_reducible refine Kd.C_drewN ?_ _) | (with_reducible refine Kd.C_drew ?_))); (case side4 => exact (Kd.R_reads' HO191.out).2.1); rintro e w20 ⟨v194, rfl, ho0, hb⟩; refine ⟨_, rfl, ?_⟩; have n0_ := Aside0.mk (Kd.R_elder' (by (with_reducible repeat (first | apply Kd.R_alloc | apply Kd.R_drewN | apply Kd.R_drew)); exact HO187.out) (Kd.R_base ho0) hb); have n1_ := Aside0.mk (Kd.R_elder' (by (with_reducible repeat (first | apply Kd.R_alloc | apply Kd.R_drewN | apply Kd.R_drew)); exact HO191.out) (Kd.R_base ho0) hb); have n2_ := Aside0.mk (Kd.R_lower (Kd.R_new' (Kd.R_new' ho0 (Kd.R_lt (by (with_reducible repeat (first | apply Kd.R_alloc | apply Kd.R_drewN | apply Kd.R_drew)); exact HO187.out))) (Kd.R_lt (by (with_reducible repeat (first | apply Kd.R_alloc | apply Kd.R_drewN | apply Kd.R_drew)); exact HO191.out))) (below_size (by repeat (first | (with_reducible first | exact HB.out | apply below_alloc | apply pw_below_drewN | apply below_drew1 | refine below_set ?_ GE188.out) | exact HB.out)))); have n3_ := Aside0.mk (blk_below (g := gb188) (o := .cells #[.int .i64 t183, .int .i64 t184, .slice Ao16 t185.length co16] 25 (0, 0)) (by (with_reducible repeat (first | refine blk_drewN ?_ _ | refine blk_drew ?_ | refine blk_alloc ?_ _)); exact BK188.out) hb); have n4_ := Aside0.mk (below_step (by repeat (first | (with_reducible first | exact HB.out | apply below_alloc | apply pw_below_drewN | apply below_drew1 | refine below_set ?_ GE188.out) | exact HB.out)) hb); clear HO187; clear HO191; clear BK188; clear HB; have HO187 := n0_; have HO191 := n1_; have HO195 := n2_; have BK188 := n3_; have HB := n4_; clear n0_ n1_ n2_ n3_ n4_; (try clear hb); (try clear hb2); (try clear hk); (try clear hi); (try clear ho0); have hcz21_0 : w20.cell? ⟨gb188, 0, none⟩ = some (.int .i64 t183) := (blk_cell BK188.out 0).trans rfl; have hcz21_1 : w20.cell? ⟨gb188, 1, none⟩ = some (.int .i64 t184) := (blk_cell BK188.out 1).trans rfl; have hcz21_2 : w20.cell? ⟨gb188, 2, none⟩ = some (.slice Ao16 t185.length co16) := (blk_cell BK188.out 2).trans rfl; have hfz21_0 := blk_frozen BK188.out 0; have hfz21_1 := blk_frozen BK188.out 1; have hfz21_2 := blk_frozen BK188.out 2) | ((with_reducible refine gate_callee (f := 15) rfl ?_); refine goesL_ (some 40) rfl rfl Try.func15 (by kernel_rfl) rfl #[.agg #[.int .i64 t183, .int .i64 t184, .slice Ao16 t185.length co16], .slice Ao19 t189.length co19, .int .i64 t192] rfl (by (try simp only [List.map_toArray, List.map_cons, List.map_nil]); first | done | rfl | (simp only [List.length_drop, List.length_take]; rfl)) ?_; (with_reducible refine (flow_Walk.calls k t183 t184 _ _ t185 _ _ t189 t192 t197 t200 _ ?side1 ?side2 ?side3 ?side4 A10.out).mono ?_); (case side1 => repeat (first | exact (Kd.R_reads' HO187.out).2.2 | (with_reducible refine Kd.C_alloc ?_ _) | (with_reducible refine Kd.C_drewN ?_ _) | (with_reducible refine Kd.C_drew ?_))); (case side2 => exact (Kd.R_reads' HO187.out).2.1); (case side3 => repeat (first | exact (Kd.R_reads' HO191.out).2.2 | (with_reducible refine Kd.C_alloc ?_ _) | (with_reducible refine Kd.C_drewN ?_ _) | (with_reducible refine Kd.C_drew ?_))); (case side4 => exact (Kd.R_reads' HO191.out).2.1); rintro e w22 ⟨v198, rfl, ho0, hb⟩; refine ⟨_, rfl, ?_⟩; have n0_ := Aside0.mk (Kd.R_elder' (by (with_reducible repeat (first | apply Kd.R_alloc | apply Kd.R_drewN | apply Kd.R_drew)); exact HO187.out) (Kd.R_base ho0) hb); have n1_ := Aside0.mk (Kd.R_elder' (by (with_reducible repeat (first | apply Kd.R_alloc | apply Kd.R_drewN | apply Kd.R_drew)); exact HO191.out) (Kd.R_base ho0) hb); have n2_ := Aside0.mk (Kd.R_elder' (by (with_reducible repeat (first | apply Kd.R_alloc | apply Kd.R_drewN | apply Kd.R_drew)); exact HO195.out) (Kd.R_base ho0) hb); have n3_ := Aside0.mk (Kd.R_lower (Kd.R_new' (Kd.R_new' (Kd.R_new' ho0 (Kd.R_lt (by (with_reducible repeat (first | apply Kd.R_alloc | apply Kd.R_drewN | apply Kd.R_drew)); exact HO187.out))) (Kd.R_lt (by (with_reducible repeat (first | apply Kd.R_alloc | apply Kd.R_drewN | apply Kd.R_drew)); exact HO191.out))) (Kd.R_lt (by (with_reducible repeat (first | apply Kd.R_alloc | apply Kd.R_drewN | apply Kd.R_drew)); exact HO195.out))) (below_size (by repeat (first | (with_reducible first | exact HB.out | apply below_alloc | apply pw_below_drewN | apply below_drew1 | refine below_set ?_ GE188.out) | exact HB.out)))); have n4_ := Aside0.mk (blk_below (g := gb188) (o := .cells #[.int .i64 t183, .int .i64 t184, .slice Ao16 t185.length co16] 25 (0, 0)) (by (with_reducible repeat (first | refine blk_drewN ?_ _ | refine blk_drew ?_ | refine blk_alloc ?_ _)); exact BK188.out) hb); have n5_ := Aside0.mk (below_step (by repeat (first | (with_reducible first | exact HB.out | apply below_alloc | apply pw_below_drewN | apply below_drew1 | refine below_set ?_ GE188.out) | exact HB.out)) hb); clear HO187; clear HO191; clear HO195; clear BK188; clear HB; have HO187 := n0_; have HO191 := n1_; have HO195 := n2_; have HO199 := n3_; have BK188 := n4_; have HB := n5_; clear n0_ n1_ n2_ n3_ n4_ n5_; (try clear hb); (try clear hb2); (try clear hk); (try clear hi); (try clear ho0)))
  (try simp only [Act.put, List.setIfInBounds_toArray, List.set_cons_zero, List.set_cons_succ])
  go_cut [52] (fun v52 wc => ∃ (kq : Nat) (x52_10 : Bool), v52 = .bool x52_10 ∧ Aside0 (tourkeep5_FlowWalks.j0 kq t192 t189 t193 t197 t200 x52_10 t183 t184 t185 = some r) ∧ Aside0 (kq ≤ k) ∧ Aside0 (Kd.R (Kd.int .i64) 3 wc w.heap.size (fun k_ => some k_ ≠ (v194 : Value).ownBlock ∧ some k_ ≠ (v198 : Value).ownBlock ∧ some k_ ≠ ((.slice Ao16 t185.length co16) : Value).ownBlock) (.slice Ao19 t189.length co19) t189) ∧ Aside0 (Kd.R (Kd.int .i64) 3 wc w.heap.size (fun k_ => some k_ ≠ ((.slice Ao19 t189.length co19) : Value).ownBlock ∧ some k_ ≠ (v198 : Value).ownBlock ∧ some k_ ≠ ((.slice Ao16 t185.length co16) : Value).ownBlock) v194 t193) ∧ Aside0 (Kd.R (Kd.int .i64) 3 wc w.heap.size (fun k_ => some k_ ≠ ((.slice Ao19 t189.length co19) : Value).ownBlock ∧ some k_ ≠ (v194 : Value).ownBlock ∧ some k_ ≠ ((.slice Ao16 t185.length co16) : Value).ownBlock) v198 t197) ∧ Aside0 (Kd.R (Kd.int .i64) 3 wc w.heap.size (fun k_ => some k_ ≠ ((.slice Ao19 t189.length co19) : Value).ownBlock ∧ some k_ ≠ (v194 : Value).ownBlock ∧ some k_ ≠ (v198 : Value).ownBlock) (.slice Ao16 t185.length co16) t185) ∧ Aside0 (wc.heap[gb188]? = some (.cells #[.int .i64 t183, .int .i64 t184, (.slice Ao16 t185.length co16)] 25 (0, 0))) ∧ Aside0 (Below w.heap.size w wc))
  case first =>
   have H := HC11.out
   clear HC11
   by_cases c23 : t196 = 0
   ·rw [if_pos c23] at H
    have c23b0 : (t196 == 0) = true := beq_iff_eq.mpr c23
    have c23b1 : (t196 != 0) = false := bne_eq_false_iff_eq.mpr c23
    clear c23
    (first | rw [c23b0] | (simp only [i64_w, i32_w]; rw [c23b0]) | skip)
    have H' := Aside0.mk H
    clear H
    obtain ⟨Ao24, co24, eo24⟩ := Kd.R_slice HO195.out
    subst eo24
    have hcz25_0 : w22.cell? ⟨gb188, 0, none⟩ = some (.int .i64 t183) := (blk_cell BK188.out 0).trans rfl
    have hcz25_1 : w22.cell? ⟨gb188, 1, none⟩ = some (.int .i64 t184) := (blk_cell BK188.out 1).trans rfl
    have hcz25_2 : w22.cell? ⟨gb188, 2, none⟩ = some (.slice Ao16 t185.length co16) := (blk_cell BK188.out 2).trans rfl
    have hfz25_0 := blk_frozen BK188.out 0
    have hfz25_1 := blk_frozen BK188.out 1
    have hfz25_2 := blk_frozen BK188.out 2
    go_wp2
    go_meet
    case rel => exact ⟨_, (((t193.length : Int) != (t185.length : Int))), (by first | rfl | (simp; done) | (simp [*]; done)), H', ⟨by first | omega | exact Nat.le_refl _⟩, ⟨by (with_reducible repeat (first | apply Kd.R_alloc | apply Kd.R_drewN | apply Kd.R_drew)); exact Kd.R_mono HO191.out (fun _ hk => ⟨hk.1.2, ⟨hk.2, hk.1.1.2⟩⟩)⟩, ⟨by (with_reducible repeat (first | apply Kd.R_alloc | apply Kd.R_drewN | apply Kd.R_drew)); exact Kd.R_mono HO195.out (fun _ hk => ⟨hk.1.2, ⟨hk.2, hk.1.1.2⟩⟩)⟩, ⟨by (with_reducible repeat (first | apply Kd.R_alloc | apply Kd.R_drewN | apply Kd.R_drew)); exact Kd.R_mono HO199.out (fun _ hk => ⟨hk.1.2, ⟨hk.2, hk.1.1.2⟩⟩)⟩, ⟨by (with_reducible repeat (first | apply Kd.R_alloc | apply Kd.R_drewN | apply Kd.R_drew)); exact Kd.R_mono HO187.out (fun _ hk => ⟨hk.1.1.2, ⟨hk.1.2, hk.2⟩⟩)⟩, ⟨by (with_reducible repeat (first | refine blk_drewN ?_ _ | refine blk_drew ?_ | refine blk_alloc ?_ _)); exact BK188.out⟩, ⟨by repeat (first | (with_reducible first | exact HB.out | apply below_alloc | apply pw_below_drewN | apply below_drew1 | refine below_set ?_ GE188.out) | exact HB.out)⟩⟩
   ·rw [if_neg c23] at H
    have c23b0 : (t196 == 0) = false := beq_eq_false_iff_ne.mpr c23
    have c23b1 : (t196 != 0) = true := bne_iff_ne.mpr c23
    (first | rw [c23b0] | (simp only [i64_w, i32_w]; rw [c23b0]) | skip)
    have H' := Aside0.mk H
    clear H
    go_wp2
    go_meet
    case rel => exact ⟨_, (true), (by first | rfl | (simp; done) | (simp [*]; done)), H', ⟨by first | omega | exact Nat.le_refl _⟩, ⟨by (with_reducible repeat (first | apply Kd.R_alloc | apply Kd.R_drewN | apply Kd.R_drew)); exact Kd.R_mono HO191.out (fun _ hk => ⟨hk.1.2, ⟨hk.2, hk.1.1.2⟩⟩)⟩, ⟨by (with_reducible repeat (first | apply Kd.R_alloc | apply Kd.R_drewN | apply Kd.R_drew)); exact Kd.R_mono HO195.out (fun _ hk => ⟨hk.1.2, ⟨hk.2, hk.1.1.2⟩⟩)⟩, ⟨by (with_reducible repeat (first | apply Kd.R_alloc | apply Kd.R_drewN | apply Kd.R_drew)); exact Kd.R_mono HO199.out (fun _ hk => ⟨hk.1.2, ⟨hk.2, hk.1.1.2⟩⟩)⟩, ⟨by (with_reducible repeat (first | apply Kd.R_alloc | apply Kd.R_drewN | apply Kd.R_drew)); exact Kd.R_mono HO187.out (fun _ hk => ⟨hk.1.1.2, ⟨hk.1.2, hk.2⟩⟩)⟩, ⟨by (with_reducible repeat (first | refine blk_drewN ?_ _ | refine blk_drew ?_ | refine blk_alloc ?_ _)); exact BK188.out⟩, ⟨by repeat (first | (with_reducible first | exact HB.out | apply below_alloc | apply pw_below_drewN | apply below_drew1 | refine below_set ?_ GE188.out) | exact HB.out)⟩⟩
  case rest =>
   clear HC11
   try clear c1
   try clear c2
   try clear p2
   try clear c5
   try clear p5
   try clear c8
   try clear c9
   try clear c10
   try clear c11
   try clear c14
   try clear c15
   try clear c23
   try clear c23b0
   try clear c23b1
   try clear hcz15_0
   try clear hcz15_1
   try clear hcz15_2
   try clear hcz18_0
   try clear hcz18_1
   try clear hcz18_2
   try clear hcz21_0
   try clear hcz21_1
   try clear hcz21_2
   try clear hcz25_0
   try clear hcz25_1
   try clear hcz25_2
   try clear hfz15_0
   try clear hfz15_1
   try clear hfz15_2
   try clear hfz18_0
   try clear hfz18_1
   try clear hfz18_2
   try clear hfz21_0
   try clear hfz21_1
   try clear hfz21_2
   try clear hfz25_0
   try clear hfz25_1
   try clear hfz25_2
   obtain ⟨kq, x52_10, rfl, HA, HJ10, HO_8, HO_9, HO_11, HO_189002, BK188, HB⟩ := hcut
   cases kq with
   | zero => exact absurd HA.out (by simp [tourkeep5_FlowWalks.j0])
   | succ kj10 =>
    have H := HA.out
    clear HA
    simp only [tourkeep5_FlowWalks.j0] at H
    by_cases c26 : x52_10 = true
    ·subst c26
     have H1 : (none) = some r := by rw [if_pos rfl] at H; exact H
     clear H
     have H := H1
     clear H1
     exact absurd H (by simp)
    ·replace c26 := Bool.eq_false_iff.mpr c26
     subst c26
     have H1 : (if t200 = 0 then (if (t197.length : Int) = 0 then (tourkeep5_FlowWalks.j1 kj10 t192 t193 t197 true t183 t184 t185) else (if 0 < (t197.length : Int) then (if (rd t197 0) = t192 then (if 0 ≤ (wrap64 ((t197.length : Int) - 1)) then (if (wrap64 ((t197.length : Int) - 1)) < (t197.length : Int) then ((slices_Contains_int_int.f kj10 t189 (rd t197 (wrap64 ((t197.length : Int) - 1)))).bind fun t204 => (tourkeep5_FlowWalks.j1 kj10 t192 t193 t197 (!t204) t183 t184 t185)) else (none)) else (none)) else (tourkeep5_FlowWalks.j1 kj10 t192 t193 t197 true t183 t184 t185)) else (none))) else (if t200 = 4 then (if 0 ≤ t192 then (if t192 < (t193.length : Int) then (if (rd t193 t192) < 0 then (some ((t197.length : Int) == 0)) else (none)) else (none)) else (none)) else (none))) = some r := by rw [if_neg (show ¬ (false = true) by decide)] at H; exact H
     clear H
     have H := H1
     clear H1
     by_cases c27 : t200 = 0
     ·rw [if_pos c27] at H
      have c27b0 : (t200 == 0) = true := beq_iff_eq.mpr c27
      have c27b1 : (t200 != 0) = false := bne_eq_false_iff_eq.mpr c27
      clear c27
      have HC28 := Aside0.mk H
      clear H
      go_upto_region 12 with (fail)
      go_cut [89] (fun v89 wc => ∃ (kq : Nat) (x89_27 : Bool), v89 = .bool x89_27 ∧ Aside0 (tourkeep5_FlowWalks.j1 kq t192 t193 t197 x89_27 t183 t184 t185 = some r) ∧ Aside0 (kq ≤ kj10) ∧ Aside0 (Kd.R (Kd.int .i64) 3 wc w.heap.size (fun k_ => some k_ ≠ (v198 : Value).ownBlock ∧ some k_ ≠ ((.slice Ao16 t185.length co16) : Value).ownBlock) v194 t193) ∧ Aside0 (Kd.R (Kd.int .i64) 3 wc w.heap.size (fun k_ => some k_ ≠ (v194 : Value).ownBlock ∧ some k_ ≠ ((.slice Ao16 t185.length co16) : Value).ownBlock) v198 t197) ∧ Aside0 (Kd.R (Kd.int .i64) 3 wc w.heap.size (fun k_ => some k_ ≠ (v194 : Value).ownBlock ∧ some k_ ≠ (v198 : Value).ownBlock) (.slice Ao16 t185.length co16) t185) ∧ Aside0 (wc.heap[gb188]? = some (.cells #[.int .i64 t183, .int .i64 t184, (.slice Ao16 t185.length co16)] 25 (0, 0))) ∧ Aside0 (Below w.heap.size w wc))
      case first =>
       have H := HC28.out
       clear HC28
       by_cases c29 : (t197.length : Int) = 0
       ·rw [if_pos c29] at H
        have c29b0 : ((t197.length : Int) == 0) = true := beq_iff_eq.mpr c29
        have c29b1 : ((t197.length : Int) != 0) = false := bne_eq_false_iff_eq.mpr c29
        clear c29
        (first | rw [c29b0] | (simp only [i64_w, i32_w]; rw [c29b0]) | skip)
        have H' := Aside0.mk H
        clear H
        obtain ⟨Ao30, co30, eo30⟩ := Kd.R_slice HO_11.out
        subst eo30
        go_wp2
        go_meet
        case rel => exact ⟨_, (true), (by first | rfl | (simp; done) | (simp [*]; done)), H', ⟨by have := HJ10.out; first | omega | exact Nat.le_refl _⟩, ⟨by (with_reducible repeat (first | apply Kd.R_alloc | apply Kd.R_drewN | apply Kd.R_drew)); exact Kd.R_mono HO_9.out (fun _ hk => ⟨hk.2.1, hk.2.2⟩)⟩, ⟨by (with_reducible repeat (first | apply Kd.R_alloc | apply Kd.R_drewN | apply Kd.R_drew)); exact Kd.R_mono HO_11.out (fun _ hk => ⟨hk.2.1, hk.2.2⟩)⟩, ⟨by (with_reducible repeat (first | apply Kd.R_alloc | apply Kd.R_drewN | apply Kd.R_drew)); exact Kd.R_mono HO_189002.out (fun _ hk => ⟨hk.2.1, hk.2.2⟩)⟩, ⟨by (with_reducible repeat (first | refine blk_drewN ?_ _ | refine blk_drew ?_ | refine blk_alloc ?_ _)); exact BK188.out⟩, ⟨by repeat (first | (with_reducible first | exact HB.out | apply below_alloc | apply pw_below_drewN | apply below_drew1 | refine below_set ?_ GE188.out) | exact HB.out)⟩⟩
       ·rw [if_neg c29] at H
        have c29b0 : ((t197.length : Int) == 0) = false := beq_eq_false_iff_ne.mpr c29
        have c29b1 : ((t197.length : Int) != 0) = true := bne_iff_ne.mpr c29
        have c29b2 : ¬ (t197 = []) := fun h_ => c29 (by rw [h_]; rfl)
        (first | rw [c29b0] | (simp only [i64_w, i32_w]; rw [c29b0]) | skip)
        by_cases c31 : 0 < (t197.length : Int)
        ·rw [if_pos c31] at H
         have c31b0 : decide (0 < (t197.length : Int)) = true := decide_eq_true c31
         have c31b1 : decide (0 < t197.length) = true := decide_eq_true (by omega)
         clear c31
         by_cases c32 : (rd t197 0) = t192
         ·rw [if_pos c32] at H
          have c32b0 : ((rd t197 0) == t192) = true := beq_iff_eq.mpr c32
          have c32b1 : ((rd t197 0) != t192) = false := bne_eq_false_iff_eq.mpr c32
          clear c32
          obtain ⟨ji33, hji33⟩ : ∃ j_ : Int, (wrap64 ((t197.length : Int) - 1)) = j_ := ⟨_, rfl⟩
          replace H : (if 0 ≤ (ji33) then (if (ji33) < (t197.length : Int) then ((slices_Contains_int_int.f kj10 t189 (rd t197 (ji33))).bind fun t204 => (tourkeep5_FlowWalks.j1 kj10 t192 t193 t197 (!t204) t183 t184 t185)) else (none)) else (none)) = some r := by first | (rw [hji33] at H; exact H) | (simp only [hji33] at H ⊢; exact H)
          have hji33w : (IntKind.i64.wrap ((t197.length : Int) - 1)) = ji33 := (i64_w _).trans hji33
          by_cases c34 : 0 ≤ (ji33)
          ·rw [if_pos c34] at H
           have c34b0 : decide (0 ≤ (ji33)) = true := decide_eq_true c34
           clear c34
           by_cases c35 : (ji33) < (t197.length : Int)
           ·rw [if_pos c35] at H
            have c35b0 : decide ((ji33) < (t197.length : Int)) = true := decide_eq_true c35
            clear c35
            replace H := Option.bind_eq_some_iff.mp H
            obtain ⟨t204, A360, H⟩ := H
            replace H : (tourkeep5_FlowWalks.j1 kj10 t192 t193 t197 (!t204) t183 t184 t185) = some r := H
            have A36 := Aside0.mk A360
            clear A360
            have H' := Aside0.mk H
            clear H
            obtain ⟨Ao37, co37, eo37⟩ := Kd.R_slice HO_11.out
            subst eo37
            have p202 : 0 ≤ (0 : Int) := (by omega)
            have q202 : 0 < (t197.length : Int) := of_decide_eq_true (by first | (with_reducible assumption) | assumption)
            obtain ⟨ad202, e202, hx202_0⟩ := Kd.at_int (Kd.R_reads' HO_11.out).2.2 0 p202 q202
            cases e202
            have qi202 : (0 < t197.length) = True := eq_true (by omega)
            (try rw [show ((0 : Int)).toNat = 0 from rfl] at hx202_0)
            (try rw [Addr.add_zero'] at hx202_0)
            replace p202 := eq_true p202
            replace q202 := eq_true q202
            have p203 : 0 ≤ ((ji33) : Int) := of_decide_eq_true (by first | (with_reducible assumption) | assumption)
            have q203 : (ji33) < (t197.length : Int) := of_decide_eq_true (by first | (with_reducible assumption) | assumption)
            obtain ⟨ad203, e203, hx203_0⟩ := Kd.at_int (Kd.R_reads' HO_11.out).2.2 (ji33) p203 q203
            obtain rfl : ad202 = ad203 := (by injection e203)
            replace p203 := eq_true p203
            replace q203 := eq_true q203
            go_wp2_with (first | (go_at_call 16; (with_reducible refine (slices_Contains_int_int.calls kj10 _ _ t189 (rd t197 (ji33)) t204 _ ?side1 ?side2 A36.out).mono ?_); (case side1 => repeat (first | exact (Kd.R_reads' HO_8.out).2.2 | (with_reducible refine Kd.C_alloc ?_ _) | (with_reducible refine Kd.C_drewN ?_ _) | (with_reducible refine Kd.C_drew ?_))); (case side2 => exact (Kd.R_reads' HO_8.out).2.1); rintro e w' ⟨rfl, ⟨nd, rfl⟩⟩))
            go_meet
            case rel => exact ⟨_, (!t204), (by first | rfl | (simp; done) | (simp [*]; done)), H', ⟨by have := HJ10.out; first | omega | exact Nat.le_refl _⟩, ⟨by (with_reducible repeat (first | apply Kd.R_alloc | apply Kd.R_drewN | apply Kd.R_drew)); exact Kd.R_mono HO_9.out (fun _ hk => ⟨hk.2.1, hk.2.2⟩)⟩, ⟨by (with_reducible repeat (first | apply Kd.R_alloc | apply Kd.R_drewN | apply Kd.R_drew)); exact Kd.R_mono HO_11.out (fun _ hk => ⟨hk.2.1, hk.2.2⟩)⟩, ⟨by (with_reducible repeat (first | apply Kd.R_alloc | apply Kd.R_drewN | apply Kd.R_drew)); exact Kd.R_mono HO_189002.out (fun _ hk => ⟨hk.2.1, hk.2.2⟩)⟩, ⟨by (with_reducible repeat (first | refine blk_drewN ?_ _ | refine blk_drew ?_ | refine blk_alloc ?_ _)); exact BK188.out⟩, ⟨by repeat (first | (with_reducible first | exact HB.out | apply below_alloc | apply pw_below_drewN | apply below_drew1 | refine below_set ?_ GE188.out) | exact HB.out)⟩⟩
           ·rw [if_neg c35] at H
            exact absurd H (by simp)
          ·rw [if_neg c34] at H
           exact absurd H (by simp)
         ·rw [if_neg c32] at H
          have c32b0 : ((rd t197 0) == t192) = false := beq_eq_false_iff_ne.mpr c32
          have c32b1 : ((rd t197 0) != t192) = true := bne_iff_ne.mpr c32
          have H' := Aside0.mk H
          clear H
          obtain ⟨Ao38, co38, eo38⟩ := Kd.R_slice HO_11.out
          subst eo38
          have p202 : 0 ≤ (0 : Int) := (by omega)
          have q202 : 0 < (t197.length : Int) := of_decide_eq_true (by first | (with_reducible assumption) | assumption)
          obtain ⟨ad202, e202, hx202_0⟩ := Kd.at_int (Kd.R_reads' HO_11.out).2.2 0 p202 q202
          cases e202
          have qi202 : (0 < t197.length) = True := eq_true (by omega)
          (try rw [show ((0 : Int)).toNat = 0 from rfl] at hx202_0)
          (try rw [Addr.add_zero'] at hx202_0)
          replace p202 := eq_true p202
          replace q202 := eq_true q202
          go_wp2
          go_meet
          case rel => exact ⟨_, (true), (by first | rfl | (simp; done) | (simp [*]; done)), H', ⟨by have := HJ10.out; first | omega | exact Nat.le_refl _⟩, ⟨by (with_reducible repeat (first | apply Kd.R_alloc | apply Kd.R_drewN | apply Kd.R_drew)); exact Kd.R_mono HO_9.out (fun _ hk => ⟨hk.2.1, hk.2.2⟩)⟩, ⟨by (with_reducible repeat (first | apply Kd.R_alloc | apply Kd.R_drewN | apply Kd.R_drew)); exact Kd.R_mono HO_11.out (fun _ hk => ⟨hk.2.1, hk.2.2⟩)⟩, ⟨by (with_reducible repeat (first | apply Kd.R_alloc | apply Kd.R_drewN | apply Kd.R_drew)); exact Kd.R_mono HO_189002.out (fun _ hk => ⟨hk.2.1, hk.2.2⟩)⟩, ⟨by (with_reducible repeat (first | refine blk_drewN ?_ _ | refine blk_drew ?_ | refine blk_alloc ?_ _)); exact BK188.out⟩, ⟨by repeat (first | (with_reducible first | exact HB.out | apply below_alloc | apply pw_below_drewN | apply below_drew1 | refine below_set ?_ GE188.out) | exact HB.out)⟩⟩
        ·rw [if_neg c31] at H
         exact absurd H (by simp)
      case rest =>
       clear HC28
       try clear c1
       try clear c2
       try clear p2
       try clear q2
       try clear hx2
       try clear qi2
       try clear c3
       try clear c5
       try clear p5
       try clear p6
       try clear c8
       try clear c9
       try clear c10
       try clear c11
       try clear c14
       try clear c15
       try clear p20
       try clear q20
       try clear hx20
       try clear qi20
       try clear c23
       try clear c23b0
       try clear c23b1
       try clear c26
       try clear c27
       try clear c27b0
       try clear c27b1
       try clear c29
       try clear c29b0
       try clear c29b1
       try clear c29b2
       try clear c31
       try clear c31b0
       try clear c31b1
       try clear c32
       try clear c32b0
       try clear c32b1
       try clear c34
       try clear c34b0
       try clear c35
       try clear c35b0
       try clear hcz15_0
       try clear hcz15_1
       try clear hcz15_2
       try clear hcz18_0
       try clear hcz18_1
       try clear hcz18_2
       try clear hcz21_0
       try clear hcz21_1
       try clear hcz21_2
       try clear hcz25_0
       try clear hcz25_1
       try clear hcz25_2
       try clear hfz15_0
       try clear hfz15_1
       try clear hfz15_2
       try clear hfz18_0
       try clear hfz18_1
       try clear hfz18_2
       try clear hfz21_0
       try clear hfz21_1
       try clear hfz21_2
       try clear hfz25_0
       try clear hfz25_1
       try clear hfz25_2
       try clear hx202_0
       try clear hx203_0
       try clear p2
       try clear p202
       try clear p203
       try clear p5
       try clear q202
       try clear q203
       obtain ⟨kq, x89_27, rfl, HA, HJ27, HO_9, HO_11, HO_189002, BK188, HB⟩ := hcut
       cases kq with
       | zero => exact absurd HA.out (by simp [tourkeep5_FlowWalks.j1])
       | succ kj27 =>
        have H := HA.out
        clear HA
        simp only [tourkeep5_FlowWalks.j1] at H
        by_cases c39 : x89_27 = true
        ·subst c39
         have H1 : (none) = some r := by rw [if_pos rfl] at H; exact H
         clear H
         have H := H1
         clear H1
         exact absurd H (by simp)
        ·replace c39 := Bool.eq_false_iff.mpr c39
         subst c39
         have H1 : (tourkeep5_FlowWalks.l0 kj27 t192 t193 t197 0 t197 (t197.length : Int) 0 t183 t184 t185) = some r := by rw [if_neg (show ¬ (false = true) by decide)] at H; exact H
         clear H
         have H := H1
         clear H1
         have H' := Aside0.mk H
         clear H
         obtain ⟨Ao40, co40, eo40⟩ := Kd.R_slice HO_11.out
         subst eo40
         go_wp2
         go_loopg [13, 92] kj27 (fun kq v13 v92 w' => ∃ (x13_3 : Int) (x92_3 : Int), v13 = .int .i64 x13_3 ∧ v92 = .int .i64 x92_3 ∧ Aside0 (tourkeep5_FlowWalks.l0 kq t192 t193 t197 x13_3 t197 (t197.length : Int) x92_3 t183 t184 t185 = some r) ∧ Aside0 (kq ≤ kj27) ∧ Aside0 (Kd.R (Kd.int .i64) 3 w' w.heap.size (fun k_ => some k_ ≠ ((.slice Ao40 t197.length co40) : Value).ownBlock ∧ some k_ ≠ ((.slice Ao40 t197.length co40) : Value).ownBlock ∧ some k_ ≠ ((.slice Ao16 t185.length co16) : Value).ownBlock) v194 t193) ∧ Aside0 (Kd.R (Kd.int .i64) 3 w' w.heap.size (fun k_ => some k_ ≠ (v194 : Value).ownBlock ∧ some k_ ≠ ((.slice Ao16 t185.length co16) : Value).ownBlock) (.slice Ao40 t197.length co40) t197) ∧ Aside0 (Kd.R (Kd.int .i64) 3 w' w.heap.size (fun k_ => some k_ ≠ (v194 : Value).ownBlock ∧ some k_ ≠ ((.slice Ao16 t185.length co16) : Value).ownBlock) (.slice Ao40 t197.length co40) t197) ∧ Aside0 (Kd.R (Kd.int .i64) 3 w' w.heap.size (fun k_ => some k_ ≠ (v194 : Value).ownBlock ∧ some k_ ≠ ((.slice Ao40 t197.length co40) : Value).ownBlock ∧ some k_ ≠ ((.slice Ao40 t197.length co40) : Value).ownBlock) (.slice Ao16 t185.length co16) t185) ∧ Aside0 (w'.heap[gb188]? = some (.cells #[.int .i64 t183, .int .i64 t184, (.slice Ao16 t185.length co16)] 25 (0, 0))) ∧ Aside0 (Below w.heap.size w w'))
         case atStart => exact ⟨(0), (0), (by first | rfl | (simp; done) | (simp [*]; done)), (by first | rfl | (simp; done) | (simp [*]; done)), H', ⟨Nat.le_refl _⟩, ⟨by (with_reducible repeat (first | apply Kd.R_alloc | apply Kd.R_drewN | apply Kd.R_drew)); exact Kd.R_mono HO_9.out (fun _ hk => ⟨hk.1, ⟨hk.1, hk.2⟩⟩)⟩, ⟨by (with_reducible repeat (first | apply Kd.R_alloc | apply Kd.R_drewN | apply Kd.R_drew)); exact HO_11.out⟩, ⟨by (with_reducible repeat (first | apply Kd.R_alloc | apply Kd.R_drewN | apply Kd.R_drew)); exact HO_11.out⟩, ⟨by (with_reducible repeat (first | apply Kd.R_alloc | apply Kd.R_drewN | apply Kd.R_drew)); exact Kd.R_mono HO_189002.out (fun _ hk => ⟨hk.1, ⟨hk.2, hk.2⟩⟩)⟩, ⟨by (with_reducible repeat (first | refine blk_drewN ?_ _ | refine blk_drew ?_ | refine blk_alloc ?_ _)); exact BK188.out⟩, ⟨by repeat (first | (with_reducible first | exact HB.out | apply below_alloc | apply pw_below_drewN | apply below_drew1 | refine below_set ?_ GE188.out) | exact HB.out)⟩⟩
         case round =>
          clear H'
          try clear c1
          try clear c2
          try clear p2
          try clear q2
          try clear hx2
          try clear qi2
          try clear c3
          try clear c5
          try clear p5
          try clear p6
          try clear c8
          try clear c9
          try clear c10
          try clear c11
          try clear c14
          try clear c15
          try clear p20
          try clear q20
          try clear hx20
          try clear qi20
          try clear c23
          try clear c23b0
          try clear c23b1
          try clear c26
          try clear c27
          try clear c27b0
          try clear c27b1
          try clear c29
          try clear c29b0
          try clear c29b1
          try clear c29b2
          try clear c31
          try clear c31b0
          try clear c31b1
          try clear c32
          try clear c32b0
          try clear c32b1
          try clear c34
          try clear c34b0
          try clear c35
          try clear c35b0
          try clear c39
          try clear hcz15_0
          try clear hcz15_1
          try clear hcz15_2
          try clear hcz18_0
          try clear hcz18_1
          try clear hcz18_2
          try clear hcz21_0
          try clear hcz21_1
          try clear hcz21_2
          try clear hcz25_0
          try clear hcz25_1
          try clear hcz25_2
          try clear hfz15_0
          try clear hfz15_1
          try clear hfz15_2
          try clear hfz18_0
          try clear hfz18_1
          try clear hfz18_2
          try clear hfz21_0
          try clear hfz21_1
          try clear hfz21_2
          try clear hfz25_0
          try clear hfz25_1
          try clear hfz25_2
          try clear hx202_0
          try clear hx203_0
          try clear p2
          try clear p20
          try clear p202
          try clear p203
          try clear p5
          try clear p6
          try clear q2
          try clear q20
          try clear q202
          try clear q203
          obtain ⟨x13_3, x92_3, rfl, rfl, HA, HK3, HO_9, HO_11, HO_90, HO_189002, BK188, HB⟩ := hrel
          cases gk with
          | zero => exact absurd HA.out (by simp [tourkeep5_FlowWalks.l0])
          | succ k3 =>
           have H := HA.out
           clear HA
           simp only [tourkeep5_FlowWalks.l0] at H
           by_cases c41 : x92_3 < (t197.length : Int)
           ·rw [if_pos c41] at H
            have c41b0 : decide (x92_3 < (t197.length : Int)) = true := decide_eq_true c41
            clear c41
            by_cases c42 : 0 ≤ x92_3
            ·rw [if_pos c42] at H
             have c42b0 : decide (0 ≤ x92_3) = true := decide_eq_true c42
             clear c42
             by_cases c43 : x92_3 < (t197.length : Int)
             ·rw [if_pos c43] at H
              have c43b0 : decide (x92_3 < (t197.length : Int)) = true := decide_eq_true c43
              clear c43
              have HC44 := Aside0.mk H
              clear H
              have p206 : 0 ≤ (x92_3 : Int) := of_decide_eq_true (by first | (with_reducible assumption) | assumption)
              have q206 : x92_3 < (t197.length : Int) := of_decide_eq_true (by first | (with_reducible assumption) | assumption)
              obtain ⟨ad206, e206, hx206_0⟩ := Kd.at_int (Kd.R_reads' HO_90.out).2.2 x92_3 p206 q206
              cases e206
              replace p206 := eq_true p206
              replace q206 := eq_true q206
              go_upto_region 18 with (fail)
              go_cut [111] (fun v111 wc => ∃ (kq : Nat) (x111_43 : Bool), v111 = .bool x111_43 ∧ Aside0 (tourkeep5_FlowWalks.j3 kq t192 t193 t197 x13_3 x92_3 (rd t197 x92_3) t197 (t197.length : Int) x92_3 x111_43 t183 t184 t185 = some r) ∧ Aside0 (kq ≤ k3) ∧ Aside0 (Kd.R (Kd.int .i64) 3 wc w.heap.size (fun k_ => some k_ ≠ ((.slice (some ad206) t197.length co40) : Value).ownBlock ∧ some k_ ≠ ((.slice (some ad206) t197.length co40) : Value).ownBlock ∧ some k_ ≠ ((.slice Ao16 t185.length co16) : Value).ownBlock) v194 t193) ∧ Aside0 (Kd.R (Kd.int .i64) 3 wc w.heap.size (fun k_ => some k_ ≠ (v194 : Value).ownBlock ∧ some k_ ≠ ((.slice Ao16 t185.length co16) : Value).ownBlock) (.slice (some ad206) t197.length co40) t197) ∧ Aside0 (Kd.R (Kd.int .i64) 3 wc w.heap.size (fun k_ => some k_ ≠ (v194 : Value).ownBlock ∧ some k_ ≠ ((.slice Ao16 t185.length co16) : Value).ownBlock) (.slice (some ad206) t197.length co40) t197) ∧ Aside0 (Kd.R (Kd.int .i64) 3 wc w.heap.size (fun k_ => some k_ ≠ (v194 : Value).ownBlock ∧ some k_ ≠ ((.slice (some ad206) t197.length co40) : Value).ownBlock ∧ some k_ ≠ ((.slice (some ad206) t197.length co40) : Value).ownBlock) (.slice Ao16 t185.length co16) t185) ∧ Aside0 (wc.heap[gb188]? = some (.cells #[.int .i64 t183, .int .i64 t184, (.slice Ao16 t185.length co16)] 25 (0, 0))) ∧ Aside0 (Below w.heap.size w wc))
              case first =>
               have H := HC44.out
               clear HC44
               by_cases c45 : (rd t197 x92_3) < 0
               ·rw [if_pos c45] at H
                have c45b0 : decide ((rd t197 x92_3) < 0) = true := decide_eq_true c45
                clear c45
                (first | rw [c45b0] | (simp only [i64_w, i32_w]; rw [c45b0]) | skip)
                have H' := Aside0.mk H
                clear H
                go_wp2
                go_meet
                case rel => exact ⟨_, (true), (by first | rfl | (simp; done) | (simp [*]; done)), H', ⟨by have := HJ10.out; have := HJ27.out; have := HK3.out; first | omega | exact Nat.le_refl _⟩, ⟨by (with_reducible repeat (first | apply Kd.R_alloc | apply Kd.R_drewN | apply Kd.R_drew)); exact HO_9.out⟩, ⟨by (with_reducible repeat (first | apply Kd.R_alloc | apply Kd.R_drewN | apply Kd.R_drew)); exact HO_11.out⟩, ⟨by (with_reducible repeat (first | apply Kd.R_alloc | apply Kd.R_drewN | apply Kd.R_drew)); exact HO_90.out⟩, ⟨by (with_reducible repeat (first | apply Kd.R_alloc | apply Kd.R_drewN | apply Kd.R_drew)); exact HO_189002.out⟩, ⟨by (with_reducible repeat (first | refine blk_drewN ?_ _ | refine blk_drew ?_ | refine blk_alloc ?_ _)); exact BK188.out⟩, ⟨by repeat (first | (with_reducible first | exact HB.out | apply below_alloc | apply pw_below_drewN | apply below_drew1 | refine below_set ?_ GE188.out) | exact HB.out)⟩⟩
               ·rw [if_neg c45] at H
                have c45b0 : decide ((rd t197 x92_3) < 0) = false := decide_eq_false c45
                clear c45
                (first | rw [c45b0] | (simp only [i64_w, i32_w]; rw [c45b0]) | skip)
                by_cases c46 : (rd t197 x92_3) ≥ (t193.length : Int)
                ·rw [if_pos c46] at H
                 have c46b0 : decide ((t193.length : Int) ≤ (rd t197 x92_3)) = true := decide_eq_true c46
                 clear c46
                 have H' := Aside0.mk H
                 clear H
                 obtain ⟨Ao47, co47, eo47⟩ := Kd.R_slice HO_9.out
                 subst eo47
                 go_wp2
                 go_meet
                 case rel => exact ⟨_, (true), (by first | rfl | (simp; done) | (simp [*]; done)), H', ⟨by have := HJ10.out; have := HJ27.out; have := HK3.out; first | omega | exact Nat.le_refl _⟩, ⟨by (with_reducible repeat (first | apply Kd.R_alloc | apply Kd.R_drewN | apply Kd.R_drew)); exact HO_9.out⟩, ⟨by (with_reducible repeat (first | apply Kd.R_alloc | apply Kd.R_drewN | apply Kd.R_drew)); exact HO_11.out⟩, ⟨by (with_reducible repeat (first | apply Kd.R_alloc | apply Kd.R_drewN | apply Kd.R_drew)); exact HO_90.out⟩, ⟨by (with_reducible repeat (first | apply Kd.R_alloc | apply Kd.R_drewN | apply Kd.R_drew)); exact HO_189002.out⟩, ⟨by (with_reducible repeat (first | refine blk_drewN ?_ _ | refine blk_drew ?_ | refine blk_alloc ?_ _)); exact BK188.out⟩, ⟨by repeat (first | (with_reducible first | exact HB.out | apply below_alloc | apply pw_below_drewN | apply below_drew1 | refine below_set ?_ GE188.out) | exact HB.out)⟩⟩
                ·rw [if_neg c46] at H
                 have c46b0 : decide ((t193.length : Int) ≤ (rd t197 x92_3)) = false := decide_eq_false c46
                 clear c46
                 have c48b0 := eq_true (of_decide_eq_true (by first | (with_reducible assumption) | assumption) : 0 ≤ x92_3)
                 by_cases c49 : x92_3 ≤ (t197.length : Int)
                 ·rw [if_pos c49] at H
                  have c49b0 := eq_true c49
                  have c49b1 : decide (x92_3 ≤ (t197.length : Int)) = true := decide_eq_true c49
                  clear c49
                  obtain ⟨y207, hy207⟩ : ∃ y_ : List Int, y_ = (t197.take (x92_3 : Int).toNat) := ⟨_, rfl⟩
                  replace H : ((slices_Contains_int_int.f k3 y207 (rd t197 x92_3)).bind fun t211 => (tourkeep5_FlowWalks.j3 k3 t192 t193 t197 x13_3 x92_3 (rd t197 x92_3) t197 (t197.length : Int) x92_3 t211 t183 t184 t185)) = some r := by first | (rw [hy207]; with_reducible exact H) | (have H2_ := (Option.bind_some _ _).symm.trans H; rw [hy207]; with_reducible exact H2_) | (have H2_ := (Option.bind_some _ _).symm.trans H; with_reducible exact H2_) | with_reducible exact H | (rw [hy207]; exact H) | exact H
                  have Ny207 := Aside0.mk hy207
                  clear hy207
                  replace H := Option.bind_eq_some_iff.mp H
                  obtain ⟨t211, A500, H⟩ := H
                  replace H : (tourkeep5_FlowWalks.j3 k3 t192 t193 t197 x13_3 x92_3 (rd t197 x92_3) t197 (t197.length : Int) x92_3 t211 t183 t184 t185) = some r := H
                  have A50 := Aside0.mk A500
                  clear A500
                  have H' := Aside0.mk H
                  clear H
                  obtain ⟨Ao51, co51, eo51⟩ := Kd.R_slice HO_9.out
                  subst eo51
                  have q52 : (x92_3 : Int) ≤ ((t197.length : Int) : Int) := of_decide_eq_true (by first | (with_reducible assumption) | assumption)
                  obtain ⟨i052, hi052, _, hsz52, _⟩ := info_parts info3
                  have hroom52 : t197.length ≤ co40 := (Kd.R_reads' HO_11.out).2.1
                  have hC52 : Kd.C (Kd.int .i64) _ (some ad206) t197.length t197 := (Kd.R_reads' HO_11.out).2.2
                  have hcut52 := cut_to (P := Try.prog) 22 3 .i64 Try.underlying22 hi052 (some ad206) t197.length co40 x92_3 (of_decide_eq_true (by first | (with_reducible assumption) | assumption)) q52 hroom52
                  have hr52 := Kd.C_take (m := (x92_3 : Int).toNat) hC52 (by omega)
                  have hy52 : y207.length = (x92_3 : Int).toNat := (by rw [Ny207.out, List.length_take]; omega)
                  rw [← Ny207.out] at hr52
                  rw [← hy52] at hcut52
                  have HR210 := Aside0.mk hr52
                  have HC210 := Aside0.mk (show y207.length ≤ co40 from by omega)
                  clear hr52 hC52 hroom52 hi052 hsz52
                  have KY52 := Aside0.mk hy52
                  clear hy52
                  have KL52 := Aside0.mk (show (x92_3 : Int).toNat ≤ t197.length from by omega)
                  replace q52 := eq_true q52
                  go_wp2_with (first | (go_at_call 16; (with_reducible refine (slices_Contains_int_int.calls k3 _ _ y207 (rd t197 x92_3) t211 _ ?side1 ?side2 A50.out).mono ?_); (case side1 => repeat (first | exact (by repeat (first | (with_reducible exact HR210.out) | (with_reducible refine Kd.C_alloc ?_ _) | (with_reducible refine Kd.C_drewN ?_ _) | (with_reducible refine Kd.C_drew ?_) | exact HR210.out)) | (with_reducible refine Kd.C_alloc ?_ _) | (with_reducible refine Kd.C_drewN ?_ _) | (with_reducible refine Kd.C_drew ?_))); (case side2 => exact HC210.out); rintro e w' ⟨rfl, ⟨nd, rfl⟩⟩))
                  go_meet
                  case rel => exact ⟨_, (t211), (by first | rfl | (simp; done) | (simp [*]; done)), H', ⟨by have := HJ10.out; have := HJ27.out; have := HK3.out; first | omega | exact Nat.le_refl _⟩, ⟨by (with_reducible repeat (first | apply Kd.R_alloc | apply Kd.R_drewN | apply Kd.R_drew)); exact HO_9.out⟩, ⟨by (with_reducible repeat (first | apply Kd.R_alloc | apply Kd.R_drewN | apply Kd.R_drew)); exact HO_11.out⟩, ⟨by (with_reducible repeat (first | apply Kd.R_alloc | apply Kd.R_drewN | apply Kd.R_drew)); exact HO_90.out⟩, ⟨by (with_reducible repeat (first | apply Kd.R_alloc | apply Kd.R_drewN | apply Kd.R_drew)); exact HO_189002.out⟩, ⟨by (with_reducible repeat (first | refine blk_drewN ?_ _ | refine blk_drew ?_ | refine blk_alloc ?_ _)); exact BK188.out⟩, ⟨by repeat (first | (with_reducible first | exact HB.out | apply below_alloc | apply pw_below_drewN | apply below_drew1 | refine below_set ?_ GE188.out) | exact HB.out)⟩⟩
                 ·rw [if_neg c49] at H
                  exact absurd H (by simp)
              case rest =>
               clear HC44
               try clear c1
               try clear c2
               try clear p2
               try clear q2
               try clear hx2
               try clear qi2
               try clear c3
               try clear c4
               try clear c5
               try clear p5
               try clear q5
               try clear p6
               try clear c8
               try clear c9
               try clear c10
               try clear c11
               try clear c14
               try clear c15
               try clear p20
               try clear q20
               try clear hx20
               try clear qi20
               try clear c23
               try clear c23b0
               try clear c23b1
               try clear c26
               try clear c27
               try clear c27b0
               try clear c27b1
               try clear c29
               try clear c29b0
               try clear c29b1
               try clear c29b2
               try clear c31
               try clear c31b0
               try clear c31b1
               try clear c32
               try clear c32b0
               try clear c32b1
               try clear c34
               try clear c34b0
               try clear c35
               try clear c35b0
               try clear c39
               try clear c41
               try clear c41b0
               try clear c42
               try clear c42b0
               try clear c43
               try clear c43b0
               try clear c45
               try clear c45b0
               try clear c46
               try clear c46b0
               try clear c48
               try clear c48b0
               try clear c49
               try clear c49b0
               try clear c49b1
               try clear q52
               try clear hcz15_0
               try clear hcz15_1
               try clear hcz15_2
               try clear hcz18_0
               try clear hcz18_1
               try clear hcz18_2
               try clear hcz21_0
               try clear hcz21_1
               try clear hcz21_2
               try clear hcz25_0
               try clear hcz25_1
               try clear hcz25_2
               try clear hfz15_0
               try clear hfz15_1
               try clear hfz15_2
               try clear hfz18_0
               try clear hfz18_1
               try clear hfz18_2
               try clear hfz21_0
               try clear hfz21_1
               try clear hfz21_2
               try clear hfz25_0
               try clear hfz25_1
               try clear hfz25_2
               try clear hx202_0
               try clear hx203_0
               try clear hx206_0
               try clear p2
               try clear p20
               try clear p202
               try clear p203
               try clear p206
               try clear p5
               try clear p6
               try clear q2
               try clear q20
               try clear q202
               try clear q203
               try clear q206
               try clear q52
               obtain ⟨kq, x111_43, rfl, HA, HJ43, HO_9, HO_11, HO_90, HO_189002, BK188, HB⟩ := hcut
               cases kq with
               | zero => exact absurd HA.out (by simp [tourkeep5_FlowWalks.j3])
               | succ kj43 =>
                have H := HA.out
                clear HA
                simp only [tourkeep5_FlowWalks.j3] at H
                by_cases c53 : x111_43 = true
                ·subst c53
                 have H1 : (none) = some r := by rw [if_pos rfl] at H; exact H
                 clear H
                 have H := H1
                 clear H1
                 exact absurd H (by simp)
                ·replace c53 := Bool.eq_false_iff.mpr c53
                 subst c53
                 have H1 : (if x92_3 > 0 then (if 0 ≤ (rd t197 x92_3) then (if (rd t197 x92_3) < (t185.length : Int) then (tourkeep5_FlowWalks.l0 kj43 t192 t193 t197 (wrap64 (x13_3 + (rd t185 (rd t197 x92_3)))) t197 (t197.length : Int) (wrap64 (x92_3 + 1)) t183 t184 t185) else (none)) else (none)) else (tourkeep5_FlowWalks.l0 kj43 t192 t193 t197 x13_3 t197 (t197.length : Int) (wrap64 (x92_3 + 1)) t183 t184 t185)) = some r := by rw [if_neg (show ¬ (false = true) by decide)] at H; exact H
                 clear H
                 have H := H1
                 clear H1
                 by_cases c54 : x92_3 > 0
                 ·rw [if_pos c54] at H
                  have c54b0 : decide (0 < x92_3) = true := decide_eq_true c54
                  clear c54
                  by_cases c55 : 0 ≤ (rd t197 x92_3)
                  ·rw [if_pos c55] at H
                   have c55b0 : decide (0 ≤ (rd t197 x92_3)) = true := decide_eq_true c55
                   clear c55
                   by_cases c56 : (rd t197 x92_3) < (t185.length : Int)
                   ·rw [if_pos c56] at H
                    have c56b0 : decide ((rd t197 x92_3) < (t185.length : Int)) = true := decide_eq_true c56
                    clear c56
                    have H' := Aside0.mk H
                    clear H
                    have hcz57_0 : wc.cell? ⟨gb188, 0, none⟩ = some (.int .i64 t183) := (blk_cell BK188.out 0).trans rfl
                    have hcz57_1 : wc.cell? ⟨gb188, 1, none⟩ = some (.int .i64 t184) := (blk_cell BK188.out 1).trans rfl
                    have hcz57_2 : wc.cell? ⟨gb188, 2, none⟩ = some (.slice Ao16 t185.length co16) := (blk_cell BK188.out 2).trans rfl
                    have hfz57_0 := blk_frozen BK188.out 0
                    have hfz57_1 := blk_frozen BK188.out 1
                    have hfz57_2 := blk_frozen BK188.out 2
                    have p212 : 0 ≤ ((rd t197 x92_3) : Int) := of_decide_eq_true (by first | (with_reducible assumption) | assumption)
                    have q212 : (rd t197 x92_3) < (t185.length : Int) := of_decide_eq_true (by first | (with_reducible assumption) | assumption)
                    obtain ⟨ad212, e212, hx212_0⟩ := Kd.at_int (Kd.R_reads' HO_189002.out).2.2 (rd t197 x92_3) p212 q212
                    cases e212
                    replace p212 := eq_true p212
                    replace q212 := eq_true q212
                    go_wp2
                    go_roundg kj43
                    case measure => have := HJ10.out; have := HJ27.out; have := HK3.out; have := HJ43.out; omega
                    case rel => exact ⟨(wrap64 (x13_3 + (rd t185 (rd t197 x92_3)))), (wrap64 (x92_3 + 1)), (by first | rfl | (simp; done) | (simp [*]; done)), (by first | rfl | (simp; done) | (simp [*]; done)), H', ⟨by have := HJ10.out; have := HJ27.out; have := HK3.out; have := HJ43.out; omega⟩, ⟨by (with_reducible repeat (first | apply Kd.R_alloc | apply Kd.R_drewN | apply Kd.R_drew)); exact HO_9.out⟩, ⟨by (with_reducible repeat (first | apply Kd.R_alloc | apply Kd.R_drewN | apply Kd.R_drew)); exact HO_11.out⟩, ⟨by (with_reducible repeat (first | apply Kd.R_alloc | apply Kd.R_drewN | apply Kd.R_drew)); exact HO_90.out⟩, ⟨by (with_reducible repeat (first | apply Kd.R_alloc | apply Kd.R_drewN | apply Kd.R_drew)); exact HO_189002.out⟩, ⟨by (with_reducible repeat (first | refine blk_drewN ?_ _ | refine blk_drew ?_ | refine blk_alloc ?_ _)); exact BK188.out⟩, ⟨by repeat (first | (with_reducible first | exact HB.out | apply below_alloc | apply pw_below_drewN | apply below_drew1 | refine below_set ?_ GE188.out) | exact HB.out)⟩⟩
                   ·rw [if_neg c56] at H
                    exact absurd H (by simp)
                  ·rw [if_neg c55] at H
                   exact absurd H (by simp)
                 ·rw [if_neg c54] at H
                  have c54b0 : decide (0 < x92_3) = false := decide_eq_false c54
                  clear c54
                  have H' := Aside0.mk H
                  clear H
                  go_wp2
                  go_roundg kj43
                  case measure => have := HJ10.out; have := HJ27.out; have := HK3.out; have := HJ43.out; omega
                  case rel => exact ⟨(x13_3), (wrap64 (x92_3 + 1)), (by first | rfl | (simp; done) | (simp [*]; done)), (by first | rfl | (simp; done) | (simp [*]; done)), H', ⟨by have := HJ10.out; have := HJ27.out; have := HK3.out; have := HJ43.out; omega⟩, ⟨by (with_reducible repeat (first | apply Kd.R_alloc | apply Kd.R_drewN | apply Kd.R_drew)); exact HO_9.out⟩, ⟨by (with_reducible repeat (first | apply Kd.R_alloc | apply Kd.R_drewN | apply Kd.R_drew)); exact HO_11.out⟩, ⟨by (with_reducible repeat (first | apply Kd.R_alloc | apply Kd.R_drewN | apply Kd.R_drew)); exact HO_90.out⟩, ⟨by (with_reducible repeat (first | apply Kd.R_alloc | apply Kd.R_drewN | apply Kd.R_drew)); exact HO_189002.out⟩, ⟨by (with_reducible repeat (first | refine blk_drewN ?_ _ | refine blk_drew ?_ | refine blk_alloc ?_ _)); exact BK188.out⟩, ⟨by repeat (first | (with_reducible first | exact HB.out | apply below_alloc | apply pw_below_drewN | apply below_drew1 | refine below_set ?_ GE188.out) | exact HB.out)⟩⟩
             ·rw [if_neg c43] at H
              exact absurd H (by simp)
            ·rw [if_neg c42] at H
             exact absurd H (by simp)
           ·rw [if_neg c41] at H
            have c41b0 : decide (x92_3 < (t197.length : Int)) = false := decide_eq_false c41
            clear c41
            by_cases c58 : 0 ≤ t192
            ·rw [if_pos c58] at H
             have c58b0 : decide (0 ≤ t192) = true := decide_eq_true c58
             clear c58
             by_cases c59 : t192 < (t193.length : Int)
             ·rw [if_pos c59] at H
              have c59b0 : decide (t192 < (t193.length : Int)) = true := decide_eq_true c59
              clear c59
              obtain rfl := Option.some.inj H
              obtain ⟨Ao60, co60, eo60⟩ := Kd.R_slice HO_9.out
              subst eo60
              have p205 : 0 ≤ (t192 : Int) := of_decide_eq_true (by first | (with_reducible assumption) | assumption)
              have q205 : t192 < (t193.length : Int) := of_decide_eq_true (by first | (with_reducible assumption) | assumption)
              obtain ⟨ad205, e205, hx205_0⟩ := Kd.at_int (Kd.R_reads' HO_9.out).2.2 t192 p205 q205
              cases e205
              replace p205 := eq_true p205
              replace q205 := eq_true q205
              go_wp2
              go_ret
              exact ⟨by first | rfl | (simp [errW_none, errW_some] <;> rfl) | (simp [*, errW_none, errW_some] <;> rfl), by repeat (first | (with_reducible first | exact HB.out | apply below_alloc | apply pw_below_drewN | apply below_drew1 | refine below_set ?_ GE188.out) | exact HB.out)⟩
             ·rw [if_neg c59] at H
              exact absurd H (by simp)
            ·rw [if_neg c58] at H
             exact absurd H (by simp)
     ·rw [if_neg c27] at H
      have c27b0 : (t200 == 0) = false := beq_eq_false_iff_ne.mpr c27
      have c27b1 : (t200 != 0) = true := bne_iff_ne.mpr c27
      by_cases c61 : t200 = 4
      ·rw [if_pos c61] at H
       have c61b0 : (t200 == 4) = true := beq_iff_eq.mpr c61
       have c61b1 : (t200 != 4) = false := bne_eq_false_iff_eq.mpr c61
       clear c61
       by_cases c62 : 0 ≤ t192
       ·rw [if_pos c62] at H
        have c62b0 : decide (0 ≤ t192) = true := decide_eq_true c62
        clear c62
        by_cases c63 : t192 < (t193.length : Int)
        ·rw [if_pos c63] at H
         have c63b0 : decide (t192 < (t193.length : Int)) = true := decide_eq_true c63
         clear c63
         by_cases c64 : (rd t193 t192) < 0
         ·rw [if_pos c64] at H
          have c64b0 : decide ((rd t193 t192) < 0) = true := decide_eq_true c64
          clear c64
          obtain rfl := Option.some.inj H
          obtain ⟨Ao65, co65, eo65⟩ := Kd.R_slice HO_9.out
          subst eo65
          have p201 : 0 ≤ (t192 : Int) := of_decide_eq_true (by first | (with_reducible assumption) | assumption)
          have q201 : t192 < (t193.length : Int) := of_decide_eq_true (by first | (with_reducible assumption) | assumption)
          obtain ⟨ad201, e201, hx201_0⟩ := Kd.at_int (Kd.R_reads' HO_9.out).2.2 t192 p201 q201
          cases e201
          replace p201 := eq_true p201
          replace q201 := eq_true q201
          obtain ⟨Ao66, co66, eo66⟩ := Kd.R_slice HO_11.out
          subst eo66
          go_wp2
          go_ret
          exact ⟨by first | rfl | (simp [errW_none, errW_some] <;> rfl) | (simp [*, errW_none, errW_some] <;> rfl), by repeat (first | (with_reducible first | exact HB.out | apply below_alloc | apply pw_below_drewN | apply below_drew1 | refine below_set ?_ GE188.out) | exact HB.out)⟩
         ·rw [if_neg c64] at H
          exact absurd H (by simp)
        ·rw [if_neg c63] at H
         exact absurd H (by simp)
       ·rw [if_neg c62] at H
        exact absurd H (by simp)
      ·rw [if_neg c61] at H
       exact absurd H (by simp)
 ·replace c5 := Bool.eq_false_iff.mpr c5
  subst c5
  have H1 : (none) = some r := by rw [if_neg (show ¬ (false = true) by decide)] at H; exact H
  clear H
  have H := H1
  clear H1
  exact absurd H (by simp)

/-- THE ONE PURE STATEMENT of tourkeep5_FlowWalks: yours. -/
def tourkeep5_FlowWalks.Pure : Prop := ∀ (l0 : List Int) (l1 : List Int) (a2 : Int), l0.length ≤ maxLen → l0.length * 8 ≤ 140737488351232 → (∀ x ∈ l0, (Lit.int .i64 x).wf = true) → l1.length ≤ maxLen → l1.length * 8 ≤ 140737488351232 → (∀ x ∈ l1, (Lit.int .i64 x).wf = true) → (Lit.int .i64 a2).wf = true → ∃ k, tourkeep5_FlowWalks.f k l0 l1 a2 = some true
theorem tourkeep5_FlowWalks.walk (P : tourkeep5_FlowWalks.Pure) (a0 : Option Addr) (len0 cap0 : Nat) (z0 : List Int) (a1 : Option Addr) (len1 cap1 : Nat) (z1 : List Int) (a2 : Int) (w : World) (w0 : (a0 = none ∧ len0 = 0 ∧ cap0 = 0 ∧ z0 = []) ∨ ∃ x, a0 = some x ∧ len0 ≤ cap0 ∧ cap0 ≤ maxLen ∧ z0.length = cap0 ∧ (∀ i, i < z0.length → w.cell? (x.add i) = some (.int .i64 (z0.getD i 0))) ∧ ∀ n ∈ z0, (Lit.int .i64 n).wf = true) (y0 : len0 * 8 ≤ 140737488351232) (w1 : (a1 = none ∧ len1 = 0 ∧ cap1 = 0 ∧ z1 = []) ∨ ∃ x, a1 = some x ∧ len1 ≤ cap1 ∧ cap1 ≤ maxLen ∧ z1.length = cap1 ∧ (∀ i, i < z1.length → w.cell? (x.add i) = some (.int .i64 (z1.getD i 0))) ∧ ∀ n ∈ z1, (Lit.int .i64 n).wf = true) (y1 : len1 * 8 ≤ 140737488351232) (w2 : (Lit.int .i64 a2).wf = true) :
  Calls Try.prog 5 #[.slice a0 len0 cap0, .slice a1 len1 cap1, .int .i64 a2] w fun e w' => e = .returned (.bool true) ∧ Below w.heap.size w w' := by
 obtain ⟨l0, rfl, hr0, hm0, hw0, hc0⟩ := ReadsInt.ofRowC w0
 obtain ⟨l1, rfl, hr1, hm1, hw1, hc1⟩ := ReadsInt.ofRowC w1
 obtain ⟨k, h⟩ := P l0 l1 a2 hm0 y0 hw0 hm1 y1 hw1 w2
 refine (tourkeep5_FlowWalks.calls k _ _ l0 _ _ l1 a2 true w (Kd.C_of_reads (d := (0 : Int)) (h1 := fun _ => rfl) hr0) hc0 (Kd.C_of_reads (d := (0 : Int)) (h1 := fun _ => rfl) hr1) hc1 h).mono ?_
 rintro e w' ⟨rfl, hd⟩
 exact ⟨rfl, hd⟩

end Go.Proofs.Ytmpfboilodlfnaa.PFlowWalks
