-- Printed by a program: the print with changes of this session (wip/printpatch.py).
import Derived.Test.YtfallkiaojefnaaPBonesLongx0
import Derived.Test.YtfallkiaojefnaaPBonesLongx4
import Derived.Test.YtfallkiaojefnaaPBonesLongx5
import Derived.Test.YtfallkiaojefnaaPBonesLongx8
import Derived.Test.YtfallkiaojefnaaPBonesLongx10
namespace Go.Proofs.Ytfallkiaojefnaa.PBonesLong
open Go.Proofs.Ytfallkiaojefnaa.Fnv Go.Proofs.Ytfallkiaojefnaa.Ary Go.Proofs.Ytfallkiaojefnaa.Ext
open Go.RowKit Go.Proofs.YtfallkiaojefnaaW.PrintWords Go.Proofs.YtfallkiaojefnaaW.PrintLast Go.Proofs.YtfallkiaojefnaaW.PrintMore
attribute [local go_sem] max2_int min2_int max_two min_two max_three min_three max_four min_four   -- for this text's walks alone
set_option linter.unusedVariables false
set_option linter.unusedSimpArgs false

/-! ### bones_Places: function 10 -/
mutual
def bones_Places.l0 : Nat → List (S37) → List (S39) → List (S35) → Int → Int → Option ((List (S39)) × Int)
 | 0, _, _, _, _, _ => none
 | k + 1, x1, x7, x20, x21, x22 => if x22 < x21 then (if 0 ≤ x22 then (if x22 < (x20.length : Int) then (if x22 < (x1.length : Int) then ((quat_Unit.f k ((rd_T37 x1 x22).f0) ((rd_T37 x1 x22).f1) ((rd_T37 x1 x22).f2) ((rd_T37 x1 x22).f3)).bind fun bt224 => (if ((rd_T35 x20 x22).f0) ≥ 0 then (if 0 ≤ ((rd_T35 x20 x22).f0) then (if ((rd_T35 x20 x22).f0) < (x7.length : Int) then ((quat_Turn.f k ((rd_T39 x7 ((rd_T35 x20 x22).f0)).f1.f0) ((rd_T39 x7 ((rd_T35 x20 x22).f0)).f1.f1) ((rd_T39 x7 ((rd_T35 x20 x22).f0)).f1.f2) ((rd_T39 x7 ((rd_T35 x20 x22).f0)).f1.f3) ((rd_T35 x20 x22).f1.f0) ((rd_T35 x20 x22).f1.f1) ((rd_T35 x20 x22).f1.f2)).bind fun bt231 => (bones_Places.l1 k x1 x7 x20 x21 x22 0 ((rd_T35 x20 x22).f1.f0) ((rd_T35 x20 x22).f1.f1) ((rd_T35 x20 x22).f1.f2) bt224.1 bt224.2.1 bt224.2.2.1 bt224.2.2.2 ((rd_T39 x7 ((rd_T35 x20 x22).f0)).f0.f0) ((rd_T39 x7 ((rd_T35 x20 x22).f0)).f0.f1) ((rd_T39 x7 ((rd_T35 x20 x22).f0)).f0.f2) ((rd_T39 x7 ((rd_T35 x20 x22).f0)).f1.f0) ((rd_T39 x7 ((rd_T35 x20 x22).f0)).f1.f1) ((rd_T39 x7 ((rd_T35 x20 x22).f0)).f1.f2) ((rd_T39 x7 ((rd_T35 x20 x22).f0)).f1.f3) bt231.1 bt231.2.1 bt231.2.2)) else (none)) else (none)) else (if x7.length < 2513169434916 then (bones_Places.l0 k x1 (x7 ++ [(⟨(⟨(rd_T35 x20 x22).f1.f0, (rd_T35 x20 x22).f1.f1, (rd_T35 x20 x22).f1.f2⟩ : S33), (⟨bt224.1, bt224.2.1, bt224.2.2.1, bt224.2.2.2⟩ : S37)⟩ : S39)]) x20 x21 (wrap64 (x22 + 1))) else (none)))) else (none)) else (none)) else (none)) else (some (x7, 0))
def bones_Places.l1 : Nat → List (S37) → List (S39) → List (S35) → Int → Int → Int → Int → Int → Int → Int → Int → Int → Int → Int → Int → Int → Int → Int → Int → Int → Int → Int → Int → Option ((List (S39)) × Int)
 | 0, _, _, _, _, _, _, _, _, _, _, _, _, _, _, _, _, _, _, _, _, _, _, _ => none
 | k + 1, x1, x7, x20, x21, x22, x48, x229000, x229001, x229002, x229003, x229004, x229005, x229006, x231000, x231001, x231002, x231003, x231004, x231005, x231006, x235000, x235001, x235002 => if x48 < 3 then (if x48 = 0 then ((fix_Add.f x231000 x235000).bind fun t235 => (bones_Places.l1 k x1 x7 x20 x21 x22 (wrap64 (x48 + 1)) t235 x229001 x229002 x229003 x229004 x229005 x229006 x231000 x231001 x231002 x231003 x231004 x231005 x231006 x235000 x235001 x235002)) else (if x48 = 1 then ((fix_Add.f x231001 x235001).bind fun t236 => (bones_Places.l1 k x1 x7 x20 x21 x22 (wrap64 (x48 + 1)) x229000 t236 x229002 x229003 x229004 x229005 x229006 x231000 x231001 x231002 x231003 x231004 x231005 x231006 x235000 x235001 x235002)) else (if x48 = 2 then ((fix_Add.f x231002 x235002).bind fun t237 => (bones_Places.l1 k x1 x7 x20 x21 x22 (wrap64 (x48 + 1)) x229000 x229001 t237 x229003 x229004 x229005 x229006 x231000 x231001 x231002 x231003 x231004 x231005 x231006 x235000 x235001 x235002)) else (none)))) else ((quat_Mul.f k x231003 x231004 x231005 x231006 x229003 x229004 x229005 x229006).bind fun bt238 => ((quat_Unit.f k bt238.1 bt238.2.1 bt238.2.2.1 bt238.2.2.2).bind fun bt242 => (if x7.length < 2513169434916 then (bones_Places.l0 k x1 (x7 ++ [(⟨(⟨x229000, x229001, x229002⟩ : S33), (⟨bt242.1, bt242.2.1, bt242.2.2.1, bt242.2.2.2⟩ : S37)⟩ : S39)]) x20 x21 (wrap64 (x22 + 1))) else (none))))
end
def bones_Places.f (k : Nat) (l0 : List (S35)) (l1 : List (S37)) : Option ((List (S39)) × Int) := (bones_fitting.f k l0 l1).bind fun t220 => (if t220 = 0 then (bones_Places.l0 k l1 ([] : List (S39)) l0 (l0.length : Int) 0) else (some (([] : List (S39)), t220)))
theorem bones_Places.mono_l : ∀ k, (∀ y0 y1 y2 y3 y4, LeO (bones_Places.l0 k y0 y1 y2 y3 y4) (bones_Places.l0 (k + 1) y0 y1 y2 y3 y4)) ∧ (∀ y0 y1 y2 y3 y4 y5 y6 y7 y8 y9 y10 y11 y12 y13 y14 y15 y16 y17 y18 y19 y20 y21 y22, LeO (bones_Places.l1 k y0 y1 y2 y3 y4 y5 y6 y7 y8 y9 y10 y11 y12 y13 y14 y15 y16 y17 y18 y19 y20 y21 y22) (bones_Places.l1 (k + 1) y0 y1 y2 y3 y4 y5 y6 y7 y8 y9 y10 y11 y12 y13 y14 y15 y16 y17 y18 y19 y20 y21 y22))
 | 0 => ⟨fun _ _ _ _ _ r h => by simp [bones_Places.l0] at h, fun _ _ _ _ _ _ _ _ _ _ _ _ _ _ _ _ _ _ _ _ _ _ _ r h => by simp [bones_Places.l1] at h⟩
 | k + 1 => by
  obtain ⟨ih0, ih1⟩ := bones_Places.mono_l k
  refine ⟨?_, ?_⟩
  ·intro y0 y1 y2 y3 y4
   unfold bones_Places.l0
   repeat' first
   | (with_reducible exact ih0 _ _ _ _ _)
   | (with_reducible exact ih1 _ _ _ _ _ _ _ _ _ _ _ _ _ _ _ _ _ _ _ _ _ _ _)
   | (with_reducible exact bones_fitting.mono _ _ _)
   | (with_reducible exact quat_Mul.mono _ _ _ _ _ _ _ _ _)
   | (with_reducible exact quat_Turn.mono _ _ _ _ _ _ _ _)
   | (with_reducible exact quat_Unit.mono _ _ _ _ _)
   | (with_reducible exact LeO.refl _)
   | (with_reducible exact LeO.none _)
   | (with_reducible refine LeO.ite ?_ ?_)
   | (with_reducible refine LeO.bind ?_ (fun _ => ?_))
   | exact ih0 _ _ _ _ _
   | exact ih1 _ _ _ _ _ _ _ _ _ _ _ _ _ _ _ _ _ _ _ _ _ _ _
   | exact bones_fitting.mono _ _ _
   | exact quat_Mul.mono _ _ _ _ _ _ _ _ _
   | exact quat_Turn.mono _ _ _ _ _ _ _ _
   | exact quat_Unit.mono _ _ _ _ _
   | exact LeO.none _
   | refine LeO.ite ?_ ?_
   | refine LeO.bind ?_ (fun _ => ?_)
  ·intro y0 y1 y2 y3 y4 y5 y6 y7 y8 y9 y10 y11 y12 y13 y14 y15 y16 y17 y18 y19 y20 y21 y22
   unfold bones_Places.l1
   repeat' first
   | (with_reducible exact ih0 _ _ _ _ _)
   | (with_reducible exact ih1 _ _ _ _ _ _ _ _ _ _ _ _ _ _ _ _ _ _ _ _ _ _ _)
   | (with_reducible exact bones_fitting.mono _ _ _)
   | (with_reducible exact quat_Mul.mono _ _ _ _ _ _ _ _ _)
   | (with_reducible exact quat_Turn.mono _ _ _ _ _ _ _ _)
   | (with_reducible exact quat_Unit.mono _ _ _ _ _)
   | (with_reducible exact LeO.refl _)
   | (with_reducible exact LeO.none _)
   | (with_reducible refine LeO.ite ?_ ?_)
   | (with_reducible refine LeO.bind ?_ (fun _ => ?_))
   | exact ih0 _ _ _ _ _
   | exact ih1 _ _ _ _ _ _ _ _ _ _ _ _ _ _ _ _ _ _ _ _ _ _ _
   | exact bones_fitting.mono _ _ _
   | exact quat_Mul.mono _ _ _ _ _ _ _ _ _
   | exact quat_Turn.mono _ _ _ _ _ _ _ _
   | exact quat_Unit.mono _ _ _ _ _
   | exact LeO.none _
   | refine LeO.ite ?_ ?_
   | refine LeO.bind ?_ (fun _ => ?_)
theorem bones_Places.mono : ∀ a0 a1 k, LeO (bones_Places.f k a0 a1) (bones_Places.f (k + 1) a0 a1) := by
 intro a0 a1 k
 obtain ⟨ih0, ih1⟩ := bones_Places.mono_l k
 unfold bones_Places.f
 repeat' first
   | (with_reducible exact ih0 _ _ _ _ _)
   | (with_reducible exact ih1 _ _ _ _ _ _ _ _ _ _ _ _ _ _ _ _ _ _ _ _ _ _ _)
   | (with_reducible exact bones_fitting.mono _ _ _)
   | (with_reducible exact quat_Mul.mono _ _ _ _ _ _ _ _ _)
   | (with_reducible exact quat_Turn.mono _ _ _ _ _ _ _ _)
   | (with_reducible exact quat_Unit.mono _ _ _ _ _)
   | (with_reducible exact LeO.refl _)
   | (with_reducible exact LeO.none _)
   | (with_reducible refine LeO.ite ?_ ?_)
   | (with_reducible refine LeO.bind ?_ (fun _ => ?_))
   | exact ih0 _ _ _ _ _
   | exact ih1 _ _ _ _ _ _ _ _ _ _ _ _ _ _ _ _ _ _ _ _ _ _ _
   | exact bones_fitting.mono _ _ _
   | exact quat_Mul.mono _ _ _ _ _ _ _ _ _
   | exact quat_Turn.mono _ _ _ _ _ _ _ _
   | exact quat_Unit.mono _ _ _ _ _
   | exact LeO.none _
   | refine LeO.ite ?_ ?_
   | refine LeO.bind ?_ (fun _ => ?_)
def bones_Places.T8 : Bool × List (List Nat × List Nat) := (true, [([], []), ([0], [0]), ([], []), ([], []), ([2, 3], [2, 3]), ([4], [4]), ([5], [5]), ([1, 6], [1, 6]), ([], []), ([8, 7, 6, 0, 1, 2, 3, 4, 5, 6, 7, 8], [7, 8])])
def bones_Places.B8 : List Nat := [0, 1, 0, 0, 12, 28, 60, 127, 0, 511]
theorem bones_Places.tab8 : rtab .any (opsOf Try.f10 8) = bones_Places.T8 := by kernel_rfl
theorem bones_Places.bits8 : waitsOk bones_Places.T8.2 bones_Places.B8 = true := by kernel_rfl
def bones_Places.T15 : Bool × List (List Nat × List Nat) := (true, [([], []), ([], []), ([], []), ([2, 1], [1, 2]), ([3], [3]), ([], []), ([5], [5]), ([6], [6]), ([4, 7], [4, 7]), ([], []), ([9, 0, 0, 1, 2, 3, 4, 5, 6, 7, 8], [0, 9]), ([10, 8, 8, 0, 1, 2, 3, 4, 5, 6, 7, 8], [8, 10])])
def bones_Places.B15 : List Nat := [0, 0, 0, 6, 14, 0, 32, 96, 254, 0, 1023, 2047]
theorem bones_Places.tab15 : rtab .any (opsOf Try.f10 15) = bones_Places.T15 := by kernel_rfl
theorem bones_Places.bits15 : waitsOk bones_Places.T15.2 bones_Places.B15 = true := by kernel_rfl
set_option maxHeartbeats 8000000 in
set_option maxRecDepth 100000 in
theorem bones_Places.calls (k : Nat) (A0 : Option Addr) (c0 : Nat) (l0 : List (S35)) (A1 : Option Addr) (c1 : Nat) (l1 : List (S37)) (r1 : List (S39)) (r2 : Int) (w : World) (hr0 : Kd.C k35 w A0 l0.length l0) (hc0 : l0.length ≤ c0) (hr1 : Kd.C k37 w A1 l1.length l1) (hc1 : l1.length ≤ c1) (h : bones_Places.f k l0 l1 = some (r1, r2)) :
  Calls Try.prog 10 #[.slice A0 l0.length c0, .slice A1 l1.length c1] w fun e w' => ∃ v0_ : Value, e = .returned (.tuple #[v0_, .int .i64 r2]) ∧ Kd.R k39 39 w' w.heap.size (fun _ => True) v0_ r1 ∧ Below w.heap.size w w' := by
 have hu35 := Try.underlying35
 have hu33 := Try.underlying33
 have hu37 := Try.underlying37
 have hu39 := Try.underlying39
 have HR0 := Aside0.mk hr0
 have HC0 := Aside0.mk hc0
 clear hr0 hc0
 have HR1 := Aside0.mk hr1
 have HC1 := Aside0.mk hc1
 clear hr1 hc1
 have HB := Aside0.mk (Below.refl w.heap.size w)
 have H : ((bones_fitting.f k l0 l1).bind fun t220 => (if t220 = 0 then (bones_Places.l0 k l1 ([] : List (S39)) l0 (l0.length : Int) 0) else (some (([] : List (S39)), t220)))) = some (r1, r2) := h
 clear h
 replace H := Option.bind_eq_some_iff.mp H
 obtain ⟨t220, A30, H⟩ := H
 replace H : (if t220 = 0 then (bones_Places.l0 k l1 ([] : List (S39)) l0 (l0.length : Int) 0) else (some (([] : List (S39)), t220))) = some (r1, r2) := H
 have A3 := Aside0.mk A30
 clear A30
 by_cases c4 : t220 = 0
 ·rw [if_pos c4] at H
  have c4b0 : (t220 == 0) = true := beq_iff_eq.mpr c4
  have c4b1 : (t220 != 0) = false := bne_eq_false_iff_eq.mpr c4
  clear c4
  have H' := Aside0.mk H
  clear H
  go_enter Try.func10, Try.ntmps10
  go_wp2_with (first | ((with_reducible refine gate_callee (f := 27) rfl ?_); refine goesL_ (some 16) rfl rfl Try.func27 (by kernel_rfl) rfl #[.slice A0 l0.length c0, .slice A1 l1.length c1] rfl (by (try simp only [zm1, zm2, zm3]); first | done | rfl) ?_; (with_reducible refine (bones_fitting.calls k _ _ l0 _ _ l1 t220 _ ?side1 ?side2 ?side3 ?side4 A3.out).mono ?_); (case side1 => repeat (first | exact HR0.out | (with_reducible refine Kd.C_alloc ?_ _) | (with_reducible refine Kd.C_drewN ?_ _) | (with_reducible refine Kd.C_drew ?_))); (case side2 => exact HC0.out); (case side3 => repeat (first | exact HR1.out | (with_reducible refine Kd.C_alloc ?_ _) | (with_reducible refine Kd.C_drewN ?_ _) | (with_reducible refine Kd.C_drew ?_))); (case side4 => exact HC1.out); rintro e w5 ⟨rfl, hb⟩; refine ⟨_, rfl, ?_⟩; have n0_ := Aside0.mk (below_step (by repeat (first | (with_reducible first | exact HB.out | apply below_alloc | apply pw_below_drewN | apply below_drew1) | exact HB.out)) hb); clear HB; have HB := n0_; clear n0_; (try clear hb); (try clear hb2); (try clear hk); (try clear hi)))
  go_loopg [7, 22] k (fun kq v7 v22 w' => ∃ (x7_1 : List (S39)) (x22_1 : Int), v22 = .int .i64 x22_1 ∧ Aside0 (bones_Places.l0 kq l1 x7_1 l0 (l0.length : Int) x22_1 = some (r1, r2)) ∧ Aside0 (kq ≤ k) ∧ Aside0 (Kd.R k39 39 w' w.heap.size (fun _ => True) v7 x7_1) ∧ Aside0 (Below w.heap.size w w'))
  case atStart => exact ⟨(([] : List (S39))), (0), (by first | rfl | (simp; done) | (simp [*]; done) | (simp; decide +kernel)), H', ⟨Nat.le_refl _⟩, ⟨by first | exact Kd.R_nil _ _ _ _ _ | exact Kd.N_nil _ _ _ _ _ | exact Kd.V_nil _ _ _ _ _ | exact Kd.Q_nil _ _ _ _ _ | exact Kd.S_nil _ _ _ _ _⟩, ⟨by repeat (first | (with_reducible first | exact HB.out | apply below_alloc | apply pw_below_drewN | apply below_drew1) | exact HB.out)⟩⟩
  case round =>
   clear H'
   try clear c1; try clear c2; try clear p2; try clear c4; try clear c4b0; try clear c4b1
   obtain ⟨x7_1, x22_1, rfl, HA, HK1, HO_7, HB⟩ := hrel
   cases gk with
   | zero => exact absurd HA.out (by simp [bones_Places.l0])
   | succ k1 =>
    have H := HA.out
    clear HA
    simp only [bones_Places.l0] at H
    by_cases c6 : x22_1 < (l0.length : Int)
    ·rw [if_pos c6] at H
     have c6b0 : decide (x22_1 < (l0.length : Int)) = true := decide_eq_true c6
     clear c6
     by_cases c7 : 0 ≤ x22_1
     ·rw [if_pos c7] at H
      have c7b0 : decide (0 ≤ x22_1) = true := decide_eq_true c7
      clear c7
      by_cases c8 : x22_1 < (l0.length : Int)
      ·rw [if_pos c8] at H
       have c8b0 : decide (x22_1 < (l0.length : Int)) = true := decide_eq_true c8
       clear c8
       by_cases c9 : x22_1 < (l1.length : Int)
       ·rw [if_pos c9] at H
        have c9b0 : decide (x22_1 < (l1.length : Int)) = true := decide_eq_true c9
        clear c9
        replace H := Option.bind_eq_some_iff.mp H
        obtain ⟨⟨t224, t225, t226, t227⟩, A100, H⟩ := H
        replace H : (if ((rd_T35 l0 x22_1).f0) ≥ 0 then (if 0 ≤ ((rd_T35 l0 x22_1).f0) then (if ((rd_T35 l0 x22_1).f0) < (x7_1.length : Int) then ((quat_Turn.f k1 ((rd_T39 x7_1 ((rd_T35 l0 x22_1).f0)).f1.f0) ((rd_T39 x7_1 ((rd_T35 l0 x22_1).f0)).f1.f1) ((rd_T39 x7_1 ((rd_T35 l0 x22_1).f0)).f1.f2) ((rd_T39 x7_1 ((rd_T35 l0 x22_1).f0)).f1.f3) ((rd_T35 l0 x22_1).f1.f0) ((rd_T35 l0 x22_1).f1.f1) ((rd_T35 l0 x22_1).f1.f2)).bind fun bt231 => (bones_Places.l1 k1 l1 x7_1 l0 (l0.length : Int) x22_1 0 ((rd_T35 l0 x22_1).f1.f0) ((rd_T35 l0 x22_1).f1.f1) ((rd_T35 l0 x22_1).f1.f2) t224 t225 t226 t227 ((rd_T39 x7_1 ((rd_T35 l0 x22_1).f0)).f0.f0) ((rd_T39 x7_1 ((rd_T35 l0 x22_1).f0)).f0.f1) ((rd_T39 x7_1 ((rd_T35 l0 x22_1).f0)).f0.f2) ((rd_T39 x7_1 ((rd_T35 l0 x22_1).f0)).f1.f0) ((rd_T39 x7_1 ((rd_T35 l0 x22_1).f0)).f1.f1) ((rd_T39 x7_1 ((rd_T35 l0 x22_1).f0)).f1.f2) ((rd_T39 x7_1 ((rd_T35 l0 x22_1).f0)).f1.f3) bt231.1 bt231.2.1 bt231.2.2)) else (none)) else (none)) else (if x7_1.length < 2513169434916 then (bones_Places.l0 k1 l1 (x7_1 ++ [(⟨(⟨(rd_T35 l0 x22_1).f1.f0, (rd_T35 l0 x22_1).f1.f1, (rd_T35 l0 x22_1).f1.f2⟩ : S33), (⟨t224, t225, t226, t227⟩ : S37)⟩ : S39)]) l0 (l0.length : Int) (wrap64 (x22_1 + 1))) else (none))) = some (r1, r2) := H
        have A10 := Aside0.mk A100
        clear A100
        by_cases c11 : ((rd_T35 l0 x22_1).f0) ≥ 0
        ·rw [if_pos c11] at H
         have c11b0 : decide (0 ≤ ((rd_T35 l0 x22_1).f0)) = true := decide_eq_true c11
         clear c11
         by_cases c12 : 0 ≤ ((rd_T35 l0 x22_1).f0)
         ·rw [if_pos c12] at H
          have c12b0 : decide (0 ≤ ((rd_T35 l0 x22_1).f0)) = true := decide_eq_true c12
          clear c12
          by_cases c13 : ((rd_T35 l0 x22_1).f0) < (x7_1.length : Int)
          ·rw [if_pos c13] at H
           have c13b0 : decide (((rd_T35 l0 x22_1).f0) < (x7_1.length : Int)) = true := decide_eq_true c13
           clear c13
           replace H := Option.bind_eq_some_iff.mp H
           obtain ⟨⟨t231, t232, t233⟩, A140, H⟩ := H
           replace H : (bones_Places.l1 k1 l1 x7_1 l0 (l0.length : Int) x22_1 0 ((rd_T35 l0 x22_1).f1.f0) ((rd_T35 l0 x22_1).f1.f1) ((rd_T35 l0 x22_1).f1.f2) t224 t225 t226 t227 ((rd_T39 x7_1 ((rd_T35 l0 x22_1).f0)).f0.f0) ((rd_T39 x7_1 ((rd_T35 l0 x22_1).f0)).f0.f1) ((rd_T39 x7_1 ((rd_T35 l0 x22_1).f0)).f0.f2) ((rd_T39 x7_1 ((rd_T35 l0 x22_1).f0)).f1.f0) ((rd_T39 x7_1 ((rd_T35 l0 x22_1).f0)).f1.f1) ((rd_T39 x7_1 ((rd_T35 l0 x22_1).f0)).f1.f2) ((rd_T39 x7_1 ((rd_T35 l0 x22_1).f0)).f1.f3) t231 t232 t233) = some (r1, r2) := H
           have A14 := Aside0.mk A140
           clear A140
           have H' := Aside0.mk H
           clear H
           have p221 : 0 ≤ (x22_1 : Int) := of_decide_eq_true (by first | (with_reducible assumption) | assumption)
           have q221 : x22_1 < (l0.length : Int) := of_decide_eq_true (by first | (with_reducible assumption) | assumption)
           obtain ⟨ad221, e221, hx221_0, hx221_1, hx221_2, hx221_3⟩ := at_T35 HR0.out x22_1 p221 q221
           cases e221
           replace hx221_0 := (HB.out.cell (World.block_lt_of_cell? w _ hx221_0)).trans hx221_0
           replace hx221_1 := (HB.out.cell (World.block_lt_of_cell? w _ hx221_1)).trans hx221_1
           replace hx221_2 := (HB.out.cell (World.block_lt_of_cell? w _ hx221_2)).trans hx221_2
           replace hx221_3 := (HB.out.cell (World.block_lt_of_cell? w _ hx221_3)).trans hx221_3
           replace p221 := eq_true p221
           replace q221 := eq_true q221
           try go_wp2_with (first | ((with_reducible refine gate_dst (N := 9) rfl ?_); refine box_event ?hg (N := 9) ?hd (cs := #[.int .i64 0, .int .i64 0, .int .i64 0, .int .i64 0]) (t := 35) ?hr ?_; (case hd => rfl); (case hg => rfl); (case hr => first | (go_simp; done) | (go_simp; rfl)); intro gb222 hg w15 hbox hb; have n0_ := Aside0.mk (Kd.R_below (by (with_reducible repeat (first | apply Kd.R_alloc | apply Kd.R_drewN | apply Kd.R_drew)); exact HO_7.out) hb); have n1_ := Aside0.mk (below_step (by repeat (first | (with_reducible first | exact HB.out | apply below_alloc | apply pw_below_drewN | apply below_drew1) | exact HB.out)) hb); have n2_ := Aside0.mk (hbox); have n3_ := Aside0.mk ((by rw [hg]; exact (below_size (by repeat (first | (with_reducible first | exact HB.out | apply below_alloc | apply pw_below_drewN | apply below_drew1) | exact HB.out))) : w.heap.size ≤ gb222)); have n4_ := Aside0.mk ((by rw [hg]; exact (below_size (by repeat (first | (with_reducible first | exact HB.out | apply below_alloc | apply pw_below_drewN | apply below_drew1) | exact HB.out))) : w.heap.size ≤ gb222)); clear HO_7; clear HB; have HO_7 := n0_; have HB := n1_; have BK222 := n2_; have GW222 := n3_; have GE222 := n4_; clear n0_ n1_ n2_ n3_ n4_; clear hb hbox hg; obtain ⟨hcz16_0, hcz16_1, hcz16_2, hcz16_3⟩ := blk4 BK222.out; obtain ⟨hfz16_0, hfz16_1, hfz16_2, hfz16_3⟩ := frz4 BK222.out))
           have n0_ : Aside0 (Kd.R k39 39 ((((w15.setCell ⟨gb222, 0, none⟩ (.int .i64 ((rd_T35 l0 x22_1).f0))).setCell ⟨gb222, 1, none⟩ (.int .i64 ((rd_T35 l0 x22_1).f1.f0))).setCell ⟨gb222, 2, none⟩ (.int .i64 ((rd_T35 l0 x22_1).f1.f1))).setCell ⟨gb222, 3, none⟩ (.int .i64 ((rd_T35 l0 x22_1).f1.f2))) w.heap.size (fun _ => True) u7 x7_1) := ⟨by (with_reducible repeat (first | apply Kd.R_alloc | apply Kd.R_drewN | apply Kd.R_drew)); exact Kd.R_mono (Kd.R_far (p := ⟨gb222, 3, none⟩) (Kd.R_far (p := ⟨gb222, 2, none⟩) (Kd.R_far (p := ⟨gb222, 1, none⟩) (Kd.R_far (p := ⟨gb222, 0, none⟩) (Kd.R_types HO_7.out BK222.out (by decide)) (fun _ hk => hk.2) (.int .i64 ((rd_T35 l0 x22_1).f0))) (fun _ hk => hk.2) (.int .i64 ((rd_T35 l0 x22_1).f1.f0))) (fun _ hk => hk.2) (.int .i64 ((rd_T35 l0 x22_1).f1.f1))) (fun _ hk => hk.2) (.int .i64 ((rd_T35 l0 x22_1).f1.f2))) (fun _ hk => trivial)⟩
           have n1_ : Aside0 (((((w15.setCell ⟨gb222, 0, none⟩ (.int .i64 ((rd_T35 l0 x22_1).f0))).setCell ⟨gb222, 1, none⟩ (.int .i64 ((rd_T35 l0 x22_1).f1.f0))).setCell ⟨gb222, 2, none⟩ (.int .i64 ((rd_T35 l0 x22_1).f1.f1))).setCell ⟨gb222, 3, none⟩ (.int .i64 ((rd_T35 l0 x22_1).f1.f2))).heap[gb222]? = some (.cells #[.int .i64 ((rd_T35 l0 x22_1).f0), .int .i64 ((rd_T35 l0 x22_1).f1.f0), .int .i64 ((rd_T35 l0 x22_1).f1.f1), .int .i64 ((rd_T35 l0 x22_1).f1.f2)] 35 (0, 0))) := ⟨by (with_reducible repeat (first | refine blk_drewN ?_ _ | refine blk_drew ?_ | refine blk_alloc ?_ _)); refine blk_put (cs := #[.int .i64 ((rd_T35 l0 x22_1).f0), .int .i64 ((rd_T35 l0 x22_1).f1.f0), .int .i64 ((rd_T35 l0 x22_1).f1.f1), .int .i64 0]) ?_ 3 _ rfl; refine blk_put (cs := #[.int .i64 ((rd_T35 l0 x22_1).f0), .int .i64 ((rd_T35 l0 x22_1).f1.f0), .int .i64 0, .int .i64 0]) ?_ 2 _ rfl; refine blk_put (cs := #[.int .i64 ((rd_T35 l0 x22_1).f0), .int .i64 0, .int .i64 0, .int .i64 0]) ?_ 1 _ rfl; refine blk_put (cs := #[.int .i64 0, .int .i64 0, .int .i64 0, .int .i64 0]) ?_ 0 _ rfl; exact BK222.out⟩
           have n2_ : Aside0 (Below w.heap.size w ((((w15.setCell ⟨gb222, 0, none⟩ (.int .i64 ((rd_T35 l0 x22_1).f0))).setCell ⟨gb222, 1, none⟩ (.int .i64 ((rd_T35 l0 x22_1).f1.f0))).setCell ⟨gb222, 2, none⟩ (.int .i64 ((rd_T35 l0 x22_1).f1.f1))).setCell ⟨gb222, 3, none⟩ (.int .i64 ((rd_T35 l0 x22_1).f1.f2)))) := ⟨by repeat (first | (with_reducible first | exact HB.out | apply below_alloc | apply pw_below_drewN | apply below_drew1 | refine below_set ?_ GE222.out) | exact HB.out)⟩
           (try clear HO_7)
           (try clear BK222)
           (try clear HB)
           generalize ((((w15.setCell ⟨gb222, 0, none⟩ (.int .i64 ((rd_T35 l0 x22_1).f0))).setCell ⟨gb222, 1, none⟩ (.int .i64 ((rd_T35 l0 x22_1).f1.f0))).setCell ⟨gb222, 2, none⟩ (.int .i64 ((rd_T35 l0 x22_1).f1.f1))).setCell ⟨gb222, 3, none⟩ (.int .i64 ((rd_T35 l0 x22_1).f1.f2))) = w17 at n0_ n1_ n2_ ⊢
           have HO_7 := n0_
           have BK222 := n1_
           have HB := n2_
           clear n0_ n1_ n2_
           have n0_ := Aside0.mk (Kd.R_drew HO_7.out)
           have n1_ := Aside0.mk (blk_drew BK222.out)
           have n2_ := Aside0.mk (below_drew1 HB.out)
           clear HO_7
           clear BK222
           clear HB
           have HO_7 := n0_
           have BK222 := n1_
           have HB := n2_
           clear n0_ n1_ n2_
           have p223 : 0 ≤ (x22_1 : Int) := of_decide_eq_true (by first | (with_reducible assumption) | assumption)
           have q223 : x22_1 < (l1.length : Int) := of_decide_eq_true (by first | (with_reducible assumption) | assumption)
           obtain ⟨ad223, e223, hx223_0, hx223_1, hx223_2, hx223_3⟩ := at_T37 HR1.out x22_1 p223 q223
           have hw223_3 := hx223_3
           have hw223_2 := hx223_2
           have hw223_1 := hx223_1
           have hw223_0 := hx223_0
           cases e223
           replace hx223_0 := (HB.out.cell (World.block_lt_of_cell? w _ hx223_0)).trans hx223_0
           replace hx223_1 := (HB.out.cell (World.block_lt_of_cell? w _ hx223_1)).trans hx223_1
           replace hx223_2 := (HB.out.cell (World.block_lt_of_cell? w _ hx223_2)).trans hx223_2
           replace hx223_3 := (HB.out.cell (World.block_lt_of_cell? w _ hx223_3)).trans hx223_3
           replace p223 := eq_true p223
           replace q223 := eq_true q223
           refine start_ (n := 10) (S := fun w' => w'.cell? ⟨gb222, 0, none⟩ = some (.int .i64 ((rd_T35 l0 x22_1).f0)) ∧ w'.cell? ⟨gb222, 1, none⟩ = some (.int .i64 ((rd_T35 l0 x22_1).f1.f0)) ∧ w'.cell? ⟨gb222, 2, none⟩ = some (.int .i64 ((rd_T35 l0 x22_1).f1.f1)) ∧ w'.cell? ⟨gb222, 3, none⟩ = some (.int .i64 ((rd_T35 l0 x22_1).f1.f2)) ∧ w'.cell? (ad223.add ((x22_1).toNat * 4)) = some (.int .i64 ((rd_T37 l1 x22_1).f0)) ∧ w'.cell? ⟨(ad223.add ((x22_1).toNat * 4)).block, (ad223.add ((x22_1).toNat * 4)).off + 1, none⟩ = some (.int .i64 ((rd_T37 l1 x22_1).f1)) ∧ w'.cell? ⟨(ad223.add ((x22_1).toNat * 4)).block, (ad223.add ((x22_1).toNat * 4)).off + 2, none⟩ = some (.int .i64 ((rd_T37 l1 x22_1).f2)) ∧ w'.cell? ⟨(ad223.add ((x22_1).toNat * 4)).block, (ad223.add ((x22_1).toNat * 4)).off + 3, none⟩ = some (.int .i64 ((rd_T37 l1 x22_1).f3))) (ds := []) (ab 10 0) (by kernel_rfl) rfl rfl ⟨(blk_cell BK222.out 0).trans rfl, (blk_cell BK222.out 1).trans rfl, (blk_cell BK222.out 2).trans rfl, (blk_cell BK222.out 3).trans rfl, ((HB.out.cell (World.block_lt_of_cell? w _ hw223_0)).trans hw223_0), ((HB.out.cell (World.block_lt_of_cell? w _ hw223_1)).trans hw223_1), ((HB.out.cell (World.block_lt_of_cell? w _ hw223_2)).trans hw223_2), ((HB.out.cell (World.block_lt_of_cell? w _ hw223_3)).trans hw223_3)⟩ (fun hHeld => ?_); refine with_tabW bones_Places.tab8 bones_Places.bits8 (fun HT_ HW_ => ?_)
           generalize w17.drew = w18 at HO_7 BK222 HB hx223_0 hx223_1 hx223_2 hx223_3 hHeld ⊢
           refine pure_ (i := 0) (N := some 27) (v := ?_) (a' := ?_) (ab 10 1) rfl rfl (any_of HT_.out (by kernel_rfl)) (fun _ _ _ h => h) (Or.inl ⟨by rfl, ?_⟩) ?_ ?_
           rotate_left
           ·intro w'
            go_simp
            with_reducible rfl
           rotate_left
           ·simp only [Act.put, zq1, zq2, zq3, i64_w, i32_w]
            rfl
           refine pure_ (i := 2) (N := some 29) (v := ?_) (a' := ?_) (ab 10 5) rfl rfl (any_of HT_.out (by kernel_rfl)) (fun _ _ _ h => h) (Or.inl ⟨by rfl, ?_⟩) ?_ ?_
           rotate_left
           ·intro w'
            go_simp
            with_reducible rfl
           rotate_left
           ·simp only [Act.put, zq1, zq2, zq3, i64_w, i32_w]
            rfl
           refine pure_ (i := 3) (N := some 30) (v := ?_) (a' := ?_) (ab 10 13) rfl rfl (any_of HT_.out (by kernel_rfl)) (fun _ _ _ h => h) (Or.inl ⟨by rfl, ?_⟩) ?_ ?_
           rotate_left
           ·intro w'
            go_simp
            with_reducible rfl
           rotate_left
           ·simp only [Act.put, zq1, zq2, zq3, i64_w, i32_w]
            rfl
           refine pure_ (i := 4) (N := some 31) (v := ?_) (a' := ?_) (ab 10 29) rfl rfl (any_of HT_.out (by kernel_rfl)) (fun _ _ _ h => h) (Or.inl ⟨by rfl, ?_⟩) ?_ ?_
           rotate_left
           ·intro w'
            go_simp
            with_reducible rfl
           rotate_left
           ·simp only [Act.put, zq1, zq2, zq3, i64_w, i32_w]
            rfl
           refine take_ (i := 1) (N := some 28) (v := ?_) (a' := ?_) (ab 10 31) rfl rfl (take_ofW HT_.out HW_.out (by kernel_rfl)) (fun _ _ _ h => h) (Or.inl ⟨by rfl, ?_⟩) hHeld ?_ ?_
           rotate_left
           ·rintro w' ⟨s0, s1, s2, s3, s4, s5, s6, s7⟩
            go_simp
            with_reducible rfl
           rotate_left
           ·simp only [Act.put, zq1, zq2, zq3, i64_w, i32_w]
            rfl
           refine take_ (i := 5) (N := some 32) (v := ?_) (a' := ?_) (ab 10 63) rfl rfl (take_ofW HT_.out HW_.out (by kernel_rfl)) (fun _ _ _ h => h) (Or.inl ⟨by rfl, ?_⟩) hHeld ?_ ?_
           rotate_left
           ·rintro w' ⟨s0, s1, s2, s3, s4, s5, s6, s7⟩
            go_simp
            with_reducible rfl
           rotate_left
           ·simp only [Act.put, zq1, zq2, zq3, i64_w, i32_w]
            rfl
           refine join_ (σ := Nat) 1 (ab 10 511) (fun s_ => [(33, .agg #[.int .i64 t224, .int .i64 t225, .int .i64 t226, .int .i64 t227]), (10, .pointer (some ⟨s_, 0, none⟩)), (34, .agg #[.int .i64 ((rd_T35 l0 x22_1).f1.f0), .int .i64 ((rd_T35 l0 x22_1).f1.f1), .int .i64 ((rd_T35 l0 x22_1).f1.f2), .int .i64 t224, .int .i64 t225, .int .i64 t226, .int .i64 t227])]) (fun s_ w' => (w'.cell? ⟨gb222, 0, none⟩ = some (.int .i64 ((rd_T35 l0 x22_1).f0)) ∧ w'.cell? ⟨gb222, 1, none⟩ = some (.int .i64 ((rd_T35 l0 x22_1).f1.f0)) ∧ w'.cell? ⟨gb222, 2, none⟩ = some (.int .i64 ((rd_T35 l0 x22_1).f1.f1)) ∧ w'.cell? ⟨gb222, 3, none⟩ = some (.int .i64 ((rd_T35 l0 x22_1).f1.f2)) ∧ w'.cell? (ad223.add ((x22_1).toNat * 4)) = some (.int .i64 ((rd_T37 l1 x22_1).f0)) ∧ w'.cell? ⟨(ad223.add ((x22_1).toNat * 4)).block, (ad223.add ((x22_1).toNat * 4)).off + 1, none⟩ = some (.int .i64 ((rd_T37 l1 x22_1).f1)) ∧ w'.cell? ⟨(ad223.add ((x22_1).toNat * 4)).block, (ad223.add ((x22_1).toNat * 4)).off + 2, none⟩ = some (.int .i64 ((rd_T37 l1 x22_1).f2)) ∧ w'.cell? ⟨(ad223.add ((x22_1).toNat * 4)).block, (ad223.add ((x22_1).toNat * 4)).off + 3, none⟩ = some (.int .i64 ((rd_T37 l1 x22_1).f3))) ∧ (Kd.R k39 39 w' w.heap.size (fun k_ => k_ ≠ s_) u7 x7_1) ∧ (w'.heap[gb222]? = some (.cells #[.int .i64 ((rd_T35 l0 x22_1).f0), .int .i64 ((rd_T35 l0 x22_1).f1.f0), .int .i64 ((rd_T35 l0 x22_1).f1.f1), .int .i64 ((rd_T35 l0 x22_1).f1.f2)] 35 (0, 0))) ∧ (w'.heap[s_]? = some (.cells #[.int .i64 0, .int .i64 0, .int .i64 0, .int .i64 0, .int .i64 0, .int .i64 0, .int .i64 0] 39 (0, 0))) ∧ (w.heap.size ≤ s_) ∧ (w.heap.size ≤ s_) ∧ (gb222 ≠ s_) ∧ (s_ ≠ gb222) ∧ (Below w.heap.size w w')) ?_ ?_
           rotate_left
           ·intro hCont
            refine two_ (i := 6) (j := 8) (Ni := some 33) (Nj := some 10) (ab 10 127) (ab 10 319) rfl rfl rfl rfl (two_of HT_.out (by kernel_rfl)) (by decide) (by decide) (fun K hK => ?_) (fun K hK => ?_)
            ·skip
             refine goes_ Try.func22 (by kernel_rfl) rfl #[.agg #[.int .i64 ((rd_T37 l1 x22_1).f0), .int .i64 ((rd_T37 l1 x22_1).f1), .int .i64 ((rd_T37 l1 x22_1).f2), .int .i64 ((rd_T37 l1 x22_1).f3)]] (by rfl) rfl rfl (by (try simp only [zm1, zm2, zm3]); first | done | rfl) ?_
             with_reducible refine (quat_Unit.calls k1 ((rd_T37 l1 x22_1).f0) ((rd_T37 l1 x22_1).f1) ((rd_T37 l1 x22_1).f2) ((rd_T37 l1 x22_1).f3) t224 t225 t226 t227 _ A10.out).mono ?_
             rintro e w19 ⟨rfl, hb⟩
             refine ⟨_, rfl, ?_⟩
             have n0_ := Aside0.mk (Kd.R_below (by (with_reducible repeat (first | apply Kd.R_alloc | apply Kd.R_drewN | apply Kd.R_drew)); exact HO_7.out) hb)
             have n1_ := Aside0.mk (bb hb BK222.out)
             have n2_ := Aside0.mk (below_step (by repeat (first | (with_reducible first | exact HB.out | apply below_alloc | apply pw_below_drewN | apply below_drew1 | refine below_set ?_ GE222.out) | exact HB.out)) hb)
             clear HO_7
             clear BK222
             clear HB
             have HO_7 := n0_
             have BK222 := n1_
             have HB := n2_
             clear n0_ n1_ n2_
             (try clear hb)
             (try clear hb2)
             (try clear hk)
             (try clear hi)
             refine hK.out _ _ ⟨(blk_cell BK222.out 0).trans rfl, (blk_cell BK222.out 1).trans rfl, (blk_cell BK222.out 2).trans rfl, (blk_cell BK222.out 3).trans rfl, ((HB.out.cell (World.block_lt_of_cell? w _ hw223_0)).trans hw223_0), ((HB.out.cell (World.block_lt_of_cell? w _ hw223_1)).trans hw223_1), ((HB.out.cell (World.block_lt_of_cell? w _ hw223_2)).trans hw223_2), ((HB.out.cell (World.block_lt_of_cell? w _ hw223_3)).trans hw223_3)⟩ (fun hHeld => ?_)
             clear hK K
             refine norm_ (a' := ?_) ?_ ?_
             rotate_left
             ·show Act.put _ (some 33) _ = _
              simp only [Act.put, zq1, zq2, zq3, i64_w, i32_w]
              rfl
             refine pure_ (i := 7) (N := some 34) (v := ?_) (a' := ?_) (ab 10 255) rfl rfl (any_of HT_.out (by kernel_rfl)) (fun _ _ _ h => h) (Or.inl ⟨by rfl, ?_⟩) ?_ ?_
             rotate_left
             ·intro w'
              go_simp
              with_reducible rfl
             rotate_left
             ·simp only [Act.put, zq1, zq2, zq3, i64_w, i32_w]
              rfl
             refine one_ (i := 8) (N := some 10) (ab 10 511) rfl rfl (one_of HT_.out (by kernel_rfl)) (by decide) (fun K hK => ?_)
             refine box_step ?hg (N := 10) ?hd (cs := #[.int .i64 0, .int .i64 0, .int .i64 0, .int .i64 0, .int .i64 0, .int .i64 0, .int .i64 0]) (t := 39) ?hr ?_; (case hd => rfl); (case hg => rfl); (case hr => first | (go_simp; done) | (go_simp; rfl))
             intro gb228 hg w20 hbox hb
             have n0_ := Aside0.mk (Kd.R_below (Kd.R_elderB (by (with_reducible repeat (first | apply Kd.R_alloc | apply Kd.R_drewN | apply Kd.R_drew)); exact HO_7.out) gb228 (Nat.le_of_eq hg.symm)) hb)
             have n1_ := Aside0.mk (bb hb BK222.out)
             have n2_ := Aside0.mk (below_step (by repeat (first | (with_reducible first | exact HB.out | apply below_alloc | apply pw_below_drewN | apply below_drew1 | refine below_set ?_ GE222.out) | exact HB.out)) hb)
             have n3_ := Aside0.mk (hbox)
             have n4_ := Aside0.mk ((by rw [hg]; exact (below_size (by repeat (first | (with_reducible first | exact HB.out | apply below_alloc | apply pw_below_drewN | apply below_drew1 | refine below_set ?_ GE222.out) | exact HB.out))) : w.heap.size ≤ gb228))
             have n5_ := Aside0.mk ((by rw [hg]; exact (below_size (by repeat (first | (with_reducible first | exact HB.out | apply below_alloc | apply pw_below_drewN | apply below_drew1 | refine below_set ?_ GE222.out) | exact HB.out))) : w.heap.size ≤ gb228))
             have n6_ := Aside0.mk (nl hg BK222.out)
             have n7_ := Aside0.mk (ng hg BK222.out)
             clear HO_7
             clear BK222
             clear HB
             have HO_7 := n0_
             have BK222 := n1_
             have HB := n2_
             have BK228 := n3_
             have GW228 := n4_
             have GE228 := n5_
             have NB222_228 := n6_
             have NB228_222 := n7_
             clear n0_ n1_ n2_ n3_ n4_ n5_ n6_ n7_
             clear hb hbox hg
             refine hK.out _ _ ⟨(blk_cell BK222.out 0).trans rfl, (blk_cell BK222.out 1).trans rfl, (blk_cell BK222.out 2).trans rfl, (blk_cell BK222.out 3).trans rfl, ((HB.out.cell (World.block_lt_of_cell? w _ hw223_0)).trans hw223_0), ((HB.out.cell (World.block_lt_of_cell? w _ hw223_1)).trans hw223_1), ((HB.out.cell (World.block_lt_of_cell? w _ hw223_2)).trans hw223_2), ((HB.out.cell (World.block_lt_of_cell? w _ hw223_3)).trans hw223_3)⟩ (fun hHeld => ?_)
             clear hK K
             refine norm_ (a' := ?_) ?_ ?_
             rotate_left
             ·show Act.put _ (some 10) _ = _
              simp only [Act.put, zq1, zq2, zq3, i64_w, i32_w]
              rfl
             exact norm_ (by simp only [putAll, Act.put, zq1, zq2, zq3]) (hCont (gb228) _ ⟨hHeld, (by (with_reducible repeat (first | apply Kd.R_alloc | apply Kd.R_drewN | apply Kd.R_drew)); exact Kd.R_mono HO_7.out (fun _ hk => hk.2)), (by (with_reducible repeat (first | refine blk_drewN ?_ _ | refine blk_drew ?_ | refine blk_alloc ?_ _)); exact BK222.out), (by (with_reducible repeat (first | refine blk_drewN ?_ _ | refine blk_drew ?_ | refine blk_alloc ?_ _)); exact BK228.out), GW228.out, GE228.out, NB222_228.out, NB228_222.out, (by repeat (first | (with_reducible first | exact HB.out | apply below_alloc | apply pw_below_drewN | apply below_drew1 | refine below_set ?_ GE222.out | refine below_set ?_ GE228.out) | exact HB.out))⟩)
            ·skip
             refine box_step ?hg (N := 10) ?hd (cs := #[.int .i64 0, .int .i64 0, .int .i64 0, .int .i64 0, .int .i64 0, .int .i64 0, .int .i64 0]) (t := 39) ?hr ?_; (case hd => rfl); (case hg => rfl); (case hr => first | (go_simp; done) | (go_simp; rfl))
             intro gb228 hg w19 hbox hb
             have n0_ := Aside0.mk (Kd.R_below (Kd.R_elderB (by (with_reducible repeat (first | apply Kd.R_alloc | apply Kd.R_drewN | apply Kd.R_drew)); exact HO_7.out) gb228 (Nat.le_of_eq hg.symm)) hb)
             have n1_ := Aside0.mk (bb hb BK222.out)
             have n2_ := Aside0.mk (below_step (by repeat (first | (with_reducible first | exact HB.out | apply below_alloc | apply pw_below_drewN | apply below_drew1 | refine below_set ?_ GE222.out) | exact HB.out)) hb)
             have n3_ := Aside0.mk (hbox)
             have n4_ := Aside0.mk ((by rw [hg]; exact (below_size (by repeat (first | (with_reducible first | exact HB.out | apply below_alloc | apply pw_below_drewN | apply below_drew1 | refine below_set ?_ GE222.out) | exact HB.out))) : w.heap.size ≤ gb228))
             have n5_ := Aside0.mk ((by rw [hg]; exact (below_size (by repeat (first | (with_reducible first | exact HB.out | apply below_alloc | apply pw_below_drewN | apply below_drew1 | refine below_set ?_ GE222.out) | exact HB.out))) : w.heap.size ≤ gb228))
             have n6_ := Aside0.mk (nl hg BK222.out)
             have n7_ := Aside0.mk (ng hg BK222.out)
             clear HO_7
             clear BK222
             clear HB
             have HO_7 := n0_
             have BK222 := n1_
             have HB := n2_
             have BK228 := n3_
             have GW228 := n4_
             have GE228 := n5_
             have NB222_228 := n6_
             have NB228_222 := n7_
             clear n0_ n1_ n2_ n3_ n4_ n5_ n6_ n7_
             clear hb hbox hg
             refine hK.out _ _ ⟨(blk_cell BK222.out 0).trans rfl, (blk_cell BK222.out 1).trans rfl, (blk_cell BK222.out 2).trans rfl, (blk_cell BK222.out 3).trans rfl, ((HB.out.cell (World.block_lt_of_cell? w _ hw223_0)).trans hw223_0), ((HB.out.cell (World.block_lt_of_cell? w _ hw223_1)).trans hw223_1), ((HB.out.cell (World.block_lt_of_cell? w _ hw223_2)).trans hw223_2), ((HB.out.cell (World.block_lt_of_cell? w _ hw223_3)).trans hw223_3)⟩ (fun hHeld => ?_)
             clear hK K
             refine norm_ (a' := ?_) ?_ ?_
             rotate_left
             ·show Act.put _ (some 10) _ = _
              simp only [Act.put, zq1, zq2, zq3, i64_w, i32_w]
              rfl
             refine one_ (i := 6) (N := some 33) (ab 10 383) rfl rfl (one_of HT_.out (by kernel_rfl)) (by decide) (fun K hK => ?_)
             refine goes_ Try.func22 (by kernel_rfl) rfl #[.agg #[.int .i64 ((rd_T37 l1 x22_1).f0), .int .i64 ((rd_T37 l1 x22_1).f1), .int .i64 ((rd_T37 l1 x22_1).f2), .int .i64 ((rd_T37 l1 x22_1).f3)]] (by rfl) rfl rfl (by (try simp only [zm1, zm2, zm3]); first | done | rfl) ?_
             with_reducible refine (quat_Unit.calls k1 ((rd_T37 l1 x22_1).f0) ((rd_T37 l1 x22_1).f1) ((rd_T37 l1 x22_1).f2) ((rd_T37 l1 x22_1).f3) t224 t225 t226 t227 _ A10.out).mono ?_
             rintro e w20 ⟨rfl, hb⟩
             refine ⟨_, rfl, ?_⟩
             have n0_ := Aside0.mk (Kd.R_below (by (with_reducible repeat (first | apply Kd.R_alloc | apply Kd.R_drewN | apply Kd.R_drew)); exact HO_7.out) hb)
             have n1_ := Aside0.mk (bb hb BK222.out)
             have n2_ := Aside0.mk (bb hb BK228.out)
             have n3_ := Aside0.mk (below_step (by repeat (first | (with_reducible first | exact HB.out | apply below_alloc | apply pw_below_drewN | apply below_drew1 | refine below_set ?_ GE222.out | refine below_set ?_ GE228.out) | exact HB.out)) hb)
             clear HO_7
             clear BK222
             clear BK228
             clear HB
             have HO_7 := n0_
             have BK222 := n1_
             have BK228 := n2_
             have HB := n3_
             clear n0_ n1_ n2_ n3_
             (try clear hb)
             (try clear hb2)
             (try clear hk)
             (try clear hi)
             refine hK.out _ _ ⟨(blk_cell BK222.out 0).trans rfl, (blk_cell BK222.out 1).trans rfl, (blk_cell BK222.out 2).trans rfl, (blk_cell BK222.out 3).trans rfl, ((HB.out.cell (World.block_lt_of_cell? w _ hw223_0)).trans hw223_0), ((HB.out.cell (World.block_lt_of_cell? w _ hw223_1)).trans hw223_1), ((HB.out.cell (World.block_lt_of_cell? w _ hw223_2)).trans hw223_2), ((HB.out.cell (World.block_lt_of_cell? w _ hw223_3)).trans hw223_3)⟩ (fun hHeld => ?_)
             clear hK K
             refine norm_ (a' := ?_) ?_ ?_
             rotate_left
             ·show Act.put _ (some 33) _ = _
              simp only [Act.put, zq1, zq2, zq3, i64_w, i32_w]
              rfl
             refine pure_ (i := 7) (N := some 34) (v := ?_) (a' := ?_) (ab 10 511) rfl rfl (any_of HT_.out (by kernel_rfl)) (fun _ _ _ h => h) (Or.inl ⟨by rfl, ?_⟩) ?_ ?_
             rotate_left
             ·intro w'
              go_simp
              with_reducible rfl
             rotate_left
             ·simp only [Act.put, zq1, zq2, zq3, i64_w, i32_w]
              rfl
             exact norm_ (by simp only [putAll, Act.put, zq1, zq2, zq3]) (hCont (gb228) _ ⟨hHeld, (by (with_reducible repeat (first | apply Kd.R_alloc | apply Kd.R_drewN | apply Kd.R_drew)); exact Kd.R_mono HO_7.out (fun _ hk => hk.2)), (by (with_reducible repeat (first | refine blk_drewN ?_ _ | refine blk_drew ?_ | refine blk_alloc ?_ _)); exact BK222.out), (by (with_reducible repeat (first | refine blk_drewN ?_ _ | refine blk_drew ?_ | refine blk_alloc ?_ _)); exact BK228.out), GW228.out, GE228.out, NB222_228.out, NB228_222.out, (by repeat (first | (with_reducible first | exact HB.out | apply below_alloc | apply pw_below_drewN | apply below_drew1 | refine below_set ?_ GE222.out | refine below_set ?_ GE228.out) | exact HB.out))⟩)
           rintro gb228 w21 ⟨hS_, h0_, h1_, h2_, h3_, h4_, h5_, h6_, h7_⟩
           have n0_ : Aside0 (Kd.R k39 39 w21 w.heap.size (fun k_ => k_ ≠ gb228) u7 x7_1) := ⟨h0_⟩
           have n1_ : Aside0 (w21.heap[gb222]? = some (.cells #[.int .i64 ((rd_T35 l0 x22_1).f0), .int .i64 ((rd_T35 l0 x22_1).f1.f0), .int .i64 ((rd_T35 l0 x22_1).f1.f1), .int .i64 ((rd_T35 l0 x22_1).f1.f2)] 35 (0, 0))) := ⟨h1_⟩
           have n2_ : Aside0 (w21.heap[gb228]? = some (.cells #[.int .i64 0, .int .i64 0, .int .i64 0, .int .i64 0, .int .i64 0, .int .i64 0, .int .i64 0] 39 (0, 0))) := ⟨h2_⟩
           have n3_ : Aside0 (w.heap.size ≤ gb228) := ⟨h3_⟩
           have n4_ : Aside0 (w.heap.size ≤ gb228) := ⟨h4_⟩
           have n5_ : Aside0 (gb222 ≠ gb228) := ⟨h5_⟩
           have n6_ : Aside0 (gb228 ≠ gb222) := ⟨h6_⟩
           have n7_ : Aside0 (Below w.heap.size w w21) := ⟨h7_⟩
           clear HO_7
           clear BK222
           clear HB
           clear h0_ h1_ h2_ h3_ h4_ h5_ h6_ h7_
           have HO_7 := n0_
           have BK222 := n1_
           have BK228 := n2_
           have GW228 := n3_
           have GE228 := n4_
           have NB222_228 := n5_
           have NB228_222 := n6_
           have HB := n7_
           clear n0_ n1_ n2_ n3_ n4_ n5_ n6_ n7_
           have hHeld : w21.cell? ⟨gb222, 0, none⟩ = some (.int .i64 ((rd_T35 l0 x22_1).f0)) ∧ w21.cell? ⟨gb222, 1, none⟩ = some (.int .i64 ((rd_T35 l0 x22_1).f1.f0)) ∧ w21.cell? ⟨gb222, 2, none⟩ = some (.int .i64 ((rd_T35 l0 x22_1).f1.f1)) ∧ w21.cell? ⟨gb222, 3, none⟩ = some (.int .i64 ((rd_T35 l0 x22_1).f1.f2)) ∧ w21.cell? (ad223.add ((x22_1).toNat * 4)) = some (.int .i64 ((rd_T37 l1 x22_1).f0)) ∧ w21.cell? ⟨(ad223.add ((x22_1).toNat * 4)).block, (ad223.add ((x22_1).toNat * 4)).off + 1, none⟩ = some (.int .i64 ((rd_T37 l1 x22_1).f1)) ∧ w21.cell? ⟨(ad223.add ((x22_1).toNat * 4)).block, (ad223.add ((x22_1).toNat * 4)).off + 2, none⟩ = some (.int .i64 ((rd_T37 l1 x22_1).f2)) ∧ w21.cell? ⟨(ad223.add ((x22_1).toNat * 4)).block, (ad223.add ((x22_1).toNat * 4)).off + 3, none⟩ = some (.int .i64 ((rd_T37 l1 x22_1).f3)) := hS_
           refine norm_ (a' := ?_) ?_ ?_
           rotate_left
           ·simp only [putAll, Act.put, zq1, zq2, zq3]
            rfl
           refine one_ (i := 9) (N := none) (ab 10 1023) rfl rfl (one_of HT_.out (by kernel_rfl)) (by decide) (fun K hK => ?_)
           have hs22 : w21.cell? ⟨gb228, 0, none⟩ = some (.int .i64 0) := (blk_cell BK228.out 0).trans rfl
           have hfs22 := blk_frozen BK228.out 0
           have hns22_0 := NB222_228.out
           have hms22_0 := NB228_222.out
           have hs23 : w21.cell? ⟨gb228, 1, none⟩ = some (.int .i64 0) := (blk_cell BK228.out 1).trans rfl
           have hfs23 := blk_frozen BK228.out 1
           have hns23_0 := NB222_228.out
           have hms23_0 := NB228_222.out
           have hs24 : w21.cell? ⟨gb228, 2, none⟩ = some (.int .i64 0) := (blk_cell BK228.out 2).trans rfl
           have hfs24 := blk_frozen BK228.out 2
           have hns24_0 := NB222_228.out
           have hms24_0 := NB228_222.out
           have hs25 : w21.cell? ⟨gb228, 3, none⟩ = some (.int .i64 0) := (blk_cell BK228.out 3).trans rfl
           have hfs25 := blk_frozen BK228.out 3
           have hns25_0 := NB222_228.out
           have hms25_0 := NB228_222.out
           have hs26 : w21.cell? ⟨gb228, 4, none⟩ = some (.int .i64 0) := (blk_cell BK228.out 4).trans rfl
           have hfs26 := blk_frozen BK228.out 4
           have hns26_0 := NB222_228.out
           have hms26_0 := NB228_222.out
           have hs27 : w21.cell? ⟨gb228, 5, none⟩ = some (.int .i64 0) := (blk_cell BK228.out 5).trans rfl
           have hfs27 := blk_frozen BK228.out 5
           have hns27_0 := NB222_228.out
           have hms27_0 := NB228_222.out
           have hs28 : w21.cell? ⟨gb228, 6, none⟩ = some (.int .i64 0) := (blk_cell BK228.out 6).trans rfl
           have hfs28 := blk_frozen BK228.out 6
           have hns28_0 := NB222_228.out
           have hms28_0 := NB228_222.out
           refine skip_ (w1 := ?_) (by rfl) rfl ?_ ?_
           rotate_left
           ·go_simp
            rfl
           refine hK.out _ _ ⟨(cf NB222_228.out ((cf NB222_228.out ((cf NB222_228.out ((cf NB222_228.out ((cf NB222_228.out ((cf NB222_228.out ((cf NB222_228.out (hHeld.1)))))))))))))), (cf NB222_228.out ((cf NB222_228.out ((cf NB222_228.out ((cf NB222_228.out ((cf NB222_228.out ((cf NB222_228.out ((cf NB222_228.out (hHeld.2.1)))))))))))))), (cf NB222_228.out ((cf NB222_228.out ((cf NB222_228.out ((cf NB222_228.out ((cf NB222_228.out ((cf NB222_228.out ((cf NB222_228.out (hHeld.2.2.1)))))))))))))), (cf NB222_228.out ((cf NB222_228.out ((cf NB222_228.out ((cf NB222_228.out ((cf NB222_228.out ((cf NB222_228.out ((cf NB222_228.out (hHeld.2.2.2.1)))))))))))))), (cf (by exact (lb hw223_0 GW228.out :)) ((cf (by exact (lb hw223_0 GW228.out :)) ((cf (by exact (lb hw223_0 GW228.out :)) ((cf (by exact (lb hw223_0 GW228.out :)) ((cf (by exact (lb hw223_0 GW228.out :)) ((cf (by exact (lb hw223_0 GW228.out :)) ((cf (by exact (lb hw223_0 GW228.out :)) (hHeld.2.2.2.2.1)))))))))))))), (cf (by exact (lb hw223_1 GW228.out :)) ((cf (by exact (lb hw223_1 GW228.out :)) ((cf (by exact (lb hw223_1 GW228.out :)) ((cf (by exact (lb hw223_1 GW228.out :)) ((cf (by exact (lb hw223_1 GW228.out :)) ((cf (by exact (lb hw223_1 GW228.out :)) ((cf (by exact (lb hw223_1 GW228.out :)) (hHeld.2.2.2.2.2.1)))))))))))))), (cf (by exact (lb hw223_2 GW228.out :)) ((cf (by exact (lb hw223_2 GW228.out :)) ((cf (by exact (lb hw223_2 GW228.out :)) ((cf (by exact (lb hw223_2 GW228.out :)) ((cf (by exact (lb hw223_2 GW228.out :)) ((cf (by exact (lb hw223_2 GW228.out :)) ((cf (by exact (lb hw223_2 GW228.out :)) (hHeld.2.2.2.2.2.2.1)))))))))))))), (cf (by exact (lb hw223_3 GW228.out :)) ((cf (by exact (lb hw223_3 GW228.out :)) ((cf (by exact (lb hw223_3 GW228.out :)) ((cf (by exact (lb hw223_3 GW228.out :)) ((cf (by exact (lb hw223_3 GW228.out :)) ((cf (by exact (lb hw223_3 GW228.out :)) ((cf (by exact (lb hw223_3 GW228.out :)) (hHeld.2.2.2.2.2.2.2))))))))))))))⟩ (fun hHeld => ?_)
           clear hK K
           refine done_ (done_of HT_.out (by kernel_rfl)) ?_
           have hnb29 := NB222_228.out
           have hnc29 := NB228_222.out
           obtain ⟨hcz30_0, hcz30_1, hcz30_2, hcz30_3⟩ := blk4 BK222.out
           obtain ⟨hfz30_0, hfz30_1, hfz30_2, hfz30_3⟩ := frz4 BK222.out
           obtain ⟨Ao31, co31, eo31⟩ := Kd.R_slice HO_7.out
           subst eo31
           have p229 : 0 ≤ (((rd_T35 l0 x22_1).f0) : Int) := of_decide_eq_true (by first | (with_reducible assumption) | assumption)
           have q229 : ((rd_T35 l0 x22_1).f0) < (x7_1.length : Int) := of_decide_eq_true (by first | (with_reducible assumption) | assumption)
           obtain ⟨ad229, e229, hx229_0, hx229_1, hx229_2, hx229_3, hx229_4, hx229_5, hx229_6⟩ := at_T39 (Kd.R_reads' HO_7.out).2.2 ((rd_T35 l0 x22_1).f0) p229 q229
           cases e229
           have hn229_0 : ad229.block ≠ gb228 := Kd.own_blk (Kd.R_away HO_7.out (fun _ hk => hk))
           have hn229_1 : ad229.block ≠ gb228 := Kd.own_blk (Kd.R_away HO_7.out (fun _ hk => hk))
           have hn229_2 : ad229.block ≠ gb228 := Kd.own_blk (Kd.R_away HO_7.out (fun _ hk => hk))
           have hn229_3 : ad229.block ≠ gb228 := Kd.own_blk (Kd.R_away HO_7.out (fun _ hk => hk))
           have hn229_4 : ad229.block ≠ gb228 := Kd.own_blk (Kd.R_away HO_7.out (fun _ hk => hk))
           have hn229_5 : ad229.block ≠ gb228 := Kd.own_blk (Kd.R_away HO_7.out (fun _ hk => hk))
           have hn229_6 : ad229.block ≠ gb228 := Kd.own_blk (Kd.R_away HO_7.out (fun _ hk => hk))
           replace hx229_0 := (cell_far (p := ⟨gb228, 0, none⟩) (by first | exact nb hn229_0 | exact hn229_0) (.int .i64 ((rd_T35 l0 x22_1).f1.f0))).trans hx229_0
           replace hx229_1 := (cell_far (p := ⟨gb228, 0, none⟩) (by first | exact nb hn229_0 | exact hn229_0) (.int .i64 ((rd_T35 l0 x22_1).f1.f0))).trans hx229_1
           replace hx229_2 := (cell_far (p := ⟨gb228, 0, none⟩) (by first | exact nb hn229_0 | exact hn229_0) (.int .i64 ((rd_T35 l0 x22_1).f1.f0))).trans hx229_2
           replace hx229_3 := (cell_far (p := ⟨gb228, 0, none⟩) (by first | exact nb hn229_0 | exact hn229_0) (.int .i64 ((rd_T35 l0 x22_1).f1.f0))).trans hx229_3
           replace hx229_4 := (cell_far (p := ⟨gb228, 0, none⟩) (by first | exact nb hn229_0 | exact hn229_0) (.int .i64 ((rd_T35 l0 x22_1).f1.f0))).trans hx229_4
           replace hx229_5 := (cell_far (p := ⟨gb228, 0, none⟩) (by first | exact nb hn229_0 | exact hn229_0) (.int .i64 ((rd_T35 l0 x22_1).f1.f0))).trans hx229_5
           replace hx229_6 := (cell_far (p := ⟨gb228, 0, none⟩) (by first | exact nb hn229_0 | exact hn229_0) (.int .i64 ((rd_T35 l0 x22_1).f1.f0))).trans hx229_6
           replace hx229_0 := (cell_far (p := ⟨gb228, 1, none⟩) (by first | exact nb hn229_1 | exact hn229_1) (.int .i64 ((rd_T35 l0 x22_1).f1.f1))).trans hx229_0
           replace hx229_1 := (cell_far (p := ⟨gb228, 1, none⟩) (by first | exact nb hn229_1 | exact hn229_1) (.int .i64 ((rd_T35 l0 x22_1).f1.f1))).trans hx229_1
           replace hx229_2 := (cell_far (p := ⟨gb228, 1, none⟩) (by first | exact nb hn229_1 | exact hn229_1) (.int .i64 ((rd_T35 l0 x22_1).f1.f1))).trans hx229_2
           replace hx229_3 := (cell_far (p := ⟨gb228, 1, none⟩) (by first | exact nb hn229_1 | exact hn229_1) (.int .i64 ((rd_T35 l0 x22_1).f1.f1))).trans hx229_3
           replace hx229_4 := (cell_far (p := ⟨gb228, 1, none⟩) (by first | exact nb hn229_1 | exact hn229_1) (.int .i64 ((rd_T35 l0 x22_1).f1.f1))).trans hx229_4
           replace hx229_5 := (cell_far (p := ⟨gb228, 1, none⟩) (by first | exact nb hn229_1 | exact hn229_1) (.int .i64 ((rd_T35 l0 x22_1).f1.f1))).trans hx229_5
           replace hx229_6 := (cell_far (p := ⟨gb228, 1, none⟩) (by first | exact nb hn229_1 | exact hn229_1) (.int .i64 ((rd_T35 l0 x22_1).f1.f1))).trans hx229_6
           replace hx229_0 := (cell_far (p := ⟨gb228, 2, none⟩) (by first | exact nb hn229_2 | exact hn229_2) (.int .i64 ((rd_T35 l0 x22_1).f1.f2))).trans hx229_0
           replace hx229_1 := (cell_far (p := ⟨gb228, 2, none⟩) (by first | exact nb hn229_2 | exact hn229_2) (.int .i64 ((rd_T35 l0 x22_1).f1.f2))).trans hx229_1
           replace hx229_2 := (cell_far (p := ⟨gb228, 2, none⟩) (by first | exact nb hn229_2 | exact hn229_2) (.int .i64 ((rd_T35 l0 x22_1).f1.f2))).trans hx229_2
           replace hx229_3 := (cell_far (p := ⟨gb228, 2, none⟩) (by first | exact nb hn229_2 | exact hn229_2) (.int .i64 ((rd_T35 l0 x22_1).f1.f2))).trans hx229_3
           replace hx229_4 := (cell_far (p := ⟨gb228, 2, none⟩) (by first | exact nb hn229_2 | exact hn229_2) (.int .i64 ((rd_T35 l0 x22_1).f1.f2))).trans hx229_4
           replace hx229_5 := (cell_far (p := ⟨gb228, 2, none⟩) (by first | exact nb hn229_2 | exact hn229_2) (.int .i64 ((rd_T35 l0 x22_1).f1.f2))).trans hx229_5
           replace hx229_6 := (cell_far (p := ⟨gb228, 2, none⟩) (by first | exact nb hn229_2 | exact hn229_2) (.int .i64 ((rd_T35 l0 x22_1).f1.f2))).trans hx229_6
           replace hx229_0 := (cell_far (p := ⟨gb228, 3, none⟩) (by first | exact nb hn229_3 | exact hn229_3) (.int .i64 t224)).trans hx229_0
           replace hx229_1 := (cell_far (p := ⟨gb228, 3, none⟩) (by first | exact nb hn229_3 | exact hn229_3) (.int .i64 t224)).trans hx229_1
           replace hx229_2 := (cell_far (p := ⟨gb228, 3, none⟩) (by first | exact nb hn229_3 | exact hn229_3) (.int .i64 t224)).trans hx229_2
           replace hx229_3 := (cell_far (p := ⟨gb228, 3, none⟩) (by first | exact nb hn229_3 | exact hn229_3) (.int .i64 t224)).trans hx229_3
           replace hx229_4 := (cell_far (p := ⟨gb228, 3, none⟩) (by first | exact nb hn229_3 | exact hn229_3) (.int .i64 t224)).trans hx229_4
           replace hx229_5 := (cell_far (p := ⟨gb228, 3, none⟩) (by first | exact nb hn229_3 | exact hn229_3) (.int .i64 t224)).trans hx229_5
           replace hx229_6 := (cell_far (p := ⟨gb228, 3, none⟩) (by first | exact nb hn229_3 | exact hn229_3) (.int .i64 t224)).trans hx229_6
           replace hx229_0 := (cell_far (p := ⟨gb228, 4, none⟩) (by first | exact nb hn229_4 | exact hn229_4) (.int .i64 t225)).trans hx229_0
           replace hx229_1 := (cell_far (p := ⟨gb228, 4, none⟩) (by first | exact nb hn229_4 | exact hn229_4) (.int .i64 t225)).trans hx229_1
           replace hx229_2 := (cell_far (p := ⟨gb228, 4, none⟩) (by first | exact nb hn229_4 | exact hn229_4) (.int .i64 t225)).trans hx229_2
           replace hx229_3 := (cell_far (p := ⟨gb228, 4, none⟩) (by first | exact nb hn229_4 | exact hn229_4) (.int .i64 t225)).trans hx229_3
           replace hx229_4 := (cell_far (p := ⟨gb228, 4, none⟩) (by first | exact nb hn229_4 | exact hn229_4) (.int .i64 t225)).trans hx229_4
           replace hx229_5 := (cell_far (p := ⟨gb228, 4, none⟩) (by first | exact nb hn229_4 | exact hn229_4) (.int .i64 t225)).trans hx229_5
           replace hx229_6 := (cell_far (p := ⟨gb228, 4, none⟩) (by first | exact nb hn229_4 | exact hn229_4) (.int .i64 t225)).trans hx229_6
           replace hx229_0 := (cell_far (p := ⟨gb228, 5, none⟩) (by first | exact nb hn229_5 | exact hn229_5) (.int .i64 t226)).trans hx229_0
           replace hx229_1 := (cell_far (p := ⟨gb228, 5, none⟩) (by first | exact nb hn229_5 | exact hn229_5) (.int .i64 t226)).trans hx229_1
           replace hx229_2 := (cell_far (p := ⟨gb228, 5, none⟩) (by first | exact nb hn229_5 | exact hn229_5) (.int .i64 t226)).trans hx229_2
           replace hx229_3 := (cell_far (p := ⟨gb228, 5, none⟩) (by first | exact nb hn229_5 | exact hn229_5) (.int .i64 t226)).trans hx229_3
           replace hx229_4 := (cell_far (p := ⟨gb228, 5, none⟩) (by first | exact nb hn229_5 | exact hn229_5) (.int .i64 t226)).trans hx229_4
           replace hx229_5 := (cell_far (p := ⟨gb228, 5, none⟩) (by first | exact nb hn229_5 | exact hn229_5) (.int .i64 t226)).trans hx229_5
           replace hx229_6 := (cell_far (p := ⟨gb228, 5, none⟩) (by first | exact nb hn229_5 | exact hn229_5) (.int .i64 t226)).trans hx229_6
           replace hx229_0 := (cell_far (p := ⟨gb228, 6, none⟩) (by first | exact nb hn229_6 | exact hn229_6) (.int .i64 t227)).trans hx229_0
           replace hx229_1 := (cell_far (p := ⟨gb228, 6, none⟩) (by first | exact nb hn229_6 | exact hn229_6) (.int .i64 t227)).trans hx229_1
           replace hx229_2 := (cell_far (p := ⟨gb228, 6, none⟩) (by first | exact nb hn229_6 | exact hn229_6) (.int .i64 t227)).trans hx229_2
           replace hx229_3 := (cell_far (p := ⟨gb228, 6, none⟩) (by first | exact nb hn229_6 | exact hn229_6) (.int .i64 t227)).trans hx229_3
           replace hx229_4 := (cell_far (p := ⟨gb228, 6, none⟩) (by first | exact nb hn229_6 | exact hn229_6) (.int .i64 t227)).trans hx229_4
           replace hx229_5 := (cell_far (p := ⟨gb228, 6, none⟩) (by first | exact nb hn229_6 | exact hn229_6) (.int .i64 t227)).trans hx229_5
           replace hx229_6 := (cell_far (p := ⟨gb228, 6, none⟩) (by first | exact nb hn229_6 | exact hn229_6) (.int .i64 t227)).trans hx229_6
           clear hn229_0
           clear hn229_1
           clear hn229_2
           clear hn229_3
           clear hn229_4
           clear hn229_5
           clear hn229_6
           replace p229 := eq_true p229
           replace q229 := eq_true q229
           try go_wp2_with (first | ((with_reducible refine gate_dst (N := 11) rfl ?_); refine box_event ?hg (N := 11) ?hd (cs := #[.int .i64 0, .int .i64 0, .int .i64 0, .int .i64 0, .int .i64 0, .int .i64 0, .int .i64 0]) (t := 39) ?hr ?_; (case hd => rfl); (case hg => rfl); (case hr => first | (go_simp; done) | (go_simp; rfl)); intro gb230 hg w32 hbox hb; have n0_ := Aside0.mk (Kd.R_below (Kd.R_elderB (by (with_reducible repeat (first | apply Kd.R_alloc | apply Kd.R_drewN | apply Kd.R_drew)); exact (Kd.R_mono (Kd.R_far (p := ⟨gb228, 6, none⟩) (Kd.R_far (p := ⟨gb228, 5, none⟩) (Kd.R_far (p := ⟨gb228, 4, none⟩) (Kd.R_far (p := ⟨gb228, 3, none⟩) (Kd.R_far (p := ⟨gb228, 2, none⟩) (Kd.R_far (p := ⟨gb228, 1, none⟩) (Kd.R_far (p := ⟨gb228, 0, none⟩) (Kd.R_mono HO_7.out (fun k_ hk => (⟨hk, hk⟩ : _ ∧ k_ ≠ gb228))) (fun _ hk => hk.2) (.int .i64 ((rd_T35 l0 x22_1).f1.f0))) (fun _ hk => hk.2) (.int .i64 ((rd_T35 l0 x22_1).f1.f1))) (fun _ hk => hk.2) (.int .i64 ((rd_T35 l0 x22_1).f1.f2))) (fun _ hk => hk.2) (.int .i64 t224)) (fun _ hk => hk.2) (.int .i64 t225)) (fun _ hk => hk.2) (.int .i64 t226)) (fun _ hk => hk.2) (.int .i64 t227)) (fun _ h_ => h_.1))) gb230 (Nat.le_of_eq hg.symm)) hb); have n1_ := Aside0.mk (blk_below (g := gb222) (o := .cells #[.int .i64 ((rd_T35 l0 x22_1).f0), .int .i64 ((rd_T35 l0 x22_1).f1.f0), .int .i64 ((rd_T35 l0 x22_1).f1.f1), .int .i64 ((rd_T35 l0 x22_1).f1.f2)] 35 (0, 0)) (by (with_reducible repeat (first | refine blk_drewN ?_ _ | refine blk_drew ?_ | refine blk_alloc ?_ _)); refine blk_far ?_ NB222_228.out _; refine blk_far ?_ NB222_228.out _; refine blk_far ?_ NB222_228.out _; refine blk_far ?_ NB222_228.out _; refine blk_far ?_ NB222_228.out _; refine blk_far ?_ NB222_228.out _; refine blk_far ?_ NB222_228.out _; exact BK222.out) hb); have n2_ := Aside0.mk (blk_below (g := gb228) (o := .cells #[.int .i64 ((rd_T35 l0 x22_1).f1.f0), .int .i64 ((rd_T35 l0 x22_1).f1.f1), .int .i64 ((rd_T35 l0 x22_1).f1.f2), .int .i64 t224, .int .i64 t225, .int .i64 t226, .int .i64 t227] 39 (0, 0)) (by (with_reducible repeat (first | refine blk_drewN ?_ _ | refine blk_drew ?_ | refine blk_alloc ?_ _)); refine blk_put (cs := #[.int .i64 ((rd_T35 l0 x22_1).f1.f0), .int .i64 ((rd_T35 l0 x22_1).f1.f1), .int .i64 ((rd_T35 l0 x22_1).f1.f2), .int .i64 t224, .int .i64 t225, .int .i64 t226, .int .i64 0]) ?_ 6 _ rfl; refine blk_put (cs := #[.int .i64 ((rd_T35 l0 x22_1).f1.f0), .int .i64 ((rd_T35 l0 x22_1).f1.f1), .int .i64 ((rd_T35 l0 x22_1).f1.f2), .int .i64 t224, .int .i64 t225, .int .i64 0, .int .i64 0]) ?_ 5 _ rfl; refine blk_put (cs := #[.int .i64 ((rd_T35 l0 x22_1).f1.f0), .int .i64 ((rd_T35 l0 x22_1).f1.f1), .int .i64 ((rd_T35 l0 x22_1).f1.f2), .int .i64 t224, .int .i64 0, .int .i64 0, .int .i64 0]) ?_ 4 _ rfl; refine blk_put (cs := #[.int .i64 ((rd_T35 l0 x22_1).f1.f0), .int .i64 ((rd_T35 l0 x22_1).f1.f1), .int .i64 ((rd_T35 l0 x22_1).f1.f2), .int .i64 0, .int .i64 0, .int .i64 0, .int .i64 0]) ?_ 3 _ rfl; refine blk_put (cs := #[.int .i64 ((rd_T35 l0 x22_1).f1.f0), .int .i64 ((rd_T35 l0 x22_1).f1.f1), .int .i64 0, .int .i64 0, .int .i64 0, .int .i64 0, .int .i64 0]) ?_ 2 _ rfl; refine blk_put (cs := #[.int .i64 ((rd_T35 l0 x22_1).f1.f0), .int .i64 0, .int .i64 0, .int .i64 0, .int .i64 0, .int .i64 0, .int .i64 0]) ?_ 1 _ rfl; refine blk_put (cs := #[.int .i64 0, .int .i64 0, .int .i64 0, .int .i64 0, .int .i64 0, .int .i64 0, .int .i64 0]) ?_ 0 _ rfl; exact BK228.out) hb); have n3_ := Aside0.mk (below_step (by repeat (first | (with_reducible first | exact HB.out | apply below_alloc | apply pw_below_drewN | apply below_drew1 | refine below_set ?_ GE222.out | refine below_set ?_ GE228.out) | exact HB.out)) hb); have n4_ := Aside0.mk (hbox); have n5_ := Aside0.mk ((by rw [hg]; exact (below_size (by repeat (first | (with_reducible first | exact HB.out | apply below_alloc | apply pw_below_drewN | apply below_drew1 | refine below_set ?_ GE222.out | refine below_set ?_ GE228.out) | exact HB.out))) : w.heap.size ≤ gb230)); have n6_ := Aside0.mk ((by rw [hg]; exact (below_size (by repeat (first | (with_reducible first | exact HB.out | apply below_alloc | apply pw_below_drewN | apply below_drew1 | refine below_set ?_ GE222.out | refine below_set ?_ GE228.out) | exact HB.out))) : w.heap.size ≤ gb230)); have n7_ := Aside0.mk ((by rw [hg]; exact Nat.ne_of_lt (blk_lt (g := gb222) (o := .cells #[.int .i64 ((rd_T35 l0 x22_1).f0), .int .i64 ((rd_T35 l0 x22_1).f1.f0), .int .i64 ((rd_T35 l0 x22_1).f1.f1), .int .i64 ((rd_T35 l0 x22_1).f1.f2)] 35 (0, 0)) (by (with_reducible repeat (first | refine blk_drewN ?_ _ | refine blk_drew ?_ | refine blk_alloc ?_ _)); refine blk_far ?_ NB222_228.out _; refine blk_far ?_ NB222_228.out _; refine blk_far ?_ NB222_228.out _; refine blk_far ?_ NB222_228.out _; refine blk_far ?_ NB222_228.out _; refine blk_far ?_ NB222_228.out _; refine blk_far ?_ NB222_228.out _; exact BK222.out)) : gb222 ≠ gb230)); have n8_ := Aside0.mk ((by rw [hg]; exact Nat.ne_of_gt (blk_lt (g := gb222) (o := .cells #[.int .i64 ((rd_T35 l0 x22_1).f0), .int .i64 ((rd_T35 l0 x22_1).f1.f0), .int .i64 ((rd_T35 l0 x22_1).f1.f1), .int .i64 ((rd_T35 l0 x22_1).f1.f2)] 35 (0, 0)) (by (with_reducible repeat (first | refine blk_drewN ?_ _ | refine blk_drew ?_ | refine blk_alloc ?_ _)); refine blk_far ?_ NB222_228.out _; refine blk_far ?_ NB222_228.out _; refine blk_far ?_ NB222_228.out _; refine blk_far ?_ NB222_228.out _; refine blk_far ?_ NB222_228.out _; refine blk_far ?_ NB222_228.out _; refine blk_far ?_ NB222_228.out _; exact BK222.out)) : gb230 ≠ gb222)); have n9_ := Aside0.mk ((by rw [hg]; exact Nat.ne_of_lt (blk_lt (g := gb228) (o := .cells #[.int .i64 ((rd_T35 l0 x22_1).f1.f0), .int .i64 ((rd_T35 l0 x22_1).f1.f1), .int .i64 ((rd_T35 l0 x22_1).f1.f2), .int .i64 t224, .int .i64 t225, .int .i64 t226, .int .i64 t227] 39 (0, 0)) (by (with_reducible repeat (first | refine blk_drewN ?_ _ | refine blk_drew ?_ | refine blk_alloc ?_ _)); refine blk_put (cs := #[.int .i64 ((rd_T35 l0 x22_1).f1.f0), .int .i64 ((rd_T35 l0 x22_1).f1.f1), .int .i64 ((rd_T35 l0 x22_1).f1.f2), .int .i64 t224, .int .i64 t225, .int .i64 t226, .int .i64 0]) ?_ 6 _ rfl; refine blk_put (cs := #[.int .i64 ((rd_T35 l0 x22_1).f1.f0), .int .i64 ((rd_T35 l0 x22_1).f1.f1), .int .i64 ((rd_T35 l0 x22_1).f1.f2), .int .i64 t224, .int .i64 t225, .int .i64 0, .int .i64 0]) ?_ 5 _ rfl; refine blk_put (cs := #[.int .i64 ((rd_T35 l0 x22_1).f1.f0), .int .i64 ((rd_T35 l0 x22_1).f1.f1), .int .i64 ((rd_T35 l0 x22_1).f1.f2), .int .i64 t224, .int .i64 0, .int .i64 0, .int .i64 0]) ?_ 4 _ rfl; refine blk_put (cs := #[.int .i64 ((rd_T35 l0 x22_1).f1.f0), .int .i64 ((rd_T35 l0 x22_1).f1.f1), .int .i64 ((rd_T35 l0 x22_1).f1.f2), .int .i64 0, .int .i64 0, .int .i64 0, .int .i64 0]) ?_ 3 _ rfl; refine blk_put (cs := #[.int .i64 ((rd_T35 l0 x22_1).f1.f0), .int .i64 ((rd_T35 l0 x22_1).f1.f1), .int .i64 0, .int .i64 0, .int .i64 0, .int .i64 0, .int .i64 0]) ?_ 2 _ rfl; refine blk_put (cs := #[.int .i64 ((rd_T35 l0 x22_1).f1.f0), .int .i64 0, .int .i64 0, .int .i64 0, .int .i64 0, .int .i64 0, .int .i64 0]) ?_ 1 _ rfl; refine blk_put (cs := #[.int .i64 0, .int .i64 0, .int .i64 0, .int .i64 0, .int .i64 0, .int .i64 0, .int .i64 0]) ?_ 0 _ rfl; exact BK228.out)) : gb228 ≠ gb230)); have n10_ := Aside0.mk ((by rw [hg]; exact Nat.ne_of_gt (blk_lt (g := gb228) (o := .cells #[.int .i64 ((rd_T35 l0 x22_1).f1.f0), .int .i64 ((rd_T35 l0 x22_1).f1.f1), .int .i64 ((rd_T35 l0 x22_1).f1.f2), .int .i64 t224, .int .i64 t225, .int .i64 t226, .int .i64 t227] 39 (0, 0)) (by (with_reducible repeat (first | refine blk_drewN ?_ _ | refine blk_drew ?_ | refine blk_alloc ?_ _)); refine blk_put (cs := #[.int .i64 ((rd_T35 l0 x22_1).f1.f0), .int .i64 ((rd_T35 l0 x22_1).f1.f1), .int .i64 ((rd_T35 l0 x22_1).f1.f2), .int .i64 t224, .int .i64 t225, .int .i64 t226, .int .i64 0]) ?_ 6 _ rfl; refine blk_put (cs := #[.int .i64 ((rd_T35 l0 x22_1).f1.f0), .int .i64 ((rd_T35 l0 x22_1).f1.f1), .int .i64 ((rd_T35 l0 x22_1).f1.f2), .int .i64 t224, .int .i64 t225, .int .i64 0, .int .i64 0]) ?_ 5 _ rfl; refine blk_put (cs := #[.int .i64 ((rd_T35 l0 x22_1).f1.f0), .int .i64 ((rd_T35 l0 x22_1).f1.f1), .int .i64 ((rd_T35 l0 x22_1).f1.f2), .int .i64 t224, .int .i64 0, .int .i64 0, .int .i64 0]) ?_ 4 _ rfl; refine blk_put (cs := #[.int .i64 ((rd_T35 l0 x22_1).f1.f0), .int .i64 ((rd_T35 l0 x22_1).f1.f1), .int .i64 ((rd_T35 l0 x22_1).f1.f2), .int .i64 0, .int .i64 0, .int .i64 0, .int .i64 0]) ?_ 3 _ rfl; refine blk_put (cs := #[.int .i64 ((rd_T35 l0 x22_1).f1.f0), .int .i64 ((rd_T35 l0 x22_1).f1.f1), .int .i64 0, .int .i64 0, .int .i64 0, .int .i64 0, .int .i64 0]) ?_ 2 _ rfl; refine blk_put (cs := #[.int .i64 ((rd_T35 l0 x22_1).f1.f0), .int .i64 0, .int .i64 0, .int .i64 0, .int .i64 0, .int .i64 0, .int .i64 0]) ?_ 1 _ rfl; refine blk_put (cs := #[.int .i64 0, .int .i64 0, .int .i64 0, .int .i64 0, .int .i64 0, .int .i64 0, .int .i64 0]) ?_ 0 _ rfl; exact BK228.out)) : gb230 ≠ gb228)); clear HO_7; clear BK222; clear BK228; clear HB; have HO_7 := n0_; have BK222 := n1_; have BK228 := n2_; have HB := n3_; have BK230 := n4_; have GW230 := n5_; have GE230 := n6_; have NB222_230 := n7_; have NB230_222 := n8_; have NB228_230 := n9_; have NB230_228 := n10_; clear n0_ n1_ n2_ n3_ n4_ n5_ n6_ n7_ n8_ n9_ n10_; clear hb hbox hg; have hnb33 := NB230_222.out; have hnc33 := NB222_230.out; have hnb34 := NB230_228.out; have hnc34 := NB228_230.out; have hcz35_0 : w32.cell? ⟨gb230, 0, none⟩ = some (.int .i64 0) := (blk_cell BK230.out 0).trans rfl; have hcz35_1 : w32.cell? ⟨gb230, 1, none⟩ = some (.int .i64 0) := (blk_cell BK230.out 1).trans rfl; have hcz35_2 : w32.cell? ⟨gb230, 2, none⟩ = some (.int .i64 0) := (blk_cell BK230.out 2).trans rfl; have hcz35_3 : w32.cell? ⟨gb230, 3, none⟩ = some (.int .i64 0) := (blk_cell BK230.out 3).trans rfl; have hcz35_4 : w32.cell? ⟨gb230, 4, none⟩ = some (.int .i64 0) := (blk_cell BK230.out 4).trans rfl; have hcz35_5 : w32.cell? ⟨gb230, 5, none⟩ = some (.int .i64 0) := (blk_cell BK230.out 5).trans rfl; have hcz35_6 : w32.cell? ⟨gb230, 6, none⟩ = some (.int .i64 0) := (blk_cell BK230.out 6).trans rfl; have hfz35_0 := blk_frozen BK230.out 0; have hfz35_1 := blk_frozen BK230.out 1; have hfz35_2 := blk_frozen BK230.out 2; have hfz35_3 := blk_frozen BK230.out 3; have hfz35_4 := blk_frozen BK230.out 4; have hfz35_5 := blk_frozen BK230.out 5; have hfz35_6 := blk_frozen BK230.out 6; obtain ⟨hcz36_0, hcz36_1, hcz36_2, hcz36_3⟩ := blk4 BK222.out; obtain ⟨hfz36_0, hfz36_1, hfz36_2, hfz36_3⟩ := frz4 BK222.out) | ((with_reducible refine gate_callee (f := 28) rfl ?_); refine goesL_ (some 47) rfl rfl Try.func28 (by kernel_rfl) rfl #[.agg #[.int .i64 ((rd_T39 x7_1 ((rd_T35 l0 x22_1).f0)).f1.f0), .int .i64 ((rd_T39 x7_1 ((rd_T35 l0 x22_1).f0)).f1.f1), .int .i64 ((rd_T39 x7_1 ((rd_T35 l0 x22_1).f0)).f1.f2), .int .i64 ((rd_T39 x7_1 ((rd_T35 l0 x22_1).f0)).f1.f3)], .agg #[.int .i64 ((rd_T35 l0 x22_1).f1.f0), .int .i64 ((rd_T35 l0 x22_1).f1.f1), .int .i64 ((rd_T35 l0 x22_1).f1.f2)]] rfl (by (try simp only [zm1, zm2, zm3]); first | done | rfl) ?_; (with_reducible refine (quat_Turn.calls k1 ((rd_T39 x7_1 ((rd_T35 l0 x22_1).f0)).f1.f0) ((rd_T39 x7_1 ((rd_T35 l0 x22_1).f0)).f1.f1) ((rd_T39 x7_1 ((rd_T35 l0 x22_1).f0)).f1.f2) ((rd_T39 x7_1 ((rd_T35 l0 x22_1).f0)).f1.f3) ((rd_T35 l0 x22_1).f1.f0) ((rd_T35 l0 x22_1).f1.f1) ((rd_T35 l0 x22_1).f1.f2) t231 t232 t233 _ A14.out).mono ?_); rintro e w37 ⟨rfl, hb⟩; refine ⟨_, rfl, ?_⟩; have n0_ := Aside0.mk (Kd.R_below (by (with_reducible repeat (first | apply Kd.R_alloc | apply Kd.R_drewN | apply Kd.R_drew)); exact (Kd.R_mono (Kd.R_far (p := ⟨gb230, 6, none⟩) (Kd.R_far (p := ⟨gb230, 5, none⟩) (Kd.R_far (p := ⟨gb230, 4, none⟩) (Kd.R_far (p := ⟨gb230, 3, none⟩) (Kd.R_far (p := ⟨gb230, 2, none⟩) (Kd.R_far (p := ⟨gb230, 1, none⟩) (Kd.R_far (p := ⟨gb230, 0, none⟩) (Kd.R_mono HO_7.out (fun k_ hk => (⟨hk, hk.2⟩ : _ ∧ k_ ≠ gb230))) (fun _ hk => hk.2) (.int .i64 ((rd_T39 x7_1 ((rd_T35 l0 x22_1).f0)).f0.f0))) (fun _ hk => hk.2) (.int .i64 ((rd_T39 x7_1 ((rd_T35 l0 x22_1).f0)).f0.f1))) (fun _ hk => hk.2) (.int .i64 ((rd_T39 x7_1 ((rd_T35 l0 x22_1).f0)).f0.f2))) (fun _ hk => hk.2) (.int .i64 ((rd_T39 x7_1 ((rd_T35 l0 x22_1).f0)).f1.f0))) (fun _ hk => hk.2) (.int .i64 ((rd_T39 x7_1 ((rd_T35 l0 x22_1).f0)).f1.f1))) (fun _ hk => hk.2) (.int .i64 ((rd_T39 x7_1 ((rd_T35 l0 x22_1).f0)).f1.f2))) (fun _ hk => hk.2) (.int .i64 ((rd_T39 x7_1 ((rd_T35 l0 x22_1).f0)).f1.f3))) (fun _ h_ => h_.1))) hb); have n1_ := Aside0.mk (blk_below (g := gb222) (o := .cells #[.int .i64 ((rd_T35 l0 x22_1).f0), .int .i64 ((rd_T35 l0 x22_1).f1.f0), .int .i64 ((rd_T35 l0 x22_1).f1.f1), .int .i64 ((rd_T35 l0 x22_1).f1.f2)] 35 (0, 0)) (by (with_reducible repeat (first | refine blk_drewN ?_ _ | refine blk_drew ?_ | refine blk_alloc ?_ _)); refine blk_far ?_ NB222_230.out _; refine blk_far ?_ NB222_230.out _; refine blk_far ?_ NB222_230.out _; refine blk_far ?_ NB222_230.out _; refine blk_far ?_ NB222_230.out _; refine blk_far ?_ NB222_230.out _; refine blk_far ?_ NB222_230.out _; exact BK222.out) hb); have n2_ := Aside0.mk (blk_below (g := gb228) (o := .cells #[.int .i64 ((rd_T35 l0 x22_1).f1.f0), .int .i64 ((rd_T35 l0 x22_1).f1.f1), .int .i64 ((rd_T35 l0 x22_1).f1.f2), .int .i64 t224, .int .i64 t225, .int .i64 t226, .int .i64 t227] 39 (0, 0)) (by (with_reducible repeat (first | refine blk_drewN ?_ _ | refine blk_drew ?_ | refine blk_alloc ?_ _)); refine blk_far ?_ NB228_230.out _; refine blk_far ?_ NB228_230.out _; refine blk_far ?_ NB228_230.out _; refine blk_far ?_ NB228_230.out _; refine blk_far ?_ NB228_230.out _; refine blk_far ?_ NB228_230.out _; refine blk_far ?_ NB228_230.out _; exact BK228.out) hb); have n3_ := Aside0.mk (blk_below (g := gb230) (o := .cells #[.int .i64 ((rd_T39 x7_1 ((rd_T35 l0 x22_1).f0)).f0.f0), .int .i64 ((rd_T39 x7_1 ((rd_T35 l0 x22_1).f0)).f0.f1), .int .i64 ((rd_T39 x7_1 ((rd_T35 l0 x22_1).f0)).f0.f2), .int .i64 ((rd_T39 x7_1 ((rd_T35 l0 x22_1).f0)).f1.f0), .int .i64 ((rd_T39 x7_1 ((rd_T35 l0 x22_1).f0)).f1.f1), .int .i64 ((rd_T39 x7_1 ((rd_T35 l0 x22_1).f0)).f1.f2), .int .i64 ((rd_T39 x7_1 ((rd_T35 l0 x22_1).f0)).f1.f3)] 39 (0, 0)) (by (with_reducible repeat (first | refine blk_drewN ?_ _ | refine blk_drew ?_ | refine blk_alloc ?_ _)); refine blk_put (cs := #[.int .i64 ((rd_T39 x7_1 ((rd_T35 l0 x22_1).f0)).f0.f0), .int .i64 ((rd_T39 x7_1 ((rd_T35 l0 x22_1).f0)).f0.f1), .int .i64 ((rd_T39 x7_1 ((rd_T35 l0 x22_1).f0)).f0.f2), .int .i64 ((rd_T39 x7_1 ((rd_T35 l0 x22_1).f0)).f1.f0), .int .i64 ((rd_T39 x7_1 ((rd_T35 l0 x22_1).f0)).f1.f1), .int .i64 ((rd_T39 x7_1 ((rd_T35 l0 x22_1).f0)).f1.f2), .int .i64 0]) ?_ 6 _ rfl; refine blk_put (cs := #[.int .i64 ((rd_T39 x7_1 ((rd_T35 l0 x22_1).f0)).f0.f0), .int .i64 ((rd_T39 x7_1 ((rd_T35 l0 x22_1).f0)).f0.f1), .int .i64 ((rd_T39 x7_1 ((rd_T35 l0 x22_1).f0)).f0.f2), .int .i64 ((rd_T39 x7_1 ((rd_T35 l0 x22_1).f0)).f1.f0), .int .i64 ((rd_T39 x7_1 ((rd_T35 l0 x22_1).f0)).f1.f1), .int .i64 0, .int .i64 0]) ?_ 5 _ rfl; refine blk_put (cs := #[.int .i64 ((rd_T39 x7_1 ((rd_T35 l0 x22_1).f0)).f0.f0), .int .i64 ((rd_T39 x7_1 ((rd_T35 l0 x22_1).f0)).f0.f1), .int .i64 ((rd_T39 x7_1 ((rd_T35 l0 x22_1).f0)).f0.f2), .int .i64 ((rd_T39 x7_1 ((rd_T35 l0 x22_1).f0)).f1.f0), .int .i64 0, .int .i64 0, .int .i64 0]) ?_ 4 _ rfl; refine blk_put (cs := #[.int .i64 ((rd_T39 x7_1 ((rd_T35 l0 x22_1).f0)).f0.f0), .int .i64 ((rd_T39 x7_1 ((rd_T35 l0 x22_1).f0)).f0.f1), .int .i64 ((rd_T39 x7_1 ((rd_T35 l0 x22_1).f0)).f0.f2), .int .i64 0, .int .i64 0, .int .i64 0, .int .i64 0]) ?_ 3 _ rfl; refine blk_put (cs := #[.int .i64 ((rd_T39 x7_1 ((rd_T35 l0 x22_1).f0)).f0.f0), .int .i64 ((rd_T39 x7_1 ((rd_T35 l0 x22_1).f0)).f0.f1), .int .i64 0, .int .i64 0, .int .i64 0, .int .i64 0, .int .i64 0]) ?_ 2 _ rfl; refine blk_put (cs := #[.int .i64 ((rd_T39 x7_1 ((rd_T35 l0 x22_1).f0)).f0.f0), .int .i64 0, .int .i64 0, .int .i64 0, .int .i64 0, .int .i64 0, .int .i64 0]) ?_ 1 _ rfl; refine blk_put (cs := #[.int .i64 0, .int .i64 0, .int .i64 0, .int .i64 0, .int .i64 0, .int .i64 0, .int .i64 0]) ?_ 0 _ rfl; exact BK230.out) hb); have n4_ := Aside0.mk (below_step (by repeat (first | (with_reducible first | exact HB.out | apply below_alloc | apply pw_below_drewN | apply below_drew1 | refine below_set ?_ GE222.out | refine below_set ?_ GE228.out | refine below_set ?_ GE230.out) | exact HB.out)) hb); clear HO_7; clear BK222; clear BK228; clear BK230; clear HB; have HO_7 := n0_; have BK222 := n1_; have BK228 := n2_; have BK230 := n3_; have HB := n4_; clear n0_ n1_ n2_ n3_ n4_; (try clear hb); (try clear hb2); (try clear hk); (try clear hi)) | ((with_reducible refine gate_dst (N := 12) rfl ?_); refine box_event ?hg (N := 12) ?hd (cs := #[.int .i64 0, .int .i64 0, .int .i64 0]) (t := 33) ?hr ?_; (case hd => rfl); (case hg => rfl); (case hr => first | (go_simp; done) | (go_simp; rfl)); intro gb234 hg w38 hbox hb; have n0_ := Aside0.mk (Kd.R_below (by (with_reducible repeat (first | apply Kd.R_alloc | apply Kd.R_drewN | apply Kd.R_drew)); exact HO_7.out) hb); have n1_ := Aside0.mk (bb hb BK222.out); have n2_ := Aside0.mk (bb hb BK228.out); have n3_ := Aside0.mk (bb hb BK230.out); have n4_ := Aside0.mk (below_step (by repeat (first | (with_reducible first | exact HB.out | apply below_alloc | apply pw_below_drewN | apply below_drew1 | refine below_set ?_ GE222.out | refine below_set ?_ GE228.out | refine below_set ?_ GE230.out) | exact HB.out)) hb); have n5_ := Aside0.mk (hbox); have n6_ := Aside0.mk ((by rw [hg]; exact (below_size (by repeat (first | (with_reducible first | exact HB.out | apply below_alloc | apply pw_below_drewN | apply below_drew1 | refine below_set ?_ GE222.out | refine below_set ?_ GE228.out | refine below_set ?_ GE230.out) | exact HB.out))) : w.heap.size ≤ gb234)); have n7_ := Aside0.mk ((by rw [hg]; exact (below_size (by repeat (first | (with_reducible first | exact HB.out | apply below_alloc | apply pw_below_drewN | apply below_drew1 | refine below_set ?_ GE222.out | refine below_set ?_ GE228.out | refine below_set ?_ GE230.out) | exact HB.out))) : w.heap.size ≤ gb234)); have n8_ := Aside0.mk (nl hg BK222.out); have n9_ := Aside0.mk (ng hg BK222.out); have n10_ := Aside0.mk (nl hg BK228.out); have n11_ := Aside0.mk (ng hg BK228.out); have n12_ := Aside0.mk (nl hg BK230.out); have n13_ := Aside0.mk (ng hg BK230.out); clear HO_7; clear BK222; clear BK228; clear BK230; clear HB; have HO_7 := n0_; have BK222 := n1_; have BK228 := n2_; have BK230 := n3_; have HB := n4_; have BK234 := n5_; have GW234 := n6_; have GE234 := n7_; have NB222_234 := n8_; have NB234_222 := n9_; have NB228_234 := n10_; have NB234_228 := n11_; have NB230_234 := n12_; have NB234_230 := n13_; clear n0_ n1_ n2_ n3_ n4_ n5_ n6_ n7_ n8_ n9_ n10_ n11_ n12_ n13_; clear hb hbox hg; have hnb39 := NB234_222.out; have hnc39 := NB222_234.out; have hnb40 := NB234_228.out; have hnc40 := NB228_234.out; have hnb41 := NB234_230.out; have hnc41 := NB230_234.out; have hcz42_0 : w38.cell? ⟨gb234, 0, none⟩ = some (.int .i64 0) := (blk_cell BK234.out 0).trans rfl; have hcz42_1 : w38.cell? ⟨gb234, 1, none⟩ = some (.int .i64 0) := (blk_cell BK234.out 1).trans rfl; have hcz42_2 : w38.cell? ⟨gb234, 2, none⟩ = some (.int .i64 0) := (blk_cell BK234.out 2).trans rfl; have hfz42_0 := blk_frozen BK234.out 0; have hfz42_1 := blk_frozen BK234.out 1; have hfz42_2 := blk_frozen BK234.out 2))
           go_loopg [48] k1 (fun kq v48 w' => ∃ (x48_2 : Int) (x229000_2 : Int) (x229001_2 : Int) (x229002_2 : Int), v48 = .int .i64 x48_2 ∧ Aside0 (bones_Places.l1 kq l1 x7_1 l0 (l0.length : Int) x22_1 x48_2 x229000_2 x229001_2 x229002_2 t224 t225 t226 t227 ((rd_T39 x7_1 ((rd_T35 l0 x22_1).f0)).f0.f0) ((rd_T39 x7_1 ((rd_T35 l0 x22_1).f0)).f0.f1) ((rd_T39 x7_1 ((rd_T35 l0 x22_1).f0)).f0.f2) ((rd_T39 x7_1 ((rd_T35 l0 x22_1).f0)).f1.f0) ((rd_T39 x7_1 ((rd_T35 l0 x22_1).f0)).f1.f1) ((rd_T39 x7_1 ((rd_T35 l0 x22_1).f0)).f1.f2) ((rd_T39 x7_1 ((rd_T35 l0 x22_1).f0)).f1.f3) t231 t232 t233 = some (r1, r2)) ∧ Aside0 (kq ≤ k1) ∧ Aside0 (Kd.R k39 39 w' w.heap.size (fun k_ => k_ ≠ gb228 ∧ k_ ≠ gb230) (.slice (some ad229) x7_1.length co31) x7_1) ∧ Aside0 (w'.heap[gb222]? = some (.cells #[.int .i64 ((rd_T35 l0 x22_1).f0), .int .i64 ((rd_T35 l0 x22_1).f1.f0), .int .i64 ((rd_T35 l0 x22_1).f1.f1), .int .i64 ((rd_T35 l0 x22_1).f1.f2)] 35 (0, 0))) ∧ Aside0 (w'.heap[gb228]? = some (.cells #[.int .i64 x229000_2, .int .i64 x229001_2, .int .i64 x229002_2, .int .i64 t224, .int .i64 t225, .int .i64 t226, .int .i64 t227] 39 (0, 0))) ∧ Aside0 (w'.heap[gb230]? = some (.cells #[.int .i64 ((rd_T39 x7_1 ((rd_T35 l0 x22_1).f0)).f0.f0), .int .i64 ((rd_T39 x7_1 ((rd_T35 l0 x22_1).f0)).f0.f1), .int .i64 ((rd_T39 x7_1 ((rd_T35 l0 x22_1).f0)).f0.f2), .int .i64 ((rd_T39 x7_1 ((rd_T35 l0 x22_1).f0)).f1.f0), .int .i64 ((rd_T39 x7_1 ((rd_T35 l0 x22_1).f0)).f1.f1), .int .i64 ((rd_T39 x7_1 ((rd_T35 l0 x22_1).f0)).f1.f2), .int .i64 ((rd_T39 x7_1 ((rd_T35 l0 x22_1).f0)).f1.f3)] 39 (0, 0))) ∧ Aside0 (w'.heap[gb234]? = some (.cells #[.int .i64 t231, .int .i64 t232, .int .i64 t233] 33 (0, 0))) ∧ Aside0 (Below w.heap.size w w'))
           case atStart => exact ⟨(0), ((rd_T35 l0 x22_1).f1.f0), ((rd_T35 l0 x22_1).f1.f1), ((rd_T35 l0 x22_1).f1.f2), (by first | rfl | (simp; done) | (simp [*]; done) | (simp; decide +kernel)), H', ⟨Nat.le_refl _⟩, ⟨by (with_reducible repeat (first | apply Kd.R_alloc | apply Kd.R_drewN | apply Kd.R_drew)); exact Kd.R_mono (Kd.R_far (p := ⟨gb234, 2, none⟩) (Kd.R_far (p := ⟨gb234, 1, none⟩) (Kd.R_far (p := ⟨gb234, 0, none⟩) (Kd.R_types HO_7.out BK234.out (by decide)) (fun _ hk => hk.2) (.int .i64 t231)) (fun _ hk => hk.2) (.int .i64 t232)) (fun _ hk => hk.2) (.int .i64 t233)) (fun _ hk => ⟨hk.1.1, hk.1.2⟩)⟩, ⟨by (with_reducible repeat (first | refine blk_drewN ?_ _ | refine blk_drew ?_ | refine blk_alloc ?_ _)); refine blk_far ?_ NB222_234.out _; refine blk_far ?_ NB222_234.out _; refine blk_far ?_ NB222_234.out _; exact BK222.out⟩, ⟨by (with_reducible repeat (first | refine blk_drewN ?_ _ | refine blk_drew ?_ | refine blk_alloc ?_ _)); refine blk_far ?_ NB228_234.out _; refine blk_far ?_ NB228_234.out _; refine blk_far ?_ NB228_234.out _; exact BK228.out⟩, ⟨by (with_reducible repeat (first | refine blk_drewN ?_ _ | refine blk_drew ?_ | refine blk_alloc ?_ _)); refine blk_far ?_ NB230_234.out _; refine blk_far ?_ NB230_234.out _; refine blk_far ?_ NB230_234.out _; exact BK230.out⟩, ⟨by (with_reducible repeat (first | refine blk_drewN ?_ _ | refine blk_drew ?_ | refine blk_alloc ?_ _)); refine blk_put (cs := #[.int .i64 t231, .int .i64 t232, .int .i64 0]) ?_ 2 _ rfl; refine blk_put (cs := #[.int .i64 t231, .int .i64 0, .int .i64 0]) ?_ 1 _ rfl; refine blk_put (cs := #[.int .i64 0, .int .i64 0, .int .i64 0]) ?_ 0 _ rfl; exact BK234.out⟩, ⟨by repeat (first | (with_reducible first | exact HB.out | apply below_alloc | apply pw_below_drewN | apply below_drew1 | refine below_set ?_ GE222.out | refine below_set ?_ GE228.out | refine below_set ?_ GE230.out | refine below_set ?_ GE234.out) | exact HB.out)⟩⟩
           case round =>
            clear H'
            try clear c1; try clear c2; try clear p2; try clear q2; try clear hx2; try clear c3; try clear c4; try clear c4b0
            try clear c4b1; try clear c6; try clear c6b0; try clear p6; try clear c7; try clear c7b0; try clear c8; try clear c8b0
            try clear c9; try clear c9b0; try clear c10; try clear c11; try clear c11b0; try clear c12; try clear c12b0; try clear c13
            try clear c13b0; try clear c22; try clear p22; try clear q22; try clear hx22; try clear c27; try clear c28; try clear c29
            try clear c33; try clear c34; try clear c39; try clear c40; try clear c41; try clear hcz16_0; try clear hcz16_1; try clear hcz16_2
            try clear hcz16_3; try clear hcz30_0; try clear hcz30_1; try clear hcz30_2; try clear hcz30_3; try clear hcz35_0; try clear hcz35_1; try clear hcz35_2
            try clear hcz35_3; try clear hcz35_4; try clear hcz35_5; try clear hcz35_6; try clear hcz36_0; try clear hcz36_1; try clear hcz36_2; try clear hcz36_3
            try clear hcz42_0; try clear hcz42_1; try clear hcz42_2; try clear hfz16_0; try clear hfz16_1; try clear hfz16_2; try clear hfz16_3; try clear hfz30_0
            try clear hfz30_1; try clear hfz30_2; try clear hfz30_3; try clear hfz35_0; try clear hfz35_1; try clear hfz35_2; try clear hfz35_3; try clear hfz35_4
            try clear hfz35_5; try clear hfz35_6; try clear hfz36_0; try clear hfz36_1; try clear hfz36_2; try clear hfz36_3; try clear hfz42_0; try clear hfz42_1
            try clear hfz42_2; try clear hx221_0; try clear hx221_1; try clear hx221_2; try clear hx221_3; try clear hx223_0; try clear hx223_1; try clear hx223_2
            try clear hx223_3; try clear hx229_0; try clear hx229_1; try clear hx229_2; try clear hx229_3; try clear hx229_4; try clear hx229_5; try clear hx229_6
            try clear p2; try clear p221; try clear p223; try clear p229; try clear q221; try clear q223; try clear q229
            obtain ⟨x48_2, x229000_2, x229001_2, x229002_2, rfl, HA, HK2, HO_7, BK222, BK228, BK230, BK234, HB⟩ := hrel
            cases gk with
            | zero => exact absurd HA.out (by simp [bones_Places.l1])
            | succ k2 =>
             have H := HA.out
             clear HA
             simp only [bones_Places.l1] at H
             by_cases c43 : x48_2 < 3
             ·rw [if_pos c43] at H
              have c43b0 : decide (x48_2 < 3) = true := decide_eq_true c43
              clear c43
              by_cases c44 : x48_2 = 0
              ·subst c44
               have H1 : ((fix_Add.f ((rd_T39 x7_1 ((rd_T35 l0 x22_1).f0)).f0.f0) t231).bind fun t235 => (bones_Places.l1 k2 l1 x7_1 l0 (l0.length : Int) x22_1 (wrap64 (0 + 1)) t235 x229001_2 x229002_2 t224 t225 t226 t227 ((rd_T39 x7_1 ((rd_T35 l0 x22_1).f0)).f0.f0) ((rd_T39 x7_1 ((rd_T35 l0 x22_1).f0)).f0.f1) ((rd_T39 x7_1 ((rd_T35 l0 x22_1).f0)).f0.f2) ((rd_T39 x7_1 ((rd_T35 l0 x22_1).f0)).f1.f0) ((rd_T39 x7_1 ((rd_T35 l0 x22_1).f0)).f1.f1) ((rd_T39 x7_1 ((rd_T35 l0 x22_1).f0)).f1.f2) ((rd_T39 x7_1 ((rd_T35 l0 x22_1).f0)).f1.f3) t231 t232 t233)) = some (r1, r2) := by rw [if_pos rfl] at H; exact H
               clear H
               have H := H1
               clear H1
               replace H := Option.bind_eq_some_iff.mp H
               obtain ⟨t235, A450, H⟩ := H
               replace H : (bones_Places.l1 k2 l1 x7_1 l0 (l0.length : Int) x22_1 (wrap64 (0 + 1)) t235 x229001_2 x229002_2 t224 t225 t226 t227 ((rd_T39 x7_1 ((rd_T35 l0 x22_1).f0)).f0.f0) ((rd_T39 x7_1 ((rd_T35 l0 x22_1).f0)).f0.f1) ((rd_T39 x7_1 ((rd_T35 l0 x22_1).f0)).f0.f2) ((rd_T39 x7_1 ((rd_T35 l0 x22_1).f0)).f1.f0) ((rd_T39 x7_1 ((rd_T35 l0 x22_1).f0)).f1.f1) ((rd_T39 x7_1 ((rd_T35 l0 x22_1).f0)).f1.f2) ((rd_T39 x7_1 ((rd_T35 l0 x22_1).f0)).f1.f3) t231 t232 t233) = some (r1, r2) := H
               have A45 := Aside0.mk A450
               clear A450
               have H' := Aside0.mk H
               clear H
               try go_wp2
               have n0_ := Aside0.mk (Kd.R_drew HO_7.out)
               have n1_ := Aside0.mk (blk_drew BK222.out)
               have n2_ := Aside0.mk (blk_drew BK228.out)
               have n3_ := Aside0.mk (blk_drew BK230.out)
               have n4_ := Aside0.mk (blk_drew BK234.out)
               have n5_ := Aside0.mk (below_drew1 HB.out)
               clear HO_7
               clear BK222
               clear BK228
               clear BK230
               clear BK234
               clear HB
               have HO_7 := n0_
               have BK222 := n1_
               have BK228 := n2_
               have BK230 := n3_
               have BK234 := n4_
               have HB := n5_
               clear n0_ n1_ n2_ n3_ n4_ n5_
               refine start_ (n := 12) (S := fun w' => w'.cell? ⟨gb230, 0, none⟩ = some (.int .i64 ((rd_T39 x7_1 ((rd_T35 l0 x22_1).f0)).f0.f0)) ∧ w'.cell? ⟨gb230, 1, none⟩ = some (.int .i64 ((rd_T39 x7_1 ((rd_T35 l0 x22_1).f0)).f0.f1)) ∧ w'.cell? ⟨gb230, 2, none⟩ = some (.int .i64 ((rd_T39 x7_1 ((rd_T35 l0 x22_1).f0)).f0.f2)) ∧ w'.cell? ⟨gb230, 3, none⟩ = some (.int .i64 ((rd_T39 x7_1 ((rd_T35 l0 x22_1).f0)).f1.f0)) ∧ w'.cell? ⟨gb230, 4, none⟩ = some (.int .i64 ((rd_T39 x7_1 ((rd_T35 l0 x22_1).f0)).f1.f1)) ∧ w'.cell? ⟨gb230, 5, none⟩ = some (.int .i64 ((rd_T39 x7_1 ((rd_T35 l0 x22_1).f0)).f1.f2)) ∧ w'.cell? ⟨gb230, 6, none⟩ = some (.int .i64 ((rd_T39 x7_1 ((rd_T35 l0 x22_1).f0)).f1.f3)) ∧ w'.cell? ⟨gb234, 0, none⟩ = some (.int .i64 t231) ∧ w'.cell? ⟨gb234, 1, none⟩ = some (.int .i64 t232) ∧ w'.cell? ⟨gb234, 2, none⟩ = some (.int .i64 t233)) (ds := []) (ab 12 0) (by kernel_rfl) rfl rfl ⟨(blk_cell BK230.out 0).trans rfl, (blk_cell BK230.out 1).trans rfl, (blk_cell BK230.out 2).trans rfl, (blk_cell BK230.out 3).trans rfl, (blk_cell BK230.out 4).trans rfl, (blk_cell BK230.out 5).trans rfl, (blk_cell BK230.out 6).trans rfl, (blk_cell BK234.out 0).trans rfl, (blk_cell BK234.out 1).trans rfl, (blk_cell BK234.out 2).trans rfl⟩ (fun hHeld => ?_); refine with_tabW bones_Places.tab15 bones_Places.bits15 (fun HT_ HW_ => ?_)
               generalize wr.drew = w46 at HO_7 BK222 BK228 BK230 BK234 HB hHeld ⊢
               refine pure_ (i := 0) (N := some 51) (v := ?_) (a' := ?_) (ab 12 1) rfl rfl (any_of HT_.out (by kernel_rfl)) (fun _ _ _ h => h) (Or.inl ⟨by rfl, ?_⟩) ?_ ?_
               rotate_left
               ·intro w'
                go_simp
                with_reducible rfl
               rotate_left
               ·simp only [Act.put, zq1, zq2, zq3, i64_w, i32_w]
                rfl
               refine pure_ (i := 1) (N := some 52) (v := ?_) (a' := ?_) (ab 12 3) rfl rfl (any_of HT_.out (by kernel_rfl)) (fun _ _ _ h => h) (Or.inl ⟨by rfl, ?_⟩) ?_ ?_
               rotate_left
               ·intro w'
                go_simp
                with_reducible rfl
               rotate_left
               ·simp only [Act.put, zq1, zq2, zq3, i64_w, i32_w]
                rfl
               refine pure_ (i := 2) (N := some 53) (v := ?_) (a' := ?_) (ab 12 7) rfl rfl (any_of HT_.out (by kernel_rfl)) (fun _ _ _ h => h) (Or.inl ⟨by rfl, ?_⟩) ?_ ?_
               rotate_left
               ·intro w'
                go_simp
                with_reducible rfl
               rotate_left
               ·simp only [Act.put, zq1, zq2, zq3, i64_w, i32_w]
                rfl
               refine pure_ (i := 3) (N := some 54) (v := ?_) (a' := ?_) (ab 12 15) rfl rfl (any_of HT_.out (by kernel_rfl)) (fun _ _ _ h => h) (Or.inl ⟨by rfl, ?_⟩) ?_ ?_
               rotate_left
               ·intro w'
                go_simp
                with_reducible rfl
               rotate_left
               ·simp only [Act.put, zq1, zq2, zq3, i64_w, i32_w]
                rfl
               refine pure_ (i := 5) (N := some 56) (v := ?_) (a' := ?_) (ab 12 47) rfl rfl (any_of HT_.out (by kernel_rfl)) (fun _ _ _ h => h) (Or.inl ⟨by rfl, ?_⟩) ?_ ?_
               rotate_left
               ·intro w'
                go_simp
                with_reducible rfl
               rotate_left
               ·simp only [Act.put, zq1, zq2, zq3, i64_w, i32_w]
                rfl
               refine pure_ (i := 6) (N := some 57) (v := ?_) (a' := ?_) (ab 12 111) rfl rfl (any_of HT_.out (by kernel_rfl)) (fun _ _ _ h => h) (Or.inl ⟨by rfl, ?_⟩) ?_ ?_
               rotate_left
               ·intro w'
                go_simp
                with_reducible rfl
               rotate_left
               ·simp only [Act.put, zq1, zq2, zq3, i64_w, i32_w]
                rfl
               refine pure_ (i := 9) (N := some 60) (v := ?_) (a' := ?_) (ab 12 623) rfl rfl (any_of HT_.out (by kernel_rfl)) (fun _ _ _ h => h) (Or.inl ⟨by rfl, ?_⟩) ?_ ?_
               rotate_left
               ·intro w'
                go_simp
                with_reducible rfl
               rotate_left
               ·simp only [Act.put, zq1, zq2, zq3, i64_w, i32_w]
                rfl
               refine take_ (i := 4) (N := some 55) (v := ?_) (a' := ?_) (ab 12 639) rfl rfl (take_ofW HT_.out HW_.out (by kernel_rfl)) (fun _ _ _ h => h) (Or.inl ⟨by rfl, ?_⟩) hHeld ?_ ?_
               rotate_left
               ·rintro w' ⟨s0, s1, s2, s3, s4, s5, s6, s7, s8, s9⟩
                go_simp
                with_reducible rfl
               rotate_left
               ·simp only [Act.put, zq1, zq2, zq3, i64_w, i32_w]
                rfl
               refine take_ (i := 7) (N := some 58) (v := ?_) (a' := ?_) (ab 12 767) rfl rfl (take_ofW HT_.out HW_.out (by kernel_rfl)) (fun _ _ _ h => h) (Or.inl ⟨by rfl, ?_⟩) hHeld ?_ ?_
               rotate_left
               ·rintro w' ⟨s0, s1, s2, s3, s4, s5, s6, s7, s8, s9⟩
                go_simp
                with_reducible rfl
               rotate_left
               ·simp only [Act.put, zq1, zq2, zq3, i64_w, i32_w]
                rfl
               refine one_ (i := 8) (N := some 59) (ab 12 1023) rfl rfl (one_of HT_.out (by kernel_rfl)) (by decide) (fun K hK => ?_)
               refine goes_ Try.func23 (by kernel_rfl) rfl #[.int .i64 ((rd_T39 x7_1 ((rd_T35 l0 x22_1).f0)).f0.f0), .int .i64 t231] (by rfl) rfl rfl (by (try simp only [zm1, zm2, zm3]); first | done | rfl) ?_
               with_reducible refine (fix_Add.calls ((rd_T39 x7_1 ((rd_T35 l0 x22_1).f0)).f0.f0) t231 t235 _ A45.out).mono ?_
               rintro e w47 ⟨rfl, hb⟩
               refine ⟨_, rfl, ?_⟩
               have n0_ := Aside0.mk (Kd.R_below (by (with_reducible repeat (first | apply Kd.R_alloc | apply Kd.R_drewN | apply Kd.R_drew)); exact HO_7.out) hb)
               have n1_ := Aside0.mk (bb hb BK222.out)
               have n2_ := Aside0.mk (bb hb BK228.out)
               have n3_ := Aside0.mk (bb hb BK230.out)
               have n4_ := Aside0.mk (bb hb BK234.out)
               have n5_ := Aside0.mk (below_step (by repeat (first | (with_reducible first | exact HB.out | apply below_alloc | apply pw_below_drewN | apply below_drew1 | refine below_set ?_ GE222.out | refine below_set ?_ GE228.out | refine below_set ?_ GE230.out | refine below_set ?_ GE234.out) | exact HB.out)) hb)
               clear HO_7
               clear BK222
               clear BK228
               clear BK230
               clear BK234
               clear HB
               have HO_7 := n0_
               have BK222 := n1_
               have BK228 := n2_
               have BK230 := n3_
               have BK234 := n4_
               have HB := n5_
               clear n0_ n1_ n2_ n3_ n4_ n5_
               (try clear hb)
               (try clear hb2)
               (try clear hk)
               (try clear hi)
               refine hK.out _ _ ⟨(blk_cell BK230.out 0).trans rfl, (blk_cell BK230.out 1).trans rfl, (blk_cell BK230.out 2).trans rfl, (blk_cell BK230.out 3).trans rfl, (blk_cell BK230.out 4).trans rfl, (blk_cell BK230.out 5).trans rfl, (blk_cell BK230.out 6).trans rfl, (blk_cell BK234.out 0).trans rfl, (blk_cell BK234.out 1).trans rfl, (blk_cell BK234.out 2).trans rfl⟩ (fun hHeld => ?_)
               clear hK K
               refine norm_ (a' := ?_) ?_ ?_
               rotate_left
               ·show Act.put _ (some 59) _ = _
                simp only [Act.put, zq1, zq2, zq3, i64_w, i32_w]
                rfl
               refine pure_ (i := 10) (N := some 61) (v := ?_) (a' := ?_) (ab 12 2047) rfl rfl (any_of HT_.out (by kernel_rfl)) (fun _ _ _ h => h) (Or.inl ⟨by rfl, ?_⟩) ?_ ?_
               rotate_left
               ·intro w'
                go_simp
                with_reducible rfl
               rotate_left
               ·simp only [Act.put, zq1, zq2, zq3, i64_w, i32_w]
                rfl
               refine one_ (i := 11) (N := none) (ab 12 4095) rfl rfl (one_of HT_.out (by kernel_rfl)) (by decide) (fun K hK => ?_)
               have hs48 : w47.cell? ⟨gb228, 0, none⟩ = some (.int .i64 x229000_2) := (blk_cell BK228.out 0).trans rfl
               have hfs48 := blk_frozen BK228.out 0
               have hns48_0 := NB222_228.out
               have hns48_2 := NB230_228.out
               have hns48_3 := NB234_228.out
               have hms48_0 := NB228_222.out
               have hms48_2 := NB228_230.out
               have hms48_3 := NB228_234.out
               refine skip_ (w1 := ?_) (by rfl) rfl ?_ ?_
               rotate_left
               ·go_simp
                rfl
               refine hK.out _ _ ⟨(cf NB230_228.out (hHeld.1)), (cf NB230_228.out (hHeld.2.1)), (cf NB230_228.out (hHeld.2.2.1)), (cf NB230_228.out (hHeld.2.2.2.1)), (cf NB230_228.out (hHeld.2.2.2.2.1)), (cf NB230_228.out (hHeld.2.2.2.2.2.1)), (cf NB230_228.out (hHeld.2.2.2.2.2.2.1)), (cf NB234_228.out (hHeld.2.2.2.2.2.2.2.1)), (cf NB234_228.out (hHeld.2.2.2.2.2.2.2.2.1)), (cf NB234_228.out (hHeld.2.2.2.2.2.2.2.2.2))⟩ (fun hHeld => ?_)
               clear hK K
               refine done_ (done_of HT_.out (by kernel_rfl)) ?_
               try go_wp2
               go_roundg k2
               case measure => have := HK1.out; have := HK2.out; omega
               case rel => exact ⟨(wrap64 (0 + 1)), (t235), (x229001_2), (x229002_2), (by first | rfl | (simp; done) | (simp [*]; done) | (simp; decide +kernel)), H', ⟨by have := HK1.out; have := HK2.out; omega⟩, ⟨by (with_reducible repeat (first | apply Kd.R_alloc | apply Kd.R_drewN | apply Kd.R_drew)); exact Kd.R_mono (Kd.R_far (p := ⟨gb228, 0, none⟩) (Kd.R_mono HO_7.out (fun k_ hk => (⟨hk, hk.1⟩ : _ ∧ k_ ≠ gb228))) (fun _ hk => hk.2) (.int .i64 t235)) (fun _ hk => ⟨hk.1.1, hk.1.2⟩)⟩, ⟨by (with_reducible repeat (first | refine blk_drewN ?_ _ | refine blk_drew ?_ | refine blk_alloc ?_ _)); refine blk_far ?_ NB222_228.out _; exact BK222.out⟩, ⟨by (with_reducible repeat (first | refine blk_drewN ?_ _ | refine blk_drew ?_ | refine blk_alloc ?_ _)); refine blk_put (cs := #[.int .i64 x229000_2, .int .i64 x229001_2, .int .i64 x229002_2, .int .i64 t224, .int .i64 t225, .int .i64 t226, .int .i64 t227]) ?_ 0 _ rfl; exact BK228.out⟩, ⟨by (with_reducible repeat (first | refine blk_drewN ?_ _ | refine blk_drew ?_ | refine blk_alloc ?_ _)); refine blk_far ?_ NB230_228.out _; exact BK230.out⟩, ⟨by (with_reducible repeat (first | refine blk_drewN ?_ _ | refine blk_drew ?_ | refine blk_alloc ?_ _)); refine blk_far ?_ NB234_228.out _; exact BK234.out⟩, ⟨by repeat (first | (with_reducible first | exact HB.out | apply below_alloc | apply pw_below_drewN | apply below_drew1 | refine below_set ?_ GE222.out | refine below_set ?_ GE228.out | refine below_set ?_ GE230.out | refine below_set ?_ GE234.out) | exact HB.out)⟩⟩
              ·rw [if_neg c44] at H
               by_cases c49 : x48_2 = 1
               ·subst c49
                have H1 : ((fix_Add.f ((rd_T39 x7_1 ((rd_T35 l0 x22_1).f0)).f0.f1) t232).bind fun t236 => (bones_Places.l1 k2 l1 x7_1 l0 (l0.length : Int) x22_1 (wrap64 (1 + 1)) x229000_2 t236 x229002_2 t224 t225 t226 t227 ((rd_T39 x7_1 ((rd_T35 l0 x22_1).f0)).f0.f0) ((rd_T39 x7_1 ((rd_T35 l0 x22_1).f0)).f0.f1) ((rd_T39 x7_1 ((rd_T35 l0 x22_1).f0)).f0.f2) ((rd_T39 x7_1 ((rd_T35 l0 x22_1).f0)).f1.f0) ((rd_T39 x7_1 ((rd_T35 l0 x22_1).f0)).f1.f1) ((rd_T39 x7_1 ((rd_T35 l0 x22_1).f0)).f1.f2) ((rd_T39 x7_1 ((rd_T35 l0 x22_1).f0)).f1.f3) t231 t232 t233)) = some (r1, r2) := by rw [if_pos rfl] at H; exact H
                clear H
                have H := H1
                clear H1
                replace H := Option.bind_eq_some_iff.mp H
                obtain ⟨t236, A500, H⟩ := H
                replace H : (bones_Places.l1 k2 l1 x7_1 l0 (l0.length : Int) x22_1 (wrap64 (1 + 1)) x229000_2 t236 x229002_2 t224 t225 t226 t227 ((rd_T39 x7_1 ((rd_T35 l0 x22_1).f0)).f0.f0) ((rd_T39 x7_1 ((rd_T35 l0 x22_1).f0)).f0.f1) ((rd_T39 x7_1 ((rd_T35 l0 x22_1).f0)).f0.f2) ((rd_T39 x7_1 ((rd_T35 l0 x22_1).f0)).f1.f0) ((rd_T39 x7_1 ((rd_T35 l0 x22_1).f0)).f1.f1) ((rd_T39 x7_1 ((rd_T35 l0 x22_1).f0)).f1.f2) ((rd_T39 x7_1 ((rd_T35 l0 x22_1).f0)).f1.f3) t231 t232 t233) = some (r1, r2) := H
                have A50 := Aside0.mk A500
                clear A500
                have H' := Aside0.mk H
                clear H
                try go_wp2
                have n0_ := Aside0.mk (Kd.R_drew HO_7.out)
                have n1_ := Aside0.mk (blk_drew BK222.out)
                have n2_ := Aside0.mk (blk_drew BK228.out)
                have n3_ := Aside0.mk (blk_drew BK230.out)
                have n4_ := Aside0.mk (blk_drew BK234.out)
                have n5_ := Aside0.mk (below_drew1 HB.out)
                clear HO_7
                clear BK222
                clear BK228
                clear BK230
                clear BK234
                clear HB
                have HO_7 := n0_
                have BK222 := n1_
                have BK228 := n2_
                have BK230 := n3_
                have BK234 := n4_
                have HB := n5_
                clear n0_ n1_ n2_ n3_ n4_ n5_
                refine start_ (n := 12) (S := fun w' => w'.cell? ⟨gb230, 0, none⟩ = some (.int .i64 ((rd_T39 x7_1 ((rd_T35 l0 x22_1).f0)).f0.f0)) ∧ w'.cell? ⟨gb230, 1, none⟩ = some (.int .i64 ((rd_T39 x7_1 ((rd_T35 l0 x22_1).f0)).f0.f1)) ∧ w'.cell? ⟨gb230, 2, none⟩ = some (.int .i64 ((rd_T39 x7_1 ((rd_T35 l0 x22_1).f0)).f0.f2)) ∧ w'.cell? ⟨gb230, 3, none⟩ = some (.int .i64 ((rd_T39 x7_1 ((rd_T35 l0 x22_1).f0)).f1.f0)) ∧ w'.cell? ⟨gb230, 4, none⟩ = some (.int .i64 ((rd_T39 x7_1 ((rd_T35 l0 x22_1).f0)).f1.f1)) ∧ w'.cell? ⟨gb230, 5, none⟩ = some (.int .i64 ((rd_T39 x7_1 ((rd_T35 l0 x22_1).f0)).f1.f2)) ∧ w'.cell? ⟨gb230, 6, none⟩ = some (.int .i64 ((rd_T39 x7_1 ((rd_T35 l0 x22_1).f0)).f1.f3)) ∧ w'.cell? ⟨gb234, 0, none⟩ = some (.int .i64 t231) ∧ w'.cell? ⟨gb234, 1, none⟩ = some (.int .i64 t232) ∧ w'.cell? ⟨gb234, 2, none⟩ = some (.int .i64 t233)) (ds := []) (ab 12 0) (by kernel_rfl) rfl rfl ⟨(blk_cell BK230.out 0).trans rfl, (blk_cell BK230.out 1).trans rfl, (blk_cell BK230.out 2).trans rfl, (blk_cell BK230.out 3).trans rfl, (blk_cell BK230.out 4).trans rfl, (blk_cell BK230.out 5).trans rfl, (blk_cell BK230.out 6).trans rfl, (blk_cell BK234.out 0).trans rfl, (blk_cell BK234.out 1).trans rfl, (blk_cell BK234.out 2).trans rfl⟩ (fun hHeld => ?_); refine with_tabW bones_Places.tab15 bones_Places.bits15 (fun HT_ HW_ => ?_)
                generalize wr.drew = w51 at HO_7 BK222 BK228 BK230 BK234 HB hHeld ⊢
                refine pure_ (i := 0) (N := some 51) (v := ?_) (a' := ?_) (ab 12 1) rfl rfl (any_of HT_.out (by kernel_rfl)) (fun _ _ _ h => h) (Or.inl ⟨by rfl, ?_⟩) ?_ ?_
                rotate_left
                ·intro w'
                 go_simp
                 with_reducible rfl
                rotate_left
                ·simp only [Act.put, zq1, zq2, zq3, i64_w, i32_w]
                 rfl
                refine pure_ (i := 1) (N := some 52) (v := ?_) (a' := ?_) (ab 12 3) rfl rfl (any_of HT_.out (by kernel_rfl)) (fun _ _ _ h => h) (Or.inl ⟨by rfl, ?_⟩) ?_ ?_
                rotate_left
                ·intro w'
                 go_simp
                 with_reducible rfl
                rotate_left
                ·simp only [Act.put, zq1, zq2, zq3, i64_w, i32_w]
                 rfl
                refine pure_ (i := 2) (N := some 53) (v := ?_) (a' := ?_) (ab 12 7) rfl rfl (any_of HT_.out (by kernel_rfl)) (fun _ _ _ h => h) (Or.inl ⟨by rfl, ?_⟩) ?_ ?_
                rotate_left
                ·intro w'
                 go_simp
                 with_reducible rfl
                rotate_left
                ·simp only [Act.put, zq1, zq2, zq3, i64_w, i32_w]
                 rfl
                refine pure_ (i := 3) (N := some 54) (v := ?_) (a' := ?_) (ab 12 15) rfl rfl (any_of HT_.out (by kernel_rfl)) (fun _ _ _ h => h) (Or.inl ⟨by rfl, ?_⟩) ?_ ?_
                rotate_left
                ·intro w'
                 go_simp
                 with_reducible rfl
                rotate_left
                ·simp only [Act.put, zq1, zq2, zq3, i64_w, i32_w]
                 rfl
                refine pure_ (i := 5) (N := some 56) (v := ?_) (a' := ?_) (ab 12 47) rfl rfl (any_of HT_.out (by kernel_rfl)) (fun _ _ _ h => h) (Or.inl ⟨by rfl, ?_⟩) ?_ ?_
                rotate_left
                ·intro w'
                 go_simp
                 with_reducible rfl
                rotate_left
                ·simp only [Act.put, zq1, zq2, zq3, i64_w, i32_w]
                 rfl
                refine pure_ (i := 6) (N := some 57) (v := ?_) (a' := ?_) (ab 12 111) rfl rfl (any_of HT_.out (by kernel_rfl)) (fun _ _ _ h => h) (Or.inl ⟨by rfl, ?_⟩) ?_ ?_
                rotate_left
                ·intro w'
                 go_simp
                 with_reducible rfl
                rotate_left
                ·simp only [Act.put, zq1, zq2, zq3, i64_w, i32_w]
                 rfl
                refine pure_ (i := 9) (N := some 60) (v := ?_) (a' := ?_) (ab 12 623) rfl rfl (any_of HT_.out (by kernel_rfl)) (fun _ _ _ h => h) (Or.inl ⟨by rfl, ?_⟩) ?_ ?_
                rotate_left
                ·intro w'
                 go_simp
                 with_reducible rfl
                rotate_left
                ·simp only [Act.put, zq1, zq2, zq3, i64_w, i32_w]
                 rfl
                refine take_ (i := 4) (N := some 55) (v := ?_) (a' := ?_) (ab 12 639) rfl rfl (take_ofW HT_.out HW_.out (by kernel_rfl)) (fun _ _ _ h => h) (Or.inl ⟨by rfl, ?_⟩) hHeld ?_ ?_
                rotate_left
                ·rintro w' ⟨s0, s1, s2, s3, s4, s5, s6, s7, s8, s9⟩
                 go_simp
                 with_reducible rfl
                rotate_left
                ·simp only [Act.put, zq1, zq2, zq3, i64_w, i32_w]
                 rfl
                refine take_ (i := 7) (N := some 58) (v := ?_) (a' := ?_) (ab 12 767) rfl rfl (take_ofW HT_.out HW_.out (by kernel_rfl)) (fun _ _ _ h => h) (Or.inl ⟨by rfl, ?_⟩) hHeld ?_ ?_
                rotate_left
                ·rintro w' ⟨s0, s1, s2, s3, s4, s5, s6, s7, s8, s9⟩
                 go_simp
                 with_reducible rfl
                rotate_left
                ·simp only [Act.put, zq1, zq2, zq3, i64_w, i32_w]
                 rfl
                refine one_ (i := 8) (N := some 59) (ab 12 1023) rfl rfl (one_of HT_.out (by kernel_rfl)) (by decide) (fun K hK => ?_)
                refine goes_ Try.func23 (by kernel_rfl) rfl #[.int .i64 ((rd_T39 x7_1 ((rd_T35 l0 x22_1).f0)).f0.f1), .int .i64 t232] (by rfl) rfl rfl (by (try simp only [zm1, zm2, zm3]); first | done | rfl) ?_
                with_reducible refine (fix_Add.calls ((rd_T39 x7_1 ((rd_T35 l0 x22_1).f0)).f0.f1) t232 t236 _ A50.out).mono ?_
                rintro e w52 ⟨rfl, hb⟩
                refine ⟨_, rfl, ?_⟩
                have n0_ := Aside0.mk (Kd.R_below (by (with_reducible repeat (first | apply Kd.R_alloc | apply Kd.R_drewN | apply Kd.R_drew)); exact HO_7.out) hb)
                have n1_ := Aside0.mk (bb hb BK222.out)
                have n2_ := Aside0.mk (bb hb BK228.out)
                have n3_ := Aside0.mk (bb hb BK230.out)
                have n4_ := Aside0.mk (bb hb BK234.out)
                have n5_ := Aside0.mk (below_step (by repeat (first | (with_reducible first | exact HB.out | apply below_alloc | apply pw_below_drewN | apply below_drew1 | refine below_set ?_ GE222.out | refine below_set ?_ GE228.out | refine below_set ?_ GE230.out | refine below_set ?_ GE234.out) | exact HB.out)) hb)
                clear HO_7
                clear BK222
                clear BK228
                clear BK230
                clear BK234
                clear HB
                have HO_7 := n0_
                have BK222 := n1_
                have BK228 := n2_
                have BK230 := n3_
                have BK234 := n4_
                have HB := n5_
                clear n0_ n1_ n2_ n3_ n4_ n5_
                (try clear hb)
                (try clear hb2)
                (try clear hk)
                (try clear hi)
                refine hK.out _ _ ⟨(blk_cell BK230.out 0).trans rfl, (blk_cell BK230.out 1).trans rfl, (blk_cell BK230.out 2).trans rfl, (blk_cell BK230.out 3).trans rfl, (blk_cell BK230.out 4).trans rfl, (blk_cell BK230.out 5).trans rfl, (blk_cell BK230.out 6).trans rfl, (blk_cell BK234.out 0).trans rfl, (blk_cell BK234.out 1).trans rfl, (blk_cell BK234.out 2).trans rfl⟩ (fun hHeld => ?_)
                clear hK K
                refine norm_ (a' := ?_) ?_ ?_
                rotate_left
                ·show Act.put _ (some 59) _ = _
                 simp only [Act.put, zq1, zq2, zq3, i64_w, i32_w]
                 rfl
                refine pure_ (i := 10) (N := some 61) (v := ?_) (a' := ?_) (ab 12 2047) rfl rfl (any_of HT_.out (by kernel_rfl)) (fun _ _ _ h => h) (Or.inl ⟨by rfl, ?_⟩) ?_ ?_
                rotate_left
                ·intro w'
                 go_simp
                 with_reducible rfl
                rotate_left
                ·simp only [Act.put, zq1, zq2, zq3, i64_w, i32_w]
                 rfl
                refine one_ (i := 11) (N := none) (ab 12 4095) rfl rfl (one_of HT_.out (by kernel_rfl)) (by decide) (fun K hK => ?_)
                have hs53 : w52.cell? ⟨gb228, 1, none⟩ = some (.int .i64 x229001_2) := (blk_cell BK228.out 1).trans rfl
                have hfs53 := blk_frozen BK228.out 1
                have hns53_0 := NB222_228.out
                have hns53_2 := NB230_228.out
                have hns53_3 := NB234_228.out
                have hms53_0 := NB228_222.out
                have hms53_2 := NB228_230.out
                have hms53_3 := NB228_234.out
                refine skip_ (w1 := ?_) (by rfl) rfl ?_ ?_
                rotate_left
                ·go_simp
                 rfl
                refine hK.out _ _ ⟨(cf NB230_228.out (hHeld.1)), (cf NB230_228.out (hHeld.2.1)), (cf NB230_228.out (hHeld.2.2.1)), (cf NB230_228.out (hHeld.2.2.2.1)), (cf NB230_228.out (hHeld.2.2.2.2.1)), (cf NB230_228.out (hHeld.2.2.2.2.2.1)), (cf NB230_228.out (hHeld.2.2.2.2.2.2.1)), (cf NB234_228.out (hHeld.2.2.2.2.2.2.2.1)), (cf NB234_228.out (hHeld.2.2.2.2.2.2.2.2.1)), (cf NB234_228.out (hHeld.2.2.2.2.2.2.2.2.2))⟩ (fun hHeld => ?_)
                clear hK K
                refine done_ (done_of HT_.out (by kernel_rfl)) ?_
                try go_wp2
                go_roundg k2
                case measure => have := HK1.out; have := HK2.out; omega
                case rel => exact ⟨(wrap64 (1 + 1)), (x229000_2), (t236), (x229002_2), (by first | rfl | (simp; done) | (simp [*]; done) | (simp; decide +kernel)), H', ⟨by have := HK1.out; have := HK2.out; omega⟩, ⟨by (with_reducible repeat (first | apply Kd.R_alloc | apply Kd.R_drewN | apply Kd.R_drew)); exact Kd.R_mono (Kd.R_far (p := ⟨gb228, 1, none⟩) (Kd.R_mono HO_7.out (fun k_ hk => (⟨hk, hk.1⟩ : _ ∧ k_ ≠ gb228))) (fun _ hk => hk.2) (.int .i64 t236)) (fun _ hk => ⟨hk.1.1, hk.1.2⟩)⟩, ⟨by (with_reducible repeat (first | refine blk_drewN ?_ _ | refine blk_drew ?_ | refine blk_alloc ?_ _)); refine blk_far ?_ NB222_228.out _; exact BK222.out⟩, ⟨by (with_reducible repeat (first | refine blk_drewN ?_ _ | refine blk_drew ?_ | refine blk_alloc ?_ _)); refine blk_put (cs := #[.int .i64 x229000_2, .int .i64 x229001_2, .int .i64 x229002_2, .int .i64 t224, .int .i64 t225, .int .i64 t226, .int .i64 t227]) ?_ 1 _ rfl; exact BK228.out⟩, ⟨by (with_reducible repeat (first | refine blk_drewN ?_ _ | refine blk_drew ?_ | refine blk_alloc ?_ _)); refine blk_far ?_ NB230_228.out _; exact BK230.out⟩, ⟨by (with_reducible repeat (first | refine blk_drewN ?_ _ | refine blk_drew ?_ | refine blk_alloc ?_ _)); refine blk_far ?_ NB234_228.out _; exact BK234.out⟩, ⟨by repeat (first | (with_reducible first | exact HB.out | apply below_alloc | apply pw_below_drewN | apply below_drew1 | refine below_set ?_ GE222.out | refine below_set ?_ GE228.out | refine below_set ?_ GE230.out | refine below_set ?_ GE234.out) | exact HB.out)⟩⟩
               ·rw [if_neg c49] at H
                by_cases c54 : x48_2 = 2
                ·subst c54
                 have H1 : ((fix_Add.f ((rd_T39 x7_1 ((rd_T35 l0 x22_1).f0)).f0.f2) t233).bind fun t237 => (bones_Places.l1 k2 l1 x7_1 l0 (l0.length : Int) x22_1 (wrap64 (2 + 1)) x229000_2 x229001_2 t237 t224 t225 t226 t227 ((rd_T39 x7_1 ((rd_T35 l0 x22_1).f0)).f0.f0) ((rd_T39 x7_1 ((rd_T35 l0 x22_1).f0)).f0.f1) ((rd_T39 x7_1 ((rd_T35 l0 x22_1).f0)).f0.f2) ((rd_T39 x7_1 ((rd_T35 l0 x22_1).f0)).f1.f0) ((rd_T39 x7_1 ((rd_T35 l0 x22_1).f0)).f1.f1) ((rd_T39 x7_1 ((rd_T35 l0 x22_1).f0)).f1.f2) ((rd_T39 x7_1 ((rd_T35 l0 x22_1).f0)).f1.f3) t231 t232 t233)) = some (r1, r2) := by rw [if_pos rfl] at H; exact H
                 clear H
                 have H := H1
                 clear H1
                 replace H := Option.bind_eq_some_iff.mp H
                 obtain ⟨t237, A550, H⟩ := H
                 replace H : (bones_Places.l1 k2 l1 x7_1 l0 (l0.length : Int) x22_1 (wrap64 (2 + 1)) x229000_2 x229001_2 t237 t224 t225 t226 t227 ((rd_T39 x7_1 ((rd_T35 l0 x22_1).f0)).f0.f0) ((rd_T39 x7_1 ((rd_T35 l0 x22_1).f0)).f0.f1) ((rd_T39 x7_1 ((rd_T35 l0 x22_1).f0)).f0.f2) ((rd_T39 x7_1 ((rd_T35 l0 x22_1).f0)).f1.f0) ((rd_T39 x7_1 ((rd_T35 l0 x22_1).f0)).f1.f1) ((rd_T39 x7_1 ((rd_T35 l0 x22_1).f0)).f1.f2) ((rd_T39 x7_1 ((rd_T35 l0 x22_1).f0)).f1.f3) t231 t232 t233) = some (r1, r2) := H
                 have A55 := Aside0.mk A550
                 clear A550
                 have H' := Aside0.mk H
                 clear H
                 try go_wp2
                 have n0_ := Aside0.mk (Kd.R_drew HO_7.out)
                 have n1_ := Aside0.mk (blk_drew BK222.out)
                 have n2_ := Aside0.mk (blk_drew BK228.out)
                 have n3_ := Aside0.mk (blk_drew BK230.out)
                 have n4_ := Aside0.mk (blk_drew BK234.out)
                 have n5_ := Aside0.mk (below_drew1 HB.out)
                 clear HO_7
                 clear BK222
                 clear BK228
                 clear BK230
                 clear BK234
                 clear HB
                 have HO_7 := n0_
                 have BK222 := n1_
                 have BK228 := n2_
                 have BK230 := n3_
                 have BK234 := n4_
                 have HB := n5_
                 clear n0_ n1_ n2_ n3_ n4_ n5_
                 refine start_ (n := 12) (S := fun w' => w'.cell? ⟨gb230, 0, none⟩ = some (.int .i64 ((rd_T39 x7_1 ((rd_T35 l0 x22_1).f0)).f0.f0)) ∧ w'.cell? ⟨gb230, 1, none⟩ = some (.int .i64 ((rd_T39 x7_1 ((rd_T35 l0 x22_1).f0)).f0.f1)) ∧ w'.cell? ⟨gb230, 2, none⟩ = some (.int .i64 ((rd_T39 x7_1 ((rd_T35 l0 x22_1).f0)).f0.f2)) ∧ w'.cell? ⟨gb230, 3, none⟩ = some (.int .i64 ((rd_T39 x7_1 ((rd_T35 l0 x22_1).f0)).f1.f0)) ∧ w'.cell? ⟨gb230, 4, none⟩ = some (.int .i64 ((rd_T39 x7_1 ((rd_T35 l0 x22_1).f0)).f1.f1)) ∧ w'.cell? ⟨gb230, 5, none⟩ = some (.int .i64 ((rd_T39 x7_1 ((rd_T35 l0 x22_1).f0)).f1.f2)) ∧ w'.cell? ⟨gb230, 6, none⟩ = some (.int .i64 ((rd_T39 x7_1 ((rd_T35 l0 x22_1).f0)).f1.f3)) ∧ w'.cell? ⟨gb234, 0, none⟩ = some (.int .i64 t231) ∧ w'.cell? ⟨gb234, 1, none⟩ = some (.int .i64 t232) ∧ w'.cell? ⟨gb234, 2, none⟩ = some (.int .i64 t233)) (ds := []) (ab 12 0) (by kernel_rfl) rfl rfl ⟨(blk_cell BK230.out 0).trans rfl, (blk_cell BK230.out 1).trans rfl, (blk_cell BK230.out 2).trans rfl, (blk_cell BK230.out 3).trans rfl, (blk_cell BK230.out 4).trans rfl, (blk_cell BK230.out 5).trans rfl, (blk_cell BK230.out 6).trans rfl, (blk_cell BK234.out 0).trans rfl, (blk_cell BK234.out 1).trans rfl, (blk_cell BK234.out 2).trans rfl⟩ (fun hHeld => ?_); refine with_tabW bones_Places.tab15 bones_Places.bits15 (fun HT_ HW_ => ?_)
                 generalize wr.drew = w56 at HO_7 BK222 BK228 BK230 BK234 HB hHeld ⊢
                 refine pure_ (i := 0) (N := some 51) (v := ?_) (a' := ?_) (ab 12 1) rfl rfl (any_of HT_.out (by kernel_rfl)) (fun _ _ _ h => h) (Or.inl ⟨by rfl, ?_⟩) ?_ ?_
                 rotate_left
                 ·intro w'
                  go_simp
                  with_reducible rfl
                 rotate_left
                 ·simp only [Act.put, zq1, zq2, zq3, i64_w, i32_w]
                  rfl
                 refine pure_ (i := 1) (N := some 52) (v := ?_) (a' := ?_) (ab 12 3) rfl rfl (any_of HT_.out (by kernel_rfl)) (fun _ _ _ h => h) (Or.inl ⟨by rfl, ?_⟩) ?_ ?_
                 rotate_left
                 ·intro w'
                  go_simp
                  with_reducible rfl
                 rotate_left
                 ·simp only [Act.put, zq1, zq2, zq3, i64_w, i32_w]
                  rfl
                 refine pure_ (i := 2) (N := some 53) (v := ?_) (a' := ?_) (ab 12 7) rfl rfl (any_of HT_.out (by kernel_rfl)) (fun _ _ _ h => h) (Or.inl ⟨by rfl, ?_⟩) ?_ ?_
                 rotate_left
                 ·intro w'
                  go_simp
                  with_reducible rfl
                 rotate_left
                 ·simp only [Act.put, zq1, zq2, zq3, i64_w, i32_w]
                  rfl
                 refine pure_ (i := 3) (N := some 54) (v := ?_) (a' := ?_) (ab 12 15) rfl rfl (any_of HT_.out (by kernel_rfl)) (fun _ _ _ h => h) (Or.inl ⟨by rfl, ?_⟩) ?_ ?_
                 rotate_left
                 ·intro w'
                  go_simp
                  with_reducible rfl
                 rotate_left
                 ·simp only [Act.put, zq1, zq2, zq3, i64_w, i32_w]
                  rfl
                 refine pure_ (i := 5) (N := some 56) (v := ?_) (a' := ?_) (ab 12 47) rfl rfl (any_of HT_.out (by kernel_rfl)) (fun _ _ _ h => h) (Or.inl ⟨by rfl, ?_⟩) ?_ ?_
                 rotate_left
                 ·intro w'
                  go_simp
                  with_reducible rfl
                 rotate_left
                 ·simp only [Act.put, zq1, zq2, zq3, i64_w, i32_w]
                  rfl
                 refine pure_ (i := 6) (N := some 57) (v := ?_) (a' := ?_) (ab 12 111) rfl rfl (any_of HT_.out (by kernel_rfl)) (fun _ _ _ h => h) (Or.inl ⟨by rfl, ?_⟩) ?_ ?_
                 rotate_left
                 ·intro w'
                  go_simp
                  with_reducible rfl
                 rotate_left
                 ·simp only [Act.put, zq1, zq2, zq3, i64_w, i32_w]
                  rfl
                 refine pure_ (i := 9) (N := some 60) (v := ?_) (a' := ?_) (ab 12 623) rfl rfl (any_of HT_.out (by kernel_rfl)) (fun _ _ _ h => h) (Or.inl ⟨by rfl, ?_⟩) ?_ ?_
                 rotate_left
                 ·intro w'
                  go_simp
                  with_reducible rfl
                 rotate_left
                 ·simp only [Act.put, zq1, zq2, zq3, i64_w, i32_w]
                  rfl
                 refine take_ (i := 4) (N := some 55) (v := ?_) (a' := ?_) (ab 12 639) rfl rfl (take_ofW HT_.out HW_.out (by kernel_rfl)) (fun _ _ _ h => h) (Or.inl ⟨by rfl, ?_⟩) hHeld ?_ ?_
                 rotate_left
                 ·rintro w' ⟨s0, s1, s2, s3, s4, s5, s6, s7, s8, s9⟩
                  go_simp
                  with_reducible rfl
                 rotate_left
                 ·simp only [Act.put, zq1, zq2, zq3, i64_w, i32_w]
                  rfl
                 refine take_ (i := 7) (N := some 58) (v := ?_) (a' := ?_) (ab 12 767) rfl rfl (take_ofW HT_.out HW_.out (by kernel_rfl)) (fun _ _ _ h => h) (Or.inl ⟨by rfl, ?_⟩) hHeld ?_ ?_
                 rotate_left
                 ·rintro w' ⟨s0, s1, s2, s3, s4, s5, s6, s7, s8, s9⟩
                  go_simp
                  with_reducible rfl
                 rotate_left
                 ·simp only [Act.put, zq1, zq2, zq3, i64_w, i32_w]
                  rfl
                 refine one_ (i := 8) (N := some 59) (ab 12 1023) rfl rfl (one_of HT_.out (by kernel_rfl)) (by decide) (fun K hK => ?_)
                 refine goes_ Try.func23 (by kernel_rfl) rfl #[.int .i64 ((rd_T39 x7_1 ((rd_T35 l0 x22_1).f0)).f0.f2), .int .i64 t233] (by rfl) rfl rfl (by (try simp only [zm1, zm2, zm3]); first | done | rfl) ?_
                 with_reducible refine (fix_Add.calls ((rd_T39 x7_1 ((rd_T35 l0 x22_1).f0)).f0.f2) t233 t237 _ A55.out).mono ?_
                 rintro e w57 ⟨rfl, hb⟩
                 refine ⟨_, rfl, ?_⟩
                 have n0_ := Aside0.mk (Kd.R_below (by (with_reducible repeat (first | apply Kd.R_alloc | apply Kd.R_drewN | apply Kd.R_drew)); exact HO_7.out) hb)
                 have n1_ := Aside0.mk (bb hb BK222.out)
                 have n2_ := Aside0.mk (bb hb BK228.out)
                 have n3_ := Aside0.mk (bb hb BK230.out)
                 have n4_ := Aside0.mk (bb hb BK234.out)
                 have n5_ := Aside0.mk (below_step (by repeat (first | (with_reducible first | exact HB.out | apply below_alloc | apply pw_below_drewN | apply below_drew1 | refine below_set ?_ GE222.out | refine below_set ?_ GE228.out | refine below_set ?_ GE230.out | refine below_set ?_ GE234.out) | exact HB.out)) hb)
                 clear HO_7
                 clear BK222
                 clear BK228
                 clear BK230
                 clear BK234
                 clear HB
                 have HO_7 := n0_
                 have BK222 := n1_
                 have BK228 := n2_
                 have BK230 := n3_
                 have BK234 := n4_
                 have HB := n5_
                 clear n0_ n1_ n2_ n3_ n4_ n5_
                 (try clear hb)
                 (try clear hb2)
                 (try clear hk)
                 (try clear hi)
                 refine hK.out _ _ ⟨(blk_cell BK230.out 0).trans rfl, (blk_cell BK230.out 1).trans rfl, (blk_cell BK230.out 2).trans rfl, (blk_cell BK230.out 3).trans rfl, (blk_cell BK230.out 4).trans rfl, (blk_cell BK230.out 5).trans rfl, (blk_cell BK230.out 6).trans rfl, (blk_cell BK234.out 0).trans rfl, (blk_cell BK234.out 1).trans rfl, (blk_cell BK234.out 2).trans rfl⟩ (fun hHeld => ?_)
                 clear hK K
                 refine norm_ (a' := ?_) ?_ ?_
                 rotate_left
                 ·show Act.put _ (some 59) _ = _
                  simp only [Act.put, zq1, zq2, zq3, i64_w, i32_w]
                  rfl
                 refine pure_ (i := 10) (N := some 61) (v := ?_) (a' := ?_) (ab 12 2047) rfl rfl (any_of HT_.out (by kernel_rfl)) (fun _ _ _ h => h) (Or.inl ⟨by rfl, ?_⟩) ?_ ?_
                 rotate_left
                 ·intro w'
                  go_simp
                  with_reducible rfl
                 rotate_left
                 ·simp only [Act.put, zq1, zq2, zq3, i64_w, i32_w]
                  rfl
                 refine one_ (i := 11) (N := none) (ab 12 4095) rfl rfl (one_of HT_.out (by kernel_rfl)) (by decide) (fun K hK => ?_)
                 have hs58 : w57.cell? ⟨gb228, 2, none⟩ = some (.int .i64 x229002_2) := (blk_cell BK228.out 2).trans rfl
                 have hfs58 := blk_frozen BK228.out 2
                 have hns58_0 := NB222_228.out
                 have hns58_2 := NB230_228.out
                 have hns58_3 := NB234_228.out
                 have hms58_0 := NB228_222.out
                 have hms58_2 := NB228_230.out
                 have hms58_3 := NB228_234.out
                 refine skip_ (w1 := ?_) (by rfl) rfl ?_ ?_
                 rotate_left
                 ·go_simp
                  rfl
                 refine hK.out _ _ ⟨(cf NB230_228.out (hHeld.1)), (cf NB230_228.out (hHeld.2.1)), (cf NB230_228.out (hHeld.2.2.1)), (cf NB230_228.out (hHeld.2.2.2.1)), (cf NB230_228.out (hHeld.2.2.2.2.1)), (cf NB230_228.out (hHeld.2.2.2.2.2.1)), (cf NB230_228.out (hHeld.2.2.2.2.2.2.1)), (cf NB234_228.out (hHeld.2.2.2.2.2.2.2.1)), (cf NB234_228.out (hHeld.2.2.2.2.2.2.2.2.1)), (cf NB234_228.out (hHeld.2.2.2.2.2.2.2.2.2))⟩ (fun hHeld => ?_)
                 clear hK K
                 refine done_ (done_of HT_.out (by kernel_rfl)) ?_
                 try go_wp2
                 go_roundg k2
                 case measure => have := HK1.out; have := HK2.out; omega
                 case rel => exact ⟨(wrap64 (2 + 1)), (x229000_2), (x229001_2), (t237), (by first | rfl | (simp; done) | (simp [*]; done) | (simp; decide +kernel)), H', ⟨by have := HK1.out; have := HK2.out; omega⟩, ⟨by (with_reducible repeat (first | apply Kd.R_alloc | apply Kd.R_drewN | apply Kd.R_drew)); exact Kd.R_mono (Kd.R_far (p := ⟨gb228, 2, none⟩) (Kd.R_mono HO_7.out (fun k_ hk => (⟨hk, hk.1⟩ : _ ∧ k_ ≠ gb228))) (fun _ hk => hk.2) (.int .i64 t237)) (fun _ hk => ⟨hk.1.1, hk.1.2⟩)⟩, ⟨by (with_reducible repeat (first | refine blk_drewN ?_ _ | refine blk_drew ?_ | refine blk_alloc ?_ _)); refine blk_far ?_ NB222_228.out _; exact BK222.out⟩, ⟨by (with_reducible repeat (first | refine blk_drewN ?_ _ | refine blk_drew ?_ | refine blk_alloc ?_ _)); refine blk_put (cs := #[.int .i64 x229000_2, .int .i64 x229001_2, .int .i64 x229002_2, .int .i64 t224, .int .i64 t225, .int .i64 t226, .int .i64 t227]) ?_ 2 _ rfl; exact BK228.out⟩, ⟨by (with_reducible repeat (first | refine blk_drewN ?_ _ | refine blk_drew ?_ | refine blk_alloc ?_ _)); refine blk_far ?_ NB230_228.out _; exact BK230.out⟩, ⟨by (with_reducible repeat (first | refine blk_drewN ?_ _ | refine blk_drew ?_ | refine blk_alloc ?_ _)); refine blk_far ?_ NB234_228.out _; exact BK234.out⟩, ⟨by repeat (first | (with_reducible first | exact HB.out | apply below_alloc | apply pw_below_drewN | apply below_drew1 | refine below_set ?_ GE222.out | refine below_set ?_ GE228.out | refine below_set ?_ GE230.out | refine below_set ?_ GE234.out) | exact HB.out)⟩⟩
                ·rw [if_neg c54] at H
                 exact absurd H (by simp)
             ·rw [if_neg c43] at H
              have c43b0 : decide (x48_2 < 3) = false := decide_eq_false c43
              clear c43
              replace H := Option.bind_eq_some_iff.mp H
              obtain ⟨⟨t238, t239, t240, t241⟩, A590, H⟩ := H
              replace H : ((quat_Unit.f k2 t238 t239 t240 t241).bind fun bt242 => (if x7_1.length < 2513169434916 then (bones_Places.l0 k2 l1 (x7_1 ++ [(⟨(⟨x229000_2, x229001_2, x229002_2⟩ : S33), (⟨bt242.1, bt242.2.1, bt242.2.2.1, bt242.2.2.2⟩ : S37)⟩ : S39)]) l0 (l0.length : Int) (wrap64 (x22_1 + 1))) else (none))) = some (r1, r2) := H
              have A59 := Aside0.mk A590
              clear A590
              replace H := Option.bind_eq_some_iff.mp H
              obtain ⟨⟨t242, t243, t244, t245⟩, A600, H⟩ := H
              replace H : (if x7_1.length < 2513169434916 then (bones_Places.l0 k2 l1 (x7_1 ++ [(⟨(⟨x229000_2, x229001_2, x229002_2⟩ : S33), (⟨t242, t243, t244, t245⟩ : S37)⟩ : S39)]) l0 (l0.length : Int) (wrap64 (x22_1 + 1))) else (none)) = some (r1, r2) := H
              have A60 := Aside0.mk A600
              clear A600
              by_cases c61 : x7_1.length < 2513169434916
              ·rw [if_pos c61] at H
               have LMc61 := Aside0.mk c61
               clear c61
               obtain ⟨y246, hy246⟩ : ∃ y_ : List (S39), y_ = (x7_1 ++ [(⟨(⟨x229000_2, x229001_2, x229002_2⟩ : S33), (⟨t242, t243, t244, t245⟩ : S37)⟩ : S39)]) := ⟨_, rfl⟩
               replace H : (bones_Places.l0 k2 l1 y246 l0 (l0.length : Int) (wrap64 (x22_1 + 1))) = some (r1, r2) := by first | (rw [hy246]; with_reducible exact H) | (have H2_ := (Option.bind_some _ _).symm.trans H; rw [hy246]; with_reducible exact H2_) | (have H2_ := (Option.bind_some _ _).symm.trans H; with_reducible exact H2_) | with_reducible exact H | (rw [hy246]; exact H) | exact H
               have Ny246 := Aside0.mk hy246
               clear hy246
               have H' := Aside0.mk H
               clear H
               have hnb62 := NB230_222.out
               have hnc62 := NB222_230.out
               have hnb63 := NB230_228.out
               have hnc63 := NB228_230.out
               have hnb64 := NB230_234.out
               have hnc64 := NB234_230.out
               have hcz65_0 : wr.cell? ⟨gb230, 0, none⟩ = some (.int .i64 ((rd_T39 x7_1 ((rd_T35 l0 x22_1).f0)).f0.f0)) := (blk_cell BK230.out 0).trans rfl
               have hcz65_1 : wr.cell? ⟨gb230, 1, none⟩ = some (.int .i64 ((rd_T39 x7_1 ((rd_T35 l0 x22_1).f0)).f0.f1)) := (blk_cell BK230.out 1).trans rfl
               have hcz65_2 : wr.cell? ⟨gb230, 2, none⟩ = some (.int .i64 ((rd_T39 x7_1 ((rd_T35 l0 x22_1).f0)).f0.f2)) := (blk_cell BK230.out 2).trans rfl
               have hcz65_3 : wr.cell? ⟨gb230, 3, none⟩ = some (.int .i64 ((rd_T39 x7_1 ((rd_T35 l0 x22_1).f0)).f1.f0)) := (blk_cell BK230.out 3).trans rfl
               have hcz65_4 : wr.cell? ⟨gb230, 4, none⟩ = some (.int .i64 ((rd_T39 x7_1 ((rd_T35 l0 x22_1).f0)).f1.f1)) := (blk_cell BK230.out 4).trans rfl
               have hcz65_5 : wr.cell? ⟨gb230, 5, none⟩ = some (.int .i64 ((rd_T39 x7_1 ((rd_T35 l0 x22_1).f0)).f1.f2)) := (blk_cell BK230.out 5).trans rfl
               have hcz65_6 : wr.cell? ⟨gb230, 6, none⟩ = some (.int .i64 ((rd_T39 x7_1 ((rd_T35 l0 x22_1).f0)).f1.f3)) := (blk_cell BK230.out 6).trans rfl
               have hfz65_0 := blk_frozen BK230.out 0
               have hfz65_1 := blk_frozen BK230.out 1
               have hfz65_2 := blk_frozen BK230.out 2
               have hfz65_3 := blk_frozen BK230.out 3
               have hfz65_4 := blk_frozen BK230.out 4
               have hfz65_5 := blk_frozen BK230.out 5
               have hfz65_6 := blk_frozen BK230.out 6
               have hnb66 := NB228_222.out
               have hnc66 := NB222_228.out
               have hnb67 := NB228_234.out
               have hnc67 := NB234_228.out
               have hcz68_0 : wr.cell? ⟨gb228, 0, none⟩ = some (.int .i64 x229000_2) := (blk_cell BK228.out 0).trans rfl
               have hcz68_1 : wr.cell? ⟨gb228, 1, none⟩ = some (.int .i64 x229001_2) := (blk_cell BK228.out 1).trans rfl
               have hcz68_2 : wr.cell? ⟨gb228, 2, none⟩ = some (.int .i64 x229002_2) := (blk_cell BK228.out 2).trans rfl
               have hcz68_3 : wr.cell? ⟨gb228, 3, none⟩ = some (.int .i64 t224) := (blk_cell BK228.out 3).trans rfl
               have hcz68_4 : wr.cell? ⟨gb228, 4, none⟩ = some (.int .i64 t225) := (blk_cell BK228.out 4).trans rfl
               have hcz68_5 : wr.cell? ⟨gb228, 5, none⟩ = some (.int .i64 t226) := (blk_cell BK228.out 5).trans rfl
               have hcz68_6 : wr.cell? ⟨gb228, 6, none⟩ = some (.int .i64 t227) := (blk_cell BK228.out 6).trans rfl
               have hfz68_0 := blk_frozen BK228.out 0
               have hfz68_1 := blk_frozen BK228.out 1
               have hfz68_2 := blk_frozen BK228.out 2
               have hfz68_3 := blk_frozen BK228.out 3
               have hfz68_4 := blk_frozen BK228.out 4
               have hfz68_5 := blk_frozen BK228.out 5
               have hfz68_6 := blk_frozen BK228.out 6
               go_wp2_with (first | ((with_reducible refine gate_callee (f := 29) rfl ?_); refine goesL_ (some 67) rfl rfl Try.func29 (by kernel_rfl) rfl #[.agg #[.int .i64 ((rd_T39 x7_1 ((rd_T35 l0 x22_1).f0)).f1.f0), .int .i64 ((rd_T39 x7_1 ((rd_T35 l0 x22_1).f0)).f1.f1), .int .i64 ((rd_T39 x7_1 ((rd_T35 l0 x22_1).f0)).f1.f2), .int .i64 ((rd_T39 x7_1 ((rd_T35 l0 x22_1).f0)).f1.f3)], .agg #[.int .i64 t224, .int .i64 t225, .int .i64 t226, .int .i64 t227]] rfl (by (try simp only [zm1, zm2, zm3]); first | done | rfl) ?_; (with_reducible refine (quat_Mul.calls k2 ((rd_T39 x7_1 ((rd_T35 l0 x22_1).f0)).f1.f0) ((rd_T39 x7_1 ((rd_T35 l0 x22_1).f0)).f1.f1) ((rd_T39 x7_1 ((rd_T35 l0 x22_1).f0)).f1.f2) ((rd_T39 x7_1 ((rd_T35 l0 x22_1).f0)).f1.f3) t224 t225 t226 t227 t238 t239 t240 t241 _ A59.out).mono ?_); rintro e w69 ⟨rfl, hb⟩; refine ⟨_, rfl, ?_⟩; have n0_ := Aside0.mk (Kd.R_below (by (with_reducible repeat (first | apply Kd.R_alloc | apply Kd.R_drewN | apply Kd.R_drew)); exact HO_7.out) hb); have n1_ := Aside0.mk (bb hb BK222.out); have n2_ := Aside0.mk (bb hb BK228.out); have n3_ := Aside0.mk (bb hb BK230.out); have n4_ := Aside0.mk (bb hb BK234.out); have n5_ := Aside0.mk (below_step (by repeat (first | (with_reducible first | exact HB.out | apply below_alloc | apply pw_below_drewN | apply below_drew1 | refine below_set ?_ GE222.out | refine below_set ?_ GE228.out | refine below_set ?_ GE230.out | refine below_set ?_ GE234.out) | exact HB.out)) hb); clear HO_7; clear BK222; clear BK228; clear BK230; clear BK234; clear HB; have HO_7 := n0_; have BK222 := n1_; have BK228 := n2_; have BK230 := n3_; have BK234 := n4_; have HB := n5_; clear n0_ n1_ n2_ n3_ n4_ n5_; (try clear hb); (try clear hb2); (try clear hk); (try clear hi)) | ((with_reducible refine gate_callee (f := 22) rfl ?_); refine goesL_ (some 68) rfl rfl Try.func22 (by kernel_rfl) rfl #[.agg #[.int .i64 t238, .int .i64 t239, .int .i64 t240, .int .i64 t241]] rfl (by (try simp only [zm1, zm2, zm3]); first | done | rfl) ?_; (with_reducible refine (quat_Unit.calls k2 t238 t239 t240 t241 t242 t243 t244 t245 _ A60.out).mono ?_); rintro e w70 ⟨rfl, hb⟩; refine ⟨_, rfl, ?_⟩; have n0_ := Aside0.mk (Kd.R_below (by (with_reducible repeat (first | apply Kd.R_alloc | apply Kd.R_drewN | apply Kd.R_drew)); exact HO_7.out) hb); have n1_ := Aside0.mk (bb hb BK222.out); have n2_ := Aside0.mk (bb hb BK228.out); have n3_ := Aside0.mk (bb hb BK230.out); have n4_ := Aside0.mk (bb hb BK234.out); have n5_ := Aside0.mk (below_step (by repeat (first | (with_reducible first | exact HB.out | apply below_alloc | apply pw_below_drewN | apply below_drew1 | refine below_set ?_ GE222.out | refine below_set ?_ GE228.out | refine below_set ?_ GE230.out | refine below_set ?_ GE234.out) | exact HB.out)) hb); clear HO_7; clear BK222; clear BK228; clear BK230; clear BK234; clear HB; have HO_7 := n0_; have BK222 := n1_; have BK228 := n2_; have BK230 := n3_; have BK234 := n4_; have HB := n5_; clear n0_ n1_ n2_ n3_ n4_ n5_; (try clear hb); (try clear hb2); (try clear hk); (try clear hi); have hcz71_0 : w70.cell? ⟨gb228, 0, none⟩ = some (.int .i64 x229000_2) := (blk_cell BK228.out 0).trans rfl; have hcz71_1 : w70.cell? ⟨gb228, 1, none⟩ = some (.int .i64 x229001_2) := (blk_cell BK228.out 1).trans rfl; have hcz71_2 : w70.cell? ⟨gb228, 2, none⟩ = some (.int .i64 x229002_2) := (blk_cell BK228.out 2).trans rfl; have hcz71_3 : w70.cell? ⟨gb228, 3, none⟩ = some (.int .i64 t224) := (blk_cell BK228.out 3).trans rfl; have hcz71_4 : w70.cell? ⟨gb228, 4, none⟩ = some (.int .i64 t225) := (blk_cell BK228.out 4).trans rfl; have hcz71_5 : w70.cell? ⟨gb228, 5, none⟩ = some (.int .i64 t226) := (blk_cell BK228.out 5).trans rfl; have hcz71_6 : w70.cell? ⟨gb228, 6, none⟩ = some (.int .i64 t227) := (blk_cell BK228.out 6).trans rfl; have hfz71_0 := blk_frozen BK228.out 0; have hfz71_1 := blk_frozen BK228.out 1; have hfz71_2 := blk_frozen BK228.out 2; have hfz71_3 := blk_frozen BK228.out 3; have hfz71_4 := blk_frozen BK228.out 4; have hfz71_5 := blk_frozen BK228.out 5; have hfz71_6 := blk_frozen BK228.out 6) | ((with_reducible refine gate_builtin (b := .append) (xs := #[.tmp 70, .tmp 72]) rfl ?_); at_builtin; refine Kd.R_append k39 (w0 := w) w.heap.size rfl (.tmp 70) (.tmp 72) 26 39 (.agg #[(.int .i64 0), (.int .i64 0), (.int .i64 0), (.int .i64 0), (.int .i64 0), (.int .i64 0), (.int .i64 0)]) 56 rfl Try.underlying26 info39 rfl (by decide) (by omega) (.slice (some ad229) x7_1.length co31) x7_1 (⟨(⟨x229000_2, x229001_2, x229002_2⟩ : S33), (⟨t242, t243, t244, t245⟩ : S37)⟩ : S39) [.int .i64 x229000_2, .int .i64 x229001_2, .int .i64 x229002_2, .int .i64 t242, .int .i64 t243, .int .i64 t244, .int .i64 t245] (fun k_ => k_ ≠ gb228 ∧ k_ ≠ gb230) (fun _ => False) rfl (by first | (go_simp; done) | (go_simp; rfl)) ?aP (fun _ hk => hk.elim) ?aF ?aO ?aB ?aS ?aL ?_; (case aP => exact k39_mkM _ _ _ (⟨(⟨x229000_2, x229001_2, x229002_2⟩ : S33), (⟨t242, t243, t244, t245⟩ : S37)⟩ : S39)); (case aB => exact (by repeat (first | (with_reducible first | exact HB.out | apply below_alloc | apply pw_below_drewN | apply below_drew1 | refine below_set ?_ GE222.out | refine below_set ?_ GE228.out | refine below_set ?_ GE230.out | refine below_set ?_ GE234.out) | exact HB.out))); (case aF => exact (fun k_ hk => ⟨Kd.freshB (g := gb228) (o := .cells #[.int .i64 x229000_2, .int .i64 x229001_2, .int .i64 x229002_2, .int .i64 t242, .int .i64 t243, .int .i64 t244, .int .i64 t245] 39 (0, 0)) (by (with_reducible repeat (first | refine blk_drewN ?_ _ | refine blk_drew ?_ | refine blk_alloc ?_ _)); refine blk_put (cs := #[.int .i64 x229000_2, .int .i64 x229001_2, .int .i64 x229002_2, .int .i64 t242, .int .i64 t243, .int .i64 t244, .int .i64 t227]) ?_ 6 _ rfl; refine blk_put (cs := #[.int .i64 x229000_2, .int .i64 x229001_2, .int .i64 x229002_2, .int .i64 t242, .int .i64 t243, .int .i64 t226, .int .i64 t227]) ?_ 5 _ rfl; refine blk_put (cs := #[.int .i64 x229000_2, .int .i64 x229001_2, .int .i64 x229002_2, .int .i64 t242, .int .i64 t225, .int .i64 t226, .int .i64 t227]) ?_ 4 _ rfl; refine blk_put (cs := #[.int .i64 x229000_2, .int .i64 x229001_2, .int .i64 x229002_2, .int .i64 t224, .int .i64 t225, .int .i64 t226, .int .i64 t227]) ?_ 3 _ rfl; exact BK228.out) k_ hk, Kd.freshB (g := gb230) (o := .cells #[.int .i64 ((rd_T39 x7_1 ((rd_T35 l0 x22_1).f0)).f0.f0), .int .i64 ((rd_T39 x7_1 ((rd_T35 l0 x22_1).f0)).f0.f1), .int .i64 ((rd_T39 x7_1 ((rd_T35 l0 x22_1).f0)).f0.f2), .int .i64 ((rd_T39 x7_1 ((rd_T35 l0 x22_1).f0)).f1.f0), .int .i64 ((rd_T39 x7_1 ((rd_T35 l0 x22_1).f0)).f1.f1), .int .i64 ((rd_T39 x7_1 ((rd_T35 l0 x22_1).f0)).f1.f2), .int .i64 ((rd_T39 x7_1 ((rd_T35 l0 x22_1).f0)).f1.f3)] 39 (0, 0)) (by (with_reducible repeat (first | refine blk_drewN ?_ _ | refine blk_drew ?_ | refine blk_alloc ?_ _)); refine blk_far ?_ NB230_228.out _; refine blk_far ?_ NB230_228.out _; refine blk_far ?_ NB230_228.out _; refine blk_far ?_ NB230_228.out _; exact BK230.out) k_ hk⟩)); (case aO => exact (by (with_reducible repeat (first | apply Kd.R_alloc | apply Kd.R_drewN | apply Kd.R_drew)); exact Kd.R_mono (Kd.R_far (p := ⟨gb228, 6, none⟩) (Kd.R_far (p := ⟨gb228, 5, none⟩) (Kd.R_far (p := ⟨gb228, 4, none⟩) (Kd.R_far (p := ⟨gb228, 3, none⟩) (Kd.R_mono HO_7.out (fun k_ hk => (⟨hk, hk.1⟩ : _ ∧ k_ ≠ gb228))) (fun _ hk => hk.2) (.int .i64 t242)) (fun _ hk => hk.2) (.int .i64 t243)) (fun _ hk => hk.2) (.int .i64 t244)) (fun _ hk => hk.2) (.int .i64 t245)) (fun _ hk => ⟨hk.1.1, hk.1.2⟩))); (case aS => exact (below_size (by repeat (first | (with_reducible first | exact HB.out | apply below_alloc | apply pw_below_drewN | apply below_drew1 | refine below_set ?_ GE222.out | refine below_set ?_ GE228.out | refine below_set ?_ GE230.out | refine below_set ?_ GE234.out) | exact HB.out)))); (case aL => have := LMc61.out; omega); intro v247 w72 ho hb hg hat; rw [← Ny246.out] at ho; have n0_ := Aside0.mk (blk_grown (g := gb222) (o := .cells #[.int .i64 ((rd_T35 l0 x22_1).f0), .int .i64 ((rd_T35 l0 x22_1).f1.f0), .int .i64 ((rd_T35 l0 x22_1).f1.f1), .int .i64 ((rd_T35 l0 x22_1).f1.f2)] 35 (0, 0)) (by (with_reducible repeat (first | refine blk_drewN ?_ _ | refine blk_drew ?_ | refine blk_alloc ?_ _)); refine blk_far ?_ NB222_228.out _; refine blk_far ?_ NB222_228.out _; refine blk_far ?_ NB222_228.out _; refine blk_far ?_ NB222_228.out _; exact BK222.out) hg (Kd.R_ne HO_7.out BK222.out (by decide))); have n1_ := Aside0.mk (blk_grown (g := gb228) (o := .cells #[.int .i64 x229000_2, .int .i64 x229001_2, .int .i64 x229002_2, .int .i64 t242, .int .i64 t243, .int .i64 t244, .int .i64 t245] 39 (0, 0)) (by (with_reducible repeat (first | refine blk_drewN ?_ _ | refine blk_drew ?_ | refine blk_alloc ?_ _)); refine blk_put (cs := #[.int .i64 x229000_2, .int .i64 x229001_2, .int .i64 x229002_2, .int .i64 t242, .int .i64 t243, .int .i64 t244, .int .i64 t227]) ?_ 6 _ rfl; refine blk_put (cs := #[.int .i64 x229000_2, .int .i64 x229001_2, .int .i64 x229002_2, .int .i64 t242, .int .i64 t243, .int .i64 t226, .int .i64 t227]) ?_ 5 _ rfl; refine blk_put (cs := #[.int .i64 x229000_2, .int .i64 x229001_2, .int .i64 x229002_2, .int .i64 t242, .int .i64 t225, .int .i64 t226, .int .i64 t227]) ?_ 4 _ rfl; refine blk_put (cs := #[.int .i64 x229000_2, .int .i64 x229001_2, .int .i64 x229002_2, .int .i64 t224, .int .i64 t225, .int .i64 t226, .int .i64 t227]) ?_ 3 _ rfl; exact BK228.out) hg (Kd.R_away HO_7.out (fun _ hk => hk.1))); have n2_ := Aside0.mk (blk_grown (g := gb230) (o := .cells #[.int .i64 ((rd_T39 x7_1 ((rd_T35 l0 x22_1).f0)).f0.f0), .int .i64 ((rd_T39 x7_1 ((rd_T35 l0 x22_1).f0)).f0.f1), .int .i64 ((rd_T39 x7_1 ((rd_T35 l0 x22_1).f0)).f0.f2), .int .i64 ((rd_T39 x7_1 ((rd_T35 l0 x22_1).f0)).f1.f0), .int .i64 ((rd_T39 x7_1 ((rd_T35 l0 x22_1).f0)).f1.f1), .int .i64 ((rd_T39 x7_1 ((rd_T35 l0 x22_1).f0)).f1.f2), .int .i64 ((rd_T39 x7_1 ((rd_T35 l0 x22_1).f0)).f1.f3)] 39 (0, 0)) (by (with_reducible repeat (first | refine blk_drewN ?_ _ | refine blk_drew ?_ | refine blk_alloc ?_ _)); refine blk_far ?_ NB230_228.out _; refine blk_far ?_ NB230_228.out _; refine blk_far ?_ NB230_228.out _; refine blk_far ?_ NB230_228.out _; exact BK230.out) hg (Kd.R_away HO_7.out (fun _ hk => hk.2))); have n3_ := Aside0.mk (blk_grown (g := gb234) (o := .cells #[.int .i64 t231, .int .i64 t232, .int .i64 t233] 33 (0, 0)) (by (with_reducible repeat (first | refine blk_drewN ?_ _ | refine blk_drew ?_ | refine blk_alloc ?_ _)); refine blk_far ?_ NB234_228.out _; refine blk_far ?_ NB234_228.out _; refine blk_far ?_ NB234_228.out _; refine blk_far ?_ NB234_228.out _; exact BK234.out) hg (Kd.R_ne HO_7.out BK234.out (by decide))); have n4_ := Aside0.mk (hb); have n5_ := Aside0.mk (ho); clear BK222; clear BK228; clear BK230; clear BK234; clear HB; clear HO_7; have BK222 := n0_; have BK228 := n1_; have BK230 := n2_; have BK234 := n3_; have HB := n4_; have HO248 := n5_; clear n0_ n1_ n2_ n3_ n4_ n5_; clear ho hb hg hat))
               go_roundg k2
               case measure => have := HK1.out; have := HK2.out; omega
               case rel => exact ⟨(y246), (wrap64 (x22_1 + 1)), (by first | rfl | (simp; done) | (simp [*]; done) | (simp; decide +kernel)), H', ⟨by have := HK1.out; have := HK2.out; omega⟩, ⟨by (with_reducible repeat (first | apply Kd.R_alloc | apply Kd.R_drewN | apply Kd.R_drew)); exact Kd.R_mono HO248.out (fun _ hk => trivial)⟩, ⟨by repeat (first | (with_reducible first | exact HB.out | apply below_alloc | apply pw_below_drewN | apply below_drew1 | refine below_set ?_ GE222.out | refine below_set ?_ GE228.out | refine below_set ?_ GE230.out | refine below_set ?_ GE234.out) | exact HB.out)⟩⟩
              ·rw [if_neg c61] at H
               exact absurd H (by simp)
          ·rw [if_neg c13] at H
           exact absurd H (by simp)
         ·rw [if_neg c12] at H
          exact absurd H (by simp)
        ·rw [if_neg c11] at H
         have c11b0 : decide (0 ≤ ((rd_T35 l0 x22_1).f0)) = false := decide_eq_false c11
         clear c11
         by_cases c73 : x7_1.length < 2513169434916
         ·rw [if_pos c73] at H
          have LMc73 := Aside0.mk c73
          clear c73
          obtain ⟨y249, hy249⟩ : ∃ y_ : List (S39), y_ = (x7_1 ++ [(⟨(⟨(rd_T35 l0 x22_1).f1.f0, (rd_T35 l0 x22_1).f1.f1, (rd_T35 l0 x22_1).f1.f2⟩ : S33), (⟨t224, t225, t226, t227⟩ : S37)⟩ : S39)]) := ⟨_, rfl⟩
          replace H : (bones_Places.l0 k1 l1 y249 l0 (l0.length : Int) (wrap64 (x22_1 + 1))) = some (r1, r2) := by first | (rw [hy249]; with_reducible exact H) | (have H2_ := (Option.bind_some _ _).symm.trans H; rw [hy249]; with_reducible exact H2_) | (have H2_ := (Option.bind_some _ _).symm.trans H; with_reducible exact H2_) | with_reducible exact H | (rw [hy249]; exact H) | exact H
          have Ny249 := Aside0.mk hy249
          clear hy249
          have H' := Aside0.mk H
          clear H
          have p221 : 0 ≤ (x22_1 : Int) := of_decide_eq_true (by first | (with_reducible assumption) | assumption)
          have q221 : x22_1 < (l0.length : Int) := of_decide_eq_true (by first | (with_reducible assumption) | assumption)
          obtain ⟨ad221, e221, hx221_0, hx221_1, hx221_2, hx221_3⟩ := at_T35 HR0.out x22_1 p221 q221
          cases e221
          replace hx221_0 := (HB.out.cell (World.block_lt_of_cell? w _ hx221_0)).trans hx221_0
          replace hx221_1 := (HB.out.cell (World.block_lt_of_cell? w _ hx221_1)).trans hx221_1
          replace hx221_2 := (HB.out.cell (World.block_lt_of_cell? w _ hx221_2)).trans hx221_2
          replace hx221_3 := (HB.out.cell (World.block_lt_of_cell? w _ hx221_3)).trans hx221_3
          replace p221 := eq_true p221
          replace q221 := eq_true q221
          try go_wp2_with (first | ((with_reducible refine gate_dst (N := 9) rfl ?_); refine box_event ?hg (N := 9) ?hd (cs := #[.int .i64 0, .int .i64 0, .int .i64 0, .int .i64 0]) (t := 35) ?hr ?_; (case hd => rfl); (case hg => rfl); (case hr => first | (go_simp; done) | (go_simp; rfl)); intro gb222 hg w74 hbox hb; have n0_ := Aside0.mk (Kd.R_below (by (with_reducible repeat (first | apply Kd.R_alloc | apply Kd.R_drewN | apply Kd.R_drew)); exact HO_7.out) hb); have n1_ := Aside0.mk (below_step (by repeat (first | (with_reducible first | exact HB.out | apply below_alloc | apply pw_below_drewN | apply below_drew1) | exact HB.out)) hb); have n2_ := Aside0.mk (hbox); have n3_ := Aside0.mk ((by rw [hg]; exact (below_size (by repeat (first | (with_reducible first | exact HB.out | apply below_alloc | apply pw_below_drewN | apply below_drew1) | exact HB.out))) : w.heap.size ≤ gb222)); have n4_ := Aside0.mk ((by rw [hg]; exact (below_size (by repeat (first | (with_reducible first | exact HB.out | apply below_alloc | apply pw_below_drewN | apply below_drew1) | exact HB.out))) : w.heap.size ≤ gb222)); clear HO_7; clear HB; have HO_7 := n0_; have HB := n1_; have BK222 := n2_; have GW222 := n3_; have GE222 := n4_; clear n0_ n1_ n2_ n3_ n4_; clear hb hbox hg; obtain ⟨hcz75_0, hcz75_1, hcz75_2, hcz75_3⟩ := blk4 BK222.out; obtain ⟨hfz75_0, hfz75_1, hfz75_2, hfz75_3⟩ := frz4 BK222.out))
          have n0_ : Aside0 (Kd.R k39 39 ((((w74.setCell ⟨gb222, 0, none⟩ (.int .i64 ((rd_T35 l0 x22_1).f0))).setCell ⟨gb222, 1, none⟩ (.int .i64 ((rd_T35 l0 x22_1).f1.f0))).setCell ⟨gb222, 2, none⟩ (.int .i64 ((rd_T35 l0 x22_1).f1.f1))).setCell ⟨gb222, 3, none⟩ (.int .i64 ((rd_T35 l0 x22_1).f1.f2))) w.heap.size (fun _ => True) u7 x7_1) := ⟨by (with_reducible repeat (first | apply Kd.R_alloc | apply Kd.R_drewN | apply Kd.R_drew)); exact Kd.R_mono (Kd.R_far (p := ⟨gb222, 3, none⟩) (Kd.R_far (p := ⟨gb222, 2, none⟩) (Kd.R_far (p := ⟨gb222, 1, none⟩) (Kd.R_far (p := ⟨gb222, 0, none⟩) (Kd.R_types HO_7.out BK222.out (by decide)) (fun _ hk => hk.2) (.int .i64 ((rd_T35 l0 x22_1).f0))) (fun _ hk => hk.2) (.int .i64 ((rd_T35 l0 x22_1).f1.f0))) (fun _ hk => hk.2) (.int .i64 ((rd_T35 l0 x22_1).f1.f1))) (fun _ hk => hk.2) (.int .i64 ((rd_T35 l0 x22_1).f1.f2))) (fun _ hk => trivial)⟩
          have n1_ : Aside0 (((((w74.setCell ⟨gb222, 0, none⟩ (.int .i64 ((rd_T35 l0 x22_1).f0))).setCell ⟨gb222, 1, none⟩ (.int .i64 ((rd_T35 l0 x22_1).f1.f0))).setCell ⟨gb222, 2, none⟩ (.int .i64 ((rd_T35 l0 x22_1).f1.f1))).setCell ⟨gb222, 3, none⟩ (.int .i64 ((rd_T35 l0 x22_1).f1.f2))).heap[gb222]? = some (.cells #[.int .i64 ((rd_T35 l0 x22_1).f0), .int .i64 ((rd_T35 l0 x22_1).f1.f0), .int .i64 ((rd_T35 l0 x22_1).f1.f1), .int .i64 ((rd_T35 l0 x22_1).f1.f2)] 35 (0, 0))) := ⟨by (with_reducible repeat (first | refine blk_drewN ?_ _ | refine blk_drew ?_ | refine blk_alloc ?_ _)); refine blk_put (cs := #[.int .i64 ((rd_T35 l0 x22_1).f0), .int .i64 ((rd_T35 l0 x22_1).f1.f0), .int .i64 ((rd_T35 l0 x22_1).f1.f1), .int .i64 0]) ?_ 3 _ rfl; refine blk_put (cs := #[.int .i64 ((rd_T35 l0 x22_1).f0), .int .i64 ((rd_T35 l0 x22_1).f1.f0), .int .i64 0, .int .i64 0]) ?_ 2 _ rfl; refine blk_put (cs := #[.int .i64 ((rd_T35 l0 x22_1).f0), .int .i64 0, .int .i64 0, .int .i64 0]) ?_ 1 _ rfl; refine blk_put (cs := #[.int .i64 0, .int .i64 0, .int .i64 0, .int .i64 0]) ?_ 0 _ rfl; exact BK222.out⟩
          have n2_ : Aside0 (Below w.heap.size w ((((w74.setCell ⟨gb222, 0, none⟩ (.int .i64 ((rd_T35 l0 x22_1).f0))).setCell ⟨gb222, 1, none⟩ (.int .i64 ((rd_T35 l0 x22_1).f1.f0))).setCell ⟨gb222, 2, none⟩ (.int .i64 ((rd_T35 l0 x22_1).f1.f1))).setCell ⟨gb222, 3, none⟩ (.int .i64 ((rd_T35 l0 x22_1).f1.f2)))) := ⟨by repeat (first | (with_reducible first | exact HB.out | apply below_alloc | apply pw_below_drewN | apply below_drew1 | refine below_set ?_ GE222.out) | exact HB.out)⟩
          (try clear HO_7)
          (try clear BK222)
          (try clear HB)
          generalize ((((w74.setCell ⟨gb222, 0, none⟩ (.int .i64 ((rd_T35 l0 x22_1).f0))).setCell ⟨gb222, 1, none⟩ (.int .i64 ((rd_T35 l0 x22_1).f1.f0))).setCell ⟨gb222, 2, none⟩ (.int .i64 ((rd_T35 l0 x22_1).f1.f1))).setCell ⟨gb222, 3, none⟩ (.int .i64 ((rd_T35 l0 x22_1).f1.f2))) = w76 at n0_ n1_ n2_ ⊢
          have HO_7 := n0_
          have BK222 := n1_
          have HB := n2_
          clear n0_ n1_ n2_
          have n0_ := Aside0.mk (Kd.R_drew HO_7.out)
          have n1_ := Aside0.mk (blk_drew BK222.out)
          have n2_ := Aside0.mk (below_drew1 HB.out)
          clear HO_7
          clear BK222
          clear HB
          have HO_7 := n0_
          have BK222 := n1_
          have HB := n2_
          clear n0_ n1_ n2_
          have p223 : 0 ≤ (x22_1 : Int) := of_decide_eq_true (by first | (with_reducible assumption) | assumption)
          have q223 : x22_1 < (l1.length : Int) := of_decide_eq_true (by first | (with_reducible assumption) | assumption)
          obtain ⟨ad223, e223, hx223_0, hx223_1, hx223_2, hx223_3⟩ := at_T37 HR1.out x22_1 p223 q223
          have hw223_3 := hx223_3
          have hw223_2 := hx223_2
          have hw223_1 := hx223_1
          have hw223_0 := hx223_0
          cases e223
          replace hx223_0 := (HB.out.cell (World.block_lt_of_cell? w _ hx223_0)).trans hx223_0
          replace hx223_1 := (HB.out.cell (World.block_lt_of_cell? w _ hx223_1)).trans hx223_1
          replace hx223_2 := (HB.out.cell (World.block_lt_of_cell? w _ hx223_2)).trans hx223_2
          replace hx223_3 := (HB.out.cell (World.block_lt_of_cell? w _ hx223_3)).trans hx223_3
          replace p223 := eq_true p223
          replace q223 := eq_true q223
          refine start_ (n := 10) (S := fun w' => w'.cell? ⟨gb222, 0, none⟩ = some (.int .i64 ((rd_T35 l0 x22_1).f0)) ∧ w'.cell? ⟨gb222, 1, none⟩ = some (.int .i64 ((rd_T35 l0 x22_1).f1.f0)) ∧ w'.cell? ⟨gb222, 2, none⟩ = some (.int .i64 ((rd_T35 l0 x22_1).f1.f1)) ∧ w'.cell? ⟨gb222, 3, none⟩ = some (.int .i64 ((rd_T35 l0 x22_1).f1.f2)) ∧ w'.cell? (ad223.add ((x22_1).toNat * 4)) = some (.int .i64 ((rd_T37 l1 x22_1).f0)) ∧ w'.cell? ⟨(ad223.add ((x22_1).toNat * 4)).block, (ad223.add ((x22_1).toNat * 4)).off + 1, none⟩ = some (.int .i64 ((rd_T37 l1 x22_1).f1)) ∧ w'.cell? ⟨(ad223.add ((x22_1).toNat * 4)).block, (ad223.add ((x22_1).toNat * 4)).off + 2, none⟩ = some (.int .i64 ((rd_T37 l1 x22_1).f2)) ∧ w'.cell? ⟨(ad223.add ((x22_1).toNat * 4)).block, (ad223.add ((x22_1).toNat * 4)).off + 3, none⟩ = some (.int .i64 ((rd_T37 l1 x22_1).f3))) (ds := []) (ab 10 0) (by kernel_rfl) rfl rfl ⟨(blk_cell BK222.out 0).trans rfl, (blk_cell BK222.out 1).trans rfl, (blk_cell BK222.out 2).trans rfl, (blk_cell BK222.out 3).trans rfl, ((HB.out.cell (World.block_lt_of_cell? w _ hw223_0)).trans hw223_0), ((HB.out.cell (World.block_lt_of_cell? w _ hw223_1)).trans hw223_1), ((HB.out.cell (World.block_lt_of_cell? w _ hw223_2)).trans hw223_2), ((HB.out.cell (World.block_lt_of_cell? w _ hw223_3)).trans hw223_3)⟩ (fun hHeld => ?_); refine with_tabW bones_Places.tab8 bones_Places.bits8 (fun HT_ HW_ => ?_)
          generalize w76.drew = w77 at HO_7 BK222 HB hx223_0 hx223_1 hx223_2 hx223_3 hHeld ⊢
          refine pure_ (i := 0) (N := some 27) (v := ?_) (a' := ?_) (ab 10 1) rfl rfl (any_of HT_.out (by kernel_rfl)) (fun _ _ _ h => h) (Or.inl ⟨by rfl, ?_⟩) ?_ ?_
          rotate_left
          ·intro w'
           go_simp
           with_reducible rfl
          rotate_left
          ·simp only [Act.put, zq1, zq2, zq3, i64_w, i32_w]
           rfl
          refine pure_ (i := 2) (N := some 29) (v := ?_) (a' := ?_) (ab 10 5) rfl rfl (any_of HT_.out (by kernel_rfl)) (fun _ _ _ h => h) (Or.inl ⟨by rfl, ?_⟩) ?_ ?_
          rotate_left
          ·intro w'
           go_simp
           with_reducible rfl
          rotate_left
          ·simp only [Act.put, zq1, zq2, zq3, i64_w, i32_w]
           rfl
          refine pure_ (i := 3) (N := some 30) (v := ?_) (a' := ?_) (ab 10 13) rfl rfl (any_of HT_.out (by kernel_rfl)) (fun _ _ _ h => h) (Or.inl ⟨by rfl, ?_⟩) ?_ ?_
          rotate_left
          ·intro w'
           go_simp
           with_reducible rfl
          rotate_left
          ·simp only [Act.put, zq1, zq2, zq3, i64_w, i32_w]
           rfl
          refine pure_ (i := 4) (N := some 31) (v := ?_) (a' := ?_) (ab 10 29) rfl rfl (any_of HT_.out (by kernel_rfl)) (fun _ _ _ h => h) (Or.inl ⟨by rfl, ?_⟩) ?_ ?_
          rotate_left
          ·intro w'
           go_simp
           with_reducible rfl
          rotate_left
          ·simp only [Act.put, zq1, zq2, zq3, i64_w, i32_w]
           rfl
          refine take_ (i := 1) (N := some 28) (v := ?_) (a' := ?_) (ab 10 31) rfl rfl (take_ofW HT_.out HW_.out (by kernel_rfl)) (fun _ _ _ h => h) (Or.inl ⟨by rfl, ?_⟩) hHeld ?_ ?_
          rotate_left
          ·rintro w' ⟨s0, s1, s2, s3, s4, s5, s6, s7⟩
           go_simp
           with_reducible rfl
          rotate_left
          ·simp only [Act.put, zq1, zq2, zq3, i64_w, i32_w]
           rfl
          refine take_ (i := 5) (N := some 32) (v := ?_) (a' := ?_) (ab 10 63) rfl rfl (take_ofW HT_.out HW_.out (by kernel_rfl)) (fun _ _ _ h => h) (Or.inl ⟨by rfl, ?_⟩) hHeld ?_ ?_
          rotate_left
          ·rintro w' ⟨s0, s1, s2, s3, s4, s5, s6, s7⟩
           go_simp
           with_reducible rfl
          rotate_left
          ·simp only [Act.put, zq1, zq2, zq3, i64_w, i32_w]
           rfl
          refine join_ (σ := Nat) 1 (ab 10 511) (fun s_ => [(33, .agg #[.int .i64 t224, .int .i64 t225, .int .i64 t226, .int .i64 t227]), (10, .pointer (some ⟨s_, 0, none⟩)), (34, .agg #[.int .i64 ((rd_T35 l0 x22_1).f1.f0), .int .i64 ((rd_T35 l0 x22_1).f1.f1), .int .i64 ((rd_T35 l0 x22_1).f1.f2), .int .i64 t224, .int .i64 t225, .int .i64 t226, .int .i64 t227])]) (fun s_ w' => (w'.cell? ⟨gb222, 0, none⟩ = some (.int .i64 ((rd_T35 l0 x22_1).f0)) ∧ w'.cell? ⟨gb222, 1, none⟩ = some (.int .i64 ((rd_T35 l0 x22_1).f1.f0)) ∧ w'.cell? ⟨gb222, 2, none⟩ = some (.int .i64 ((rd_T35 l0 x22_1).f1.f1)) ∧ w'.cell? ⟨gb222, 3, none⟩ = some (.int .i64 ((rd_T35 l0 x22_1).f1.f2)) ∧ w'.cell? (ad223.add ((x22_1).toNat * 4)) = some (.int .i64 ((rd_T37 l1 x22_1).f0)) ∧ w'.cell? ⟨(ad223.add ((x22_1).toNat * 4)).block, (ad223.add ((x22_1).toNat * 4)).off + 1, none⟩ = some (.int .i64 ((rd_T37 l1 x22_1).f1)) ∧ w'.cell? ⟨(ad223.add ((x22_1).toNat * 4)).block, (ad223.add ((x22_1).toNat * 4)).off + 2, none⟩ = some (.int .i64 ((rd_T37 l1 x22_1).f2)) ∧ w'.cell? ⟨(ad223.add ((x22_1).toNat * 4)).block, (ad223.add ((x22_1).toNat * 4)).off + 3, none⟩ = some (.int .i64 ((rd_T37 l1 x22_1).f3))) ∧ (Kd.R k39 39 w' w.heap.size (fun k_ => k_ ≠ s_) u7 x7_1) ∧ (w'.heap[gb222]? = some (.cells #[.int .i64 ((rd_T35 l0 x22_1).f0), .int .i64 ((rd_T35 l0 x22_1).f1.f0), .int .i64 ((rd_T35 l0 x22_1).f1.f1), .int .i64 ((rd_T35 l0 x22_1).f1.f2)] 35 (0, 0))) ∧ (w'.heap[s_]? = some (.cells #[.int .i64 0, .int .i64 0, .int .i64 0, .int .i64 0, .int .i64 0, .int .i64 0, .int .i64 0] 39 (0, 0))) ∧ (w.heap.size ≤ s_) ∧ (w.heap.size ≤ s_) ∧ (gb222 ≠ s_) ∧ (s_ ≠ gb222) ∧ (Below w.heap.size w w')) ?_ ?_
          rotate_left
          ·intro hCont
           refine two_ (i := 6) (j := 8) (Ni := some 33) (Nj := some 10) (ab 10 127) (ab 10 319) rfl rfl rfl rfl (two_of HT_.out (by kernel_rfl)) (by decide) (by decide) (fun K hK => ?_) (fun K hK => ?_)
           ·skip
            refine goes_ Try.func22 (by kernel_rfl) rfl #[.agg #[.int .i64 ((rd_T37 l1 x22_1).f0), .int .i64 ((rd_T37 l1 x22_1).f1), .int .i64 ((rd_T37 l1 x22_1).f2), .int .i64 ((rd_T37 l1 x22_1).f3)]] (by rfl) rfl rfl (by (try simp only [zm1, zm2, zm3]); first | done | rfl) ?_
            with_reducible refine (quat_Unit.calls k1 ((rd_T37 l1 x22_1).f0) ((rd_T37 l1 x22_1).f1) ((rd_T37 l1 x22_1).f2) ((rd_T37 l1 x22_1).f3) t224 t225 t226 t227 _ A10.out).mono ?_
            rintro e w78 ⟨rfl, hb⟩
            refine ⟨_, rfl, ?_⟩
            have n0_ := Aside0.mk (Kd.R_below (by (with_reducible repeat (first | apply Kd.R_alloc | apply Kd.R_drewN | apply Kd.R_drew)); exact HO_7.out) hb)
            have n1_ := Aside0.mk (bb hb BK222.out)
            have n2_ := Aside0.mk (below_step (by repeat (first | (with_reducible first | exact HB.out | apply below_alloc | apply pw_below_drewN | apply below_drew1 | refine below_set ?_ GE222.out) | exact HB.out)) hb)
            clear HO_7
            clear BK222
            clear HB
            have HO_7 := n0_
            have BK222 := n1_
            have HB := n2_
            clear n0_ n1_ n2_
            (try clear hb)
            (try clear hb2)
            (try clear hk)
            (try clear hi)
            refine hK.out _ _ ⟨(blk_cell BK222.out 0).trans rfl, (blk_cell BK222.out 1).trans rfl, (blk_cell BK222.out 2).trans rfl, (blk_cell BK222.out 3).trans rfl, ((HB.out.cell (World.block_lt_of_cell? w _ hw223_0)).trans hw223_0), ((HB.out.cell (World.block_lt_of_cell? w _ hw223_1)).trans hw223_1), ((HB.out.cell (World.block_lt_of_cell? w _ hw223_2)).trans hw223_2), ((HB.out.cell (World.block_lt_of_cell? w _ hw223_3)).trans hw223_3)⟩ (fun hHeld => ?_)
            clear hK K
            refine norm_ (a' := ?_) ?_ ?_
            rotate_left
            ·show Act.put _ (some 33) _ = _
             simp only [Act.put, zq1, zq2, zq3, i64_w, i32_w]
             rfl
            refine pure_ (i := 7) (N := some 34) (v := ?_) (a' := ?_) (ab 10 255) rfl rfl (any_of HT_.out (by kernel_rfl)) (fun _ _ _ h => h) (Or.inl ⟨by rfl, ?_⟩) ?_ ?_
            rotate_left
            ·intro w'
             go_simp
             with_reducible rfl
            rotate_left
            ·simp only [Act.put, zq1, zq2, zq3, i64_w, i32_w]
             rfl
            refine one_ (i := 8) (N := some 10) (ab 10 511) rfl rfl (one_of HT_.out (by kernel_rfl)) (by decide) (fun K hK => ?_)
            refine box_step ?hg (N := 10) ?hd (cs := #[.int .i64 0, .int .i64 0, .int .i64 0, .int .i64 0, .int .i64 0, .int .i64 0, .int .i64 0]) (t := 39) ?hr ?_; (case hd => rfl); (case hg => rfl); (case hr => first | (go_simp; done) | (go_simp; rfl))
            intro gb228 hg w79 hbox hb
            have n0_ := Aside0.mk (Kd.R_below (Kd.R_elderB (by (with_reducible repeat (first | apply Kd.R_alloc | apply Kd.R_drewN | apply Kd.R_drew)); exact HO_7.out) gb228 (Nat.le_of_eq hg.symm)) hb)
            have n1_ := Aside0.mk (bb hb BK222.out)
            have n2_ := Aside0.mk (below_step (by repeat (first | (with_reducible first | exact HB.out | apply below_alloc | apply pw_below_drewN | apply below_drew1 | refine below_set ?_ GE222.out) | exact HB.out)) hb)
            have n3_ := Aside0.mk (hbox)
            have n4_ := Aside0.mk ((by rw [hg]; exact (below_size (by repeat (first | (with_reducible first | exact HB.out | apply below_alloc | apply pw_below_drewN | apply below_drew1 | refine below_set ?_ GE222.out) | exact HB.out))) : w.heap.size ≤ gb228))
            have n5_ := Aside0.mk ((by rw [hg]; exact (below_size (by repeat (first | (with_reducible first | exact HB.out | apply below_alloc | apply pw_below_drewN | apply below_drew1 | refine below_set ?_ GE222.out) | exact HB.out))) : w.heap.size ≤ gb228))
            have n6_ := Aside0.mk (nl hg BK222.out)
            have n7_ := Aside0.mk (ng hg BK222.out)
            clear HO_7
            clear BK222
            clear HB
            have HO_7 := n0_
            have BK222 := n1_
            have HB := n2_
            have BK228 := n3_
            have GW228 := n4_
            have GE228 := n5_
            have NB222_228 := n6_
            have NB228_222 := n7_
            clear n0_ n1_ n2_ n3_ n4_ n5_ n6_ n7_
            clear hb hbox hg
            refine hK.out _ _ ⟨(blk_cell BK222.out 0).trans rfl, (blk_cell BK222.out 1).trans rfl, (blk_cell BK222.out 2).trans rfl, (blk_cell BK222.out 3).trans rfl, ((HB.out.cell (World.block_lt_of_cell? w _ hw223_0)).trans hw223_0), ((HB.out.cell (World.block_lt_of_cell? w _ hw223_1)).trans hw223_1), ((HB.out.cell (World.block_lt_of_cell? w _ hw223_2)).trans hw223_2), ((HB.out.cell (World.block_lt_of_cell? w _ hw223_3)).trans hw223_3)⟩ (fun hHeld => ?_)
            clear hK K
            refine norm_ (a' := ?_) ?_ ?_
            rotate_left
            ·show Act.put _ (some 10) _ = _
             simp only [Act.put, zq1, zq2, zq3, i64_w, i32_w]
             rfl
            exact norm_ (by simp only [putAll, Act.put, zq1, zq2, zq3]) (hCont (gb228) _ ⟨hHeld, (by (with_reducible repeat (first | apply Kd.R_alloc | apply Kd.R_drewN | apply Kd.R_drew)); exact Kd.R_mono HO_7.out (fun _ hk => hk.2)), (by (with_reducible repeat (first | refine blk_drewN ?_ _ | refine blk_drew ?_ | refine blk_alloc ?_ _)); exact BK222.out), (by (with_reducible repeat (first | refine blk_drewN ?_ _ | refine blk_drew ?_ | refine blk_alloc ?_ _)); exact BK228.out), GW228.out, GE228.out, NB222_228.out, NB228_222.out, (by repeat (first | (with_reducible first | exact HB.out | apply below_alloc | apply pw_below_drewN | apply below_drew1 | refine below_set ?_ GE222.out | refine below_set ?_ GE228.out) | exact HB.out))⟩)
           ·skip
            refine box_step ?hg (N := 10) ?hd (cs := #[.int .i64 0, .int .i64 0, .int .i64 0, .int .i64 0, .int .i64 0, .int .i64 0, .int .i64 0]) (t := 39) ?hr ?_; (case hd => rfl); (case hg => rfl); (case hr => first | (go_simp; done) | (go_simp; rfl))
            intro gb228 hg w78 hbox hb
            have n0_ := Aside0.mk (Kd.R_below (Kd.R_elderB (by (with_reducible repeat (first | apply Kd.R_alloc | apply Kd.R_drewN | apply Kd.R_drew)); exact HO_7.out) gb228 (Nat.le_of_eq hg.symm)) hb)
            have n1_ := Aside0.mk (bb hb BK222.out)
            have n2_ := Aside0.mk (below_step (by repeat (first | (with_reducible first | exact HB.out | apply below_alloc | apply pw_below_drewN | apply below_drew1 | refine below_set ?_ GE222.out) | exact HB.out)) hb)
            have n3_ := Aside0.mk (hbox)
            have n4_ := Aside0.mk ((by rw [hg]; exact (below_size (by repeat (first | (with_reducible first | exact HB.out | apply below_alloc | apply pw_below_drewN | apply below_drew1 | refine below_set ?_ GE222.out) | exact HB.out))) : w.heap.size ≤ gb228))
            have n5_ := Aside0.mk ((by rw [hg]; exact (below_size (by repeat (first | (with_reducible first | exact HB.out | apply below_alloc | apply pw_below_drewN | apply below_drew1 | refine below_set ?_ GE222.out) | exact HB.out))) : w.heap.size ≤ gb228))
            have n6_ := Aside0.mk (nl hg BK222.out)
            have n7_ := Aside0.mk (ng hg BK222.out)
            clear HO_7
            clear BK222
            clear HB
            have HO_7 := n0_
            have BK222 := n1_
            have HB := n2_
            have BK228 := n3_
            have GW228 := n4_
            have GE228 := n5_
            have NB222_228 := n6_
            have NB228_222 := n7_
            clear n0_ n1_ n2_ n3_ n4_ n5_ n6_ n7_
            clear hb hbox hg
            refine hK.out _ _ ⟨(blk_cell BK222.out 0).trans rfl, (blk_cell BK222.out 1).trans rfl, (blk_cell BK222.out 2).trans rfl, (blk_cell BK222.out 3).trans rfl, ((HB.out.cell (World.block_lt_of_cell? w _ hw223_0)).trans hw223_0), ((HB.out.cell (World.block_lt_of_cell? w _ hw223_1)).trans hw223_1), ((HB.out.cell (World.block_lt_of_cell? w _ hw223_2)).trans hw223_2), ((HB.out.cell (World.block_lt_of_cell? w _ hw223_3)).trans hw223_3)⟩ (fun hHeld => ?_)
            clear hK K
            refine norm_ (a' := ?_) ?_ ?_
            rotate_left
            ·show Act.put _ (some 10) _ = _
             simp only [Act.put, zq1, zq2, zq3, i64_w, i32_w]
             rfl
            refine one_ (i := 6) (N := some 33) (ab 10 383) rfl rfl (one_of HT_.out (by kernel_rfl)) (by decide) (fun K hK => ?_)
            refine goes_ Try.func22 (by kernel_rfl) rfl #[.agg #[.int .i64 ((rd_T37 l1 x22_1).f0), .int .i64 ((rd_T37 l1 x22_1).f1), .int .i64 ((rd_T37 l1 x22_1).f2), .int .i64 ((rd_T37 l1 x22_1).f3)]] (by rfl) rfl rfl (by (try simp only [zm1, zm2, zm3]); first | done | rfl) ?_
            with_reducible refine (quat_Unit.calls k1 ((rd_T37 l1 x22_1).f0) ((rd_T37 l1 x22_1).f1) ((rd_T37 l1 x22_1).f2) ((rd_T37 l1 x22_1).f3) t224 t225 t226 t227 _ A10.out).mono ?_
            rintro e w79 ⟨rfl, hb⟩
            refine ⟨_, rfl, ?_⟩
            have n0_ := Aside0.mk (Kd.R_below (by (with_reducible repeat (first | apply Kd.R_alloc | apply Kd.R_drewN | apply Kd.R_drew)); exact HO_7.out) hb)
            have n1_ := Aside0.mk (bb hb BK222.out)
            have n2_ := Aside0.mk (bb hb BK228.out)
            have n3_ := Aside0.mk (below_step (by repeat (first | (with_reducible first | exact HB.out | apply below_alloc | apply pw_below_drewN | apply below_drew1 | refine below_set ?_ GE222.out | refine below_set ?_ GE228.out) | exact HB.out)) hb)
            clear HO_7
            clear BK222
            clear BK228
            clear HB
            have HO_7 := n0_
            have BK222 := n1_
            have BK228 := n2_
            have HB := n3_
            clear n0_ n1_ n2_ n3_
            (try clear hb)
            (try clear hb2)
            (try clear hk)
            (try clear hi)
            refine hK.out _ _ ⟨(blk_cell BK222.out 0).trans rfl, (blk_cell BK222.out 1).trans rfl, (blk_cell BK222.out 2).trans rfl, (blk_cell BK222.out 3).trans rfl, ((HB.out.cell (World.block_lt_of_cell? w _ hw223_0)).trans hw223_0), ((HB.out.cell (World.block_lt_of_cell? w _ hw223_1)).trans hw223_1), ((HB.out.cell (World.block_lt_of_cell? w _ hw223_2)).trans hw223_2), ((HB.out.cell (World.block_lt_of_cell? w _ hw223_3)).trans hw223_3)⟩ (fun hHeld => ?_)
            clear hK K
            refine norm_ (a' := ?_) ?_ ?_
            rotate_left
            ·show Act.put _ (some 33) _ = _
             simp only [Act.put, zq1, zq2, zq3, i64_w, i32_w]
             rfl
            refine pure_ (i := 7) (N := some 34) (v := ?_) (a' := ?_) (ab 10 511) rfl rfl (any_of HT_.out (by kernel_rfl)) (fun _ _ _ h => h) (Or.inl ⟨by rfl, ?_⟩) ?_ ?_
            rotate_left
            ·intro w'
             go_simp
             with_reducible rfl
            rotate_left
            ·simp only [Act.put, zq1, zq2, zq3, i64_w, i32_w]
             rfl
            exact norm_ (by simp only [putAll, Act.put, zq1, zq2, zq3]) (hCont (gb228) _ ⟨hHeld, (by (with_reducible repeat (first | apply Kd.R_alloc | apply Kd.R_drewN | apply Kd.R_drew)); exact Kd.R_mono HO_7.out (fun _ hk => hk.2)), (by (with_reducible repeat (first | refine blk_drewN ?_ _ | refine blk_drew ?_ | refine blk_alloc ?_ _)); exact BK222.out), (by (with_reducible repeat (first | refine blk_drewN ?_ _ | refine blk_drew ?_ | refine blk_alloc ?_ _)); exact BK228.out), GW228.out, GE228.out, NB222_228.out, NB228_222.out, (by repeat (first | (with_reducible first | exact HB.out | apply below_alloc | apply pw_below_drewN | apply below_drew1 | refine below_set ?_ GE222.out | refine below_set ?_ GE228.out) | exact HB.out))⟩)
          rintro gb228 w80 ⟨hS_, h0_, h1_, h2_, h3_, h4_, h5_, h6_, h7_⟩
          have n0_ : Aside0 (Kd.R k39 39 w80 w.heap.size (fun k_ => k_ ≠ gb228) u7 x7_1) := ⟨h0_⟩
          have n1_ : Aside0 (w80.heap[gb222]? = some (.cells #[.int .i64 ((rd_T35 l0 x22_1).f0), .int .i64 ((rd_T35 l0 x22_1).f1.f0), .int .i64 ((rd_T35 l0 x22_1).f1.f1), .int .i64 ((rd_T35 l0 x22_1).f1.f2)] 35 (0, 0))) := ⟨h1_⟩
          have n2_ : Aside0 (w80.heap[gb228]? = some (.cells #[.int .i64 0, .int .i64 0, .int .i64 0, .int .i64 0, .int .i64 0, .int .i64 0, .int .i64 0] 39 (0, 0))) := ⟨h2_⟩
          have n3_ : Aside0 (w.heap.size ≤ gb228) := ⟨h3_⟩
          have n4_ : Aside0 (w.heap.size ≤ gb228) := ⟨h4_⟩
          have n5_ : Aside0 (gb222 ≠ gb228) := ⟨h5_⟩
          have n6_ : Aside0 (gb228 ≠ gb222) := ⟨h6_⟩
          have n7_ : Aside0 (Below w.heap.size w w80) := ⟨h7_⟩
          clear HO_7
          clear BK222
          clear HB
          clear h0_ h1_ h2_ h3_ h4_ h5_ h6_ h7_
          have HO_7 := n0_
          have BK222 := n1_
          have BK228 := n2_
          have GW228 := n3_
          have GE228 := n4_
          have NB222_228 := n5_
          have NB228_222 := n6_
          have HB := n7_
          clear n0_ n1_ n2_ n3_ n4_ n5_ n6_ n7_
          have hHeld : w80.cell? ⟨gb222, 0, none⟩ = some (.int .i64 ((rd_T35 l0 x22_1).f0)) ∧ w80.cell? ⟨gb222, 1, none⟩ = some (.int .i64 ((rd_T35 l0 x22_1).f1.f0)) ∧ w80.cell? ⟨gb222, 2, none⟩ = some (.int .i64 ((rd_T35 l0 x22_1).f1.f1)) ∧ w80.cell? ⟨gb222, 3, none⟩ = some (.int .i64 ((rd_T35 l0 x22_1).f1.f2)) ∧ w80.cell? (ad223.add ((x22_1).toNat * 4)) = some (.int .i64 ((rd_T37 l1 x22_1).f0)) ∧ w80.cell? ⟨(ad223.add ((x22_1).toNat * 4)).block, (ad223.add ((x22_1).toNat * 4)).off + 1, none⟩ = some (.int .i64 ((rd_T37 l1 x22_1).f1)) ∧ w80.cell? ⟨(ad223.add ((x22_1).toNat * 4)).block, (ad223.add ((x22_1).toNat * 4)).off + 2, none⟩ = some (.int .i64 ((rd_T37 l1 x22_1).f2)) ∧ w80.cell? ⟨(ad223.add ((x22_1).toNat * 4)).block, (ad223.add ((x22_1).toNat * 4)).off + 3, none⟩ = some (.int .i64 ((rd_T37 l1 x22_1).f3)) := hS_
          refine norm_ (a' := ?_) ?_ ?_
          rotate_left
          ·simp only [putAll, Act.put, zq1, zq2, zq3]
           rfl
          refine one_ (i := 9) (N := none) (ab 10 1023) rfl rfl (one_of HT_.out (by kernel_rfl)) (by decide) (fun K hK => ?_)
          have hs81 : w80.cell? ⟨gb228, 0, none⟩ = some (.int .i64 0) := (blk_cell BK228.out 0).trans rfl
          have hfs81 := blk_frozen BK228.out 0
          have hns81_0 := NB222_228.out
          have hms81_0 := NB228_222.out
          have hs82 : w80.cell? ⟨gb228, 1, none⟩ = some (.int .i64 0) := (blk_cell BK228.out 1).trans rfl
          have hfs82 := blk_frozen BK228.out 1
          have hns82_0 := NB222_228.out
          have hms82_0 := NB228_222.out
          have hs83 : w80.cell? ⟨gb228, 2, none⟩ = some (.int .i64 0) := (blk_cell BK228.out 2).trans rfl
          have hfs83 := blk_frozen BK228.out 2
          have hns83_0 := NB222_228.out
          have hms83_0 := NB228_222.out
          have hs84 : w80.cell? ⟨gb228, 3, none⟩ = some (.int .i64 0) := (blk_cell BK228.out 3).trans rfl
          have hfs84 := blk_frozen BK228.out 3
          have hns84_0 := NB222_228.out
          have hms84_0 := NB228_222.out
          have hs85 : w80.cell? ⟨gb228, 4, none⟩ = some (.int .i64 0) := (blk_cell BK228.out 4).trans rfl
          have hfs85 := blk_frozen BK228.out 4
          have hns85_0 := NB222_228.out
          have hms85_0 := NB228_222.out
          have hs86 : w80.cell? ⟨gb228, 5, none⟩ = some (.int .i64 0) := (blk_cell BK228.out 5).trans rfl
          have hfs86 := blk_frozen BK228.out 5
          have hns86_0 := NB222_228.out
          have hms86_0 := NB228_222.out
          have hs87 : w80.cell? ⟨gb228, 6, none⟩ = some (.int .i64 0) := (blk_cell BK228.out 6).trans rfl
          have hfs87 := blk_frozen BK228.out 6
          have hns87_0 := NB222_228.out
          have hms87_0 := NB228_222.out
          refine skip_ (w1 := ?_) (by rfl) rfl ?_ ?_
          rotate_left
          ·go_simp
           rfl
          refine hK.out _ _ ⟨(cf NB222_228.out ((cf NB222_228.out ((cf NB222_228.out ((cf NB222_228.out ((cf NB222_228.out ((cf NB222_228.out ((cf NB222_228.out (hHeld.1)))))))))))))), (cf NB222_228.out ((cf NB222_228.out ((cf NB222_228.out ((cf NB222_228.out ((cf NB222_228.out ((cf NB222_228.out ((cf NB222_228.out (hHeld.2.1)))))))))))))), (cf NB222_228.out ((cf NB222_228.out ((cf NB222_228.out ((cf NB222_228.out ((cf NB222_228.out ((cf NB222_228.out ((cf NB222_228.out (hHeld.2.2.1)))))))))))))), (cf NB222_228.out ((cf NB222_228.out ((cf NB222_228.out ((cf NB222_228.out ((cf NB222_228.out ((cf NB222_228.out ((cf NB222_228.out (hHeld.2.2.2.1)))))))))))))), (cf (by exact (lb hw223_0 GW228.out :)) ((cf (by exact (lb hw223_0 GW228.out :)) ((cf (by exact (lb hw223_0 GW228.out :)) ((cf (by exact (lb hw223_0 GW228.out :)) ((cf (by exact (lb hw223_0 GW228.out :)) ((cf (by exact (lb hw223_0 GW228.out :)) ((cf (by exact (lb hw223_0 GW228.out :)) (hHeld.2.2.2.2.1)))))))))))))), (cf (by exact (lb hw223_1 GW228.out :)) ((cf (by exact (lb hw223_1 GW228.out :)) ((cf (by exact (lb hw223_1 GW228.out :)) ((cf (by exact (lb hw223_1 GW228.out :)) ((cf (by exact (lb hw223_1 GW228.out :)) ((cf (by exact (lb hw223_1 GW228.out :)) ((cf (by exact (lb hw223_1 GW228.out :)) (hHeld.2.2.2.2.2.1)))))))))))))), (cf (by exact (lb hw223_2 GW228.out :)) ((cf (by exact (lb hw223_2 GW228.out :)) ((cf (by exact (lb hw223_2 GW228.out :)) ((cf (by exact (lb hw223_2 GW228.out :)) ((cf (by exact (lb hw223_2 GW228.out :)) ((cf (by exact (lb hw223_2 GW228.out :)) ((cf (by exact (lb hw223_2 GW228.out :)) (hHeld.2.2.2.2.2.2.1)))))))))))))), (cf (by exact (lb hw223_3 GW228.out :)) ((cf (by exact (lb hw223_3 GW228.out :)) ((cf (by exact (lb hw223_3 GW228.out :)) ((cf (by exact (lb hw223_3 GW228.out :)) ((cf (by exact (lb hw223_3 GW228.out :)) ((cf (by exact (lb hw223_3 GW228.out :)) ((cf (by exact (lb hw223_3 GW228.out :)) (hHeld.2.2.2.2.2.2.2))))))))))))))⟩ (fun hHeld => ?_)
          clear hK K
          refine done_ (done_of HT_.out (by kernel_rfl)) ?_
          have hnb88 := NB222_228.out
          have hnc88 := NB228_222.out
          obtain ⟨hcz89_0, hcz89_1, hcz89_2, hcz89_3⟩ := blk4 BK222.out
          obtain ⟨hfz89_0, hfz89_1, hfz89_2, hfz89_3⟩ := frz4 BK222.out
          have hcz90_0 : w80.cell? ⟨gb228, 0, none⟩ = some (.int .i64 0) := (blk_cell BK228.out 0).trans rfl
          have hcz90_1 : w80.cell? ⟨gb228, 1, none⟩ = some (.int .i64 0) := (blk_cell BK228.out 1).trans rfl
          have hcz90_2 : w80.cell? ⟨gb228, 2, none⟩ = some (.int .i64 0) := (blk_cell BK228.out 2).trans rfl
          have hcz90_3 : w80.cell? ⟨gb228, 3, none⟩ = some (.int .i64 0) := (blk_cell BK228.out 3).trans rfl
          have hcz90_4 : w80.cell? ⟨gb228, 4, none⟩ = some (.int .i64 0) := (blk_cell BK228.out 4).trans rfl
          have hcz90_5 : w80.cell? ⟨gb228, 5, none⟩ = some (.int .i64 0) := (blk_cell BK228.out 5).trans rfl
          have hcz90_6 : w80.cell? ⟨gb228, 6, none⟩ = some (.int .i64 0) := (blk_cell BK228.out 6).trans rfl
          have hfz90_0 := blk_frozen BK228.out 0
          have hfz90_1 := blk_frozen BK228.out 1
          have hfz90_2 := blk_frozen BK228.out 2
          have hfz90_3 := blk_frozen BK228.out 3
          have hfz90_4 := blk_frozen BK228.out 4
          have hfz90_5 := blk_frozen BK228.out 5
          have hfz90_6 := blk_frozen BK228.out 6
          try go_wp2_with (first | ((with_reducible refine gate_builtin (b := .append) (xs := #[.tmp 70, .tmp 72]) rfl ?_); at_builtin; refine Kd.R_append k39 (w0 := w) w.heap.size rfl (.tmp 70) (.tmp 72) 26 39 (.agg #[(.int .i64 0), (.int .i64 0), (.int .i64 0), (.int .i64 0), (.int .i64 0), (.int .i64 0), (.int .i64 0)]) 56 rfl Try.underlying26 info39 rfl (by decide) (by omega) u7 x7_1 (⟨(⟨(rd_T35 l0 x22_1).f1.f0, (rd_T35 l0 x22_1).f1.f1, (rd_T35 l0 x22_1).f1.f2⟩ : S33), (⟨t224, t225, t226, t227⟩ : S37)⟩ : S39) [.int .i64 ((rd_T35 l0 x22_1).f1.f0), .int .i64 ((rd_T35 l0 x22_1).f1.f1), .int .i64 ((rd_T35 l0 x22_1).f1.f2), .int .i64 t224, .int .i64 t225, .int .i64 t226, .int .i64 t227] (fun k_ => k_ ≠ gb228) (fun _ => False) rfl (by first | (go_simp; done) | (go_simp; rfl)) ?aP (fun _ hk => hk.elim) ?aF ?aO ?aB ?aS ?aL ?_; (case aP => exact k39_mkM _ _ _ (⟨(⟨(rd_T35 l0 x22_1).f1.f0, (rd_T35 l0 x22_1).f1.f1, (rd_T35 l0 x22_1).f1.f2⟩ : S33), (⟨t224, t225, t226, t227⟩ : S37)⟩ : S39)); (case aB => exact (by repeat (first | (with_reducible first | exact HB.out | apply below_alloc | apply pw_below_drewN | apply below_drew1 | refine below_set ?_ GE222.out | refine below_set ?_ GE228.out) | exact HB.out))); (case aF => exact (fun k_ hk => Kd.freshB (g := gb228) (o := .cells #[.int .i64 ((rd_T35 l0 x22_1).f1.f0), .int .i64 ((rd_T35 l0 x22_1).f1.f1), .int .i64 ((rd_T35 l0 x22_1).f1.f2), .int .i64 t224, .int .i64 t225, .int .i64 t226, .int .i64 t227] 39 (0, 0)) (by (with_reducible repeat (first | refine blk_drewN ?_ _ | refine blk_drew ?_ | refine blk_alloc ?_ _)); refine blk_put (cs := #[.int .i64 ((rd_T35 l0 x22_1).f1.f0), .int .i64 ((rd_T35 l0 x22_1).f1.f1), .int .i64 ((rd_T35 l0 x22_1).f1.f2), .int .i64 t224, .int .i64 t225, .int .i64 t226, .int .i64 0]) ?_ 6 _ rfl; refine blk_put (cs := #[.int .i64 ((rd_T35 l0 x22_1).f1.f0), .int .i64 ((rd_T35 l0 x22_1).f1.f1), .int .i64 ((rd_T35 l0 x22_1).f1.f2), .int .i64 t224, .int .i64 t225, .int .i64 0, .int .i64 0]) ?_ 5 _ rfl; refine blk_put (cs := #[.int .i64 ((rd_T35 l0 x22_1).f1.f0), .int .i64 ((rd_T35 l0 x22_1).f1.f1), .int .i64 ((rd_T35 l0 x22_1).f1.f2), .int .i64 t224, .int .i64 0, .int .i64 0, .int .i64 0]) ?_ 4 _ rfl; refine blk_put (cs := #[.int .i64 ((rd_T35 l0 x22_1).f1.f0), .int .i64 ((rd_T35 l0 x22_1).f1.f1), .int .i64 ((rd_T35 l0 x22_1).f1.f2), .int .i64 0, .int .i64 0, .int .i64 0, .int .i64 0]) ?_ 3 _ rfl; refine blk_put (cs := #[.int .i64 ((rd_T35 l0 x22_1).f1.f0), .int .i64 ((rd_T35 l0 x22_1).f1.f1), .int .i64 0, .int .i64 0, .int .i64 0, .int .i64 0, .int .i64 0]) ?_ 2 _ rfl; refine blk_put (cs := #[.int .i64 ((rd_T35 l0 x22_1).f1.f0), .int .i64 0, .int .i64 0, .int .i64 0, .int .i64 0, .int .i64 0, .int .i64 0]) ?_ 1 _ rfl; refine blk_put (cs := #[.int .i64 0, .int .i64 0, .int .i64 0, .int .i64 0, .int .i64 0, .int .i64 0, .int .i64 0]) ?_ 0 _ rfl; exact BK228.out) k_ hk)); (case aO => exact (by (with_reducible repeat (first | apply Kd.R_alloc | apply Kd.R_drewN | apply Kd.R_drew)); exact Kd.R_mono (Kd.R_far (p := ⟨gb228, 6, none⟩) (Kd.R_far (p := ⟨gb228, 5, none⟩) (Kd.R_far (p := ⟨gb228, 4, none⟩) (Kd.R_far (p := ⟨gb228, 3, none⟩) (Kd.R_far (p := ⟨gb228, 2, none⟩) (Kd.R_far (p := ⟨gb228, 1, none⟩) (Kd.R_far (p := ⟨gb228, 0, none⟩) (Kd.R_mono HO_7.out (fun k_ hk => (⟨hk, hk⟩ : _ ∧ k_ ≠ gb228))) (fun _ hk => hk.2) (.int .i64 ((rd_T35 l0 x22_1).f1.f0))) (fun _ hk => hk.2) (.int .i64 ((rd_T35 l0 x22_1).f1.f1))) (fun _ hk => hk.2) (.int .i64 ((rd_T35 l0 x22_1).f1.f2))) (fun _ hk => hk.2) (.int .i64 t224)) (fun _ hk => hk.2) (.int .i64 t225)) (fun _ hk => hk.2) (.int .i64 t226)) (fun _ hk => hk.2) (.int .i64 t227)) (fun _ hk => hk.1))); (case aS => exact (below_size (by repeat (first | (with_reducible first | exact HB.out | apply below_alloc | apply pw_below_drewN | apply below_drew1 | refine below_set ?_ GE222.out | refine below_set ?_ GE228.out) | exact HB.out)))); (case aL => have := LMc73.out; omega); intro v250 w91 ho hb hg hat; rw [← Ny249.out] at ho; have n0_ := Aside0.mk (blk_grown (g := gb222) (o := .cells #[.int .i64 ((rd_T35 l0 x22_1).f0), .int .i64 ((rd_T35 l0 x22_1).f1.f0), .int .i64 ((rd_T35 l0 x22_1).f1.f1), .int .i64 ((rd_T35 l0 x22_1).f1.f2)] 35 (0, 0)) (by (with_reducible repeat (first | refine blk_drewN ?_ _ | refine blk_drew ?_ | refine blk_alloc ?_ _)); refine blk_far ?_ NB222_228.out _; refine blk_far ?_ NB222_228.out _; refine blk_far ?_ NB222_228.out _; refine blk_far ?_ NB222_228.out _; refine blk_far ?_ NB222_228.out _; refine blk_far ?_ NB222_228.out _; refine blk_far ?_ NB222_228.out _; exact BK222.out) hg (Kd.R_ne HO_7.out BK222.out (by decide))); have n1_ := Aside0.mk (blk_grown (g := gb228) (o := .cells #[.int .i64 ((rd_T35 l0 x22_1).f1.f0), .int .i64 ((rd_T35 l0 x22_1).f1.f1), .int .i64 ((rd_T35 l0 x22_1).f1.f2), .int .i64 t224, .int .i64 t225, .int .i64 t226, .int .i64 t227] 39 (0, 0)) (by (with_reducible repeat (first | refine blk_drewN ?_ _ | refine blk_drew ?_ | refine blk_alloc ?_ _)); refine blk_put (cs := #[.int .i64 ((rd_T35 l0 x22_1).f1.f0), .int .i64 ((rd_T35 l0 x22_1).f1.f1), .int .i64 ((rd_T35 l0 x22_1).f1.f2), .int .i64 t224, .int .i64 t225, .int .i64 t226, .int .i64 0]) ?_ 6 _ rfl; refine blk_put (cs := #[.int .i64 ((rd_T35 l0 x22_1).f1.f0), .int .i64 ((rd_T35 l0 x22_1).f1.f1), .int .i64 ((rd_T35 l0 x22_1).f1.f2), .int .i64 t224, .int .i64 t225, .int .i64 0, .int .i64 0]) ?_ 5 _ rfl; refine blk_put (cs := #[.int .i64 ((rd_T35 l0 x22_1).f1.f0), .int .i64 ((rd_T35 l0 x22_1).f1.f1), .int .i64 ((rd_T35 l0 x22_1).f1.f2), .int .i64 t224, .int .i64 0, .int .i64 0, .int .i64 0]) ?_ 4 _ rfl; refine blk_put (cs := #[.int .i64 ((rd_T35 l0 x22_1).f1.f0), .int .i64 ((rd_T35 l0 x22_1).f1.f1), .int .i64 ((rd_T35 l0 x22_1).f1.f2), .int .i64 0, .int .i64 0, .int .i64 0, .int .i64 0]) ?_ 3 _ rfl; refine blk_put (cs := #[.int .i64 ((rd_T35 l0 x22_1).f1.f0), .int .i64 ((rd_T35 l0 x22_1).f1.f1), .int .i64 0, .int .i64 0, .int .i64 0, .int .i64 0, .int .i64 0]) ?_ 2 _ rfl; refine blk_put (cs := #[.int .i64 ((rd_T35 l0 x22_1).f1.f0), .int .i64 0, .int .i64 0, .int .i64 0, .int .i64 0, .int .i64 0, .int .i64 0]) ?_ 1 _ rfl; refine blk_put (cs := #[.int .i64 0, .int .i64 0, .int .i64 0, .int .i64 0, .int .i64 0, .int .i64 0, .int .i64 0]) ?_ 0 _ rfl; exact BK228.out) hg (Kd.R_away HO_7.out (fun _ hk => hk))); have n2_ := Aside0.mk (hb); have n3_ := Aside0.mk (ho); clear BK222; clear BK228; clear HB; clear HO_7; have BK222 := n0_; have BK228 := n1_; have HB := n2_; have HO251 := n3_; clear n0_ n1_ n2_ n3_; clear ho hb hg hat))
          go_roundg k1
          case measure => have := HK1.out; omega
          case rel => exact ⟨(y249), (wrap64 (x22_1 + 1)), (by first | rfl | (simp; done) | (simp [*]; done) | (simp; decide +kernel)), H', ⟨by have := HK1.out; omega⟩, ⟨by (with_reducible repeat (first | apply Kd.R_alloc | apply Kd.R_drewN | apply Kd.R_drew)); exact Kd.R_mono HO251.out (fun _ hk => trivial)⟩, ⟨by repeat (first | (with_reducible first | exact HB.out | apply below_alloc | apply pw_below_drewN | apply below_drew1 | refine below_set ?_ GE222.out | refine below_set ?_ GE228.out) | exact HB.out)⟩⟩
         ·rw [if_neg c73] at H
          exact absurd H (by simp)
       ·rw [if_neg c9] at H
        exact absurd H (by simp)
      ·rw [if_neg c8] at H
       exact absurd H (by simp)
     ·rw [if_neg c7] at H
      exact absurd H (by simp)
    ·rw [if_neg c6] at H
     have c6b0 : decide (x22_1 < (l0.length : Int)) = false := decide_eq_false c6
     clear c6
     simp only [Option.some.injEq, Prod.mk.injEq] at H
     obtain ⟨rfl, rfl⟩ := H
     go_wp2
     go_ret2
     exact ⟨_, by first | rfl | (simp [errW_none, errW_some] <;> rfl) | (simp [*, errW_none, errW_some] <;> rfl), by (with_reducible repeat (first | apply Kd.R_alloc | apply Kd.R_drewN | apply Kd.R_drew)); exact HO_7.out, by repeat (first | (with_reducible first | exact HB.out | apply below_alloc | apply pw_below_drewN | apply below_drew1) | exact HB.out)⟩
 ·rw [if_neg c4] at H
  have c4b0 : (t220 == 0) = false := beq_eq_false_iff_ne.mpr c4
  have c4b1 : (t220 != 0) = true := bne_iff_ne.mpr c4
  simp only [Option.some.injEq, Prod.mk.injEq] at H
  obtain ⟨rfl, rfl⟩ := H
  go_enter Try.func10, Try.ntmps10
  go_wp2_with (first | ((with_reducible refine gate_callee (f := 27) rfl ?_); refine goesL_ (some 16) rfl rfl Try.func27 (by kernel_rfl) rfl #[.slice A0 l0.length c0, .slice A1 l1.length c1] rfl (by (try simp only [zm1, zm2, zm3]); first | done | rfl) ?_; (with_reducible refine (bones_fitting.calls k _ _ l0 _ _ l1 t220 _ ?side1 ?side2 ?side3 ?side4 A3.out).mono ?_); (case side1 => repeat (first | exact HR0.out | (with_reducible refine Kd.C_alloc ?_ _) | (with_reducible refine Kd.C_drewN ?_ _) | (with_reducible refine Kd.C_drew ?_))); (case side2 => exact HC0.out); (case side3 => repeat (first | exact HR1.out | (with_reducible refine Kd.C_alloc ?_ _) | (with_reducible refine Kd.C_drewN ?_ _) | (with_reducible refine Kd.C_drew ?_))); (case side4 => exact HC1.out); rintro e w92 ⟨rfl, hb⟩; refine ⟨_, rfl, ?_⟩; have n0_ := Aside0.mk (below_step (by repeat (first | (with_reducible first | exact HB.out | apply below_alloc | apply pw_below_drewN | apply below_drew1) | exact HB.out)) hb); clear HB; have HB := n0_; clear n0_; (try clear hb); (try clear hb2); (try clear hk); (try clear hi)))
  go_ret2
  exact ⟨_, by first | rfl | (simp [errW_none, errW_some] <;> rfl) | (simp [*, errW_none, errW_some] <;> rfl), by first | exact Kd.R_nil _ _ _ _ _ | exact Kd.N_nil _ _ _ _ _ | exact Kd.V_nil _ _ _ _ _ | exact Kd.Q_nil _ _ _ _ _ | exact Kd.S_nil _ _ _ _ _, by repeat (first | (with_reducible first | exact HB.out | apply below_alloc | apply pw_below_drewN | apply below_drew1) | exact HB.out)⟩

end Go.Proofs.Ytfallkiaojefnaa.PBonesLong
