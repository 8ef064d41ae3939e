-- Printed by a program: the print with changes of this session (wip/printpatch.py).
import Derived.Test.YtdopeneehminaaaPSteerTherex0
import Derived.Test.YtdopeneehminaaaPSteerTherex3
import Derived.Test.YtdopeneehminaaaPSteerTherex5
import Derived.Test.YtdopeneehminaaaPSteerTherex6
import Derived.Test.YtdopeneehminaaaPSteerTherex7
namespace Go.Proofs.Ytdopeneehminaaa.PSteerThere
open Go.Proofs.Ytdopeneehminaaa.Fnv Go.Proofs.Ytdopeneehminaaa.Ary Go.Proofs.Ytdopeneehminaaa.Ext
open Go.RowKit Go.Proofs.YtdopeneehminaaaW.PrintWords Go.Proofs.YtdopeneehminaaaW.PrintLast Go.Proofs.YtdopeneehminaaaW.PrintMore
attribute [local go_sem] max2_int min2_int max_two min_two max_three min_three max_four min_four   -- for this text's walks alone
set_option linter.unusedVariables false
set_option linter.unusedSimpArgs false

/-! ### steer_Apart: function 11 -/
mutual
def steer_Apart.l0 : Nat → List (S29) → Int → List (S29) → Int → Int → Option ((List (S29)) × Int)
 | 0, _, _, _, _, _ => none
 | k + 1, x0, x1, x20, x21, x22 => if x22 < x21 then (if 0 ≤ x22 then (if x22 < (x20.length : Int) then ((steer_Check.f k ((rd_T29 x20 x22).f0.f0) ((rd_T29 x20 x22).f0.f1) ((rd_T29 x20 x22).f1.f0) ((rd_T29 x20 x22).f1.f1) ((rd_T29 x20 x22).f2) ((rd_T29 x20 x22).f3)).bind fun t192 => (if t192 = 0 then (steer_Apart.l0 k x0 x1 x20 x21 (wrap64 (x22 + 1))) else (some (([] : List (S29)), t192)))) else (none)) else (none)) else (if x1 < 0 then (steer_Apart.j1 k x0 x1 true) else (steer_Apart.j1 k x0 x1 (decide (x1 > 1099511627776))))
def steer_Apart.j1 : Nat → List (S29) → Int → Bool → Option ((List (S29)) × Int)
 | 0, _, _, _ => none
 | k + 1, x0, x1, x37 => if x37 = true then (some (([] : List (S29)), 1)) else (steer_Apart.l1 k x0 x1 ([] : List (S29)) x0 (x0.length : Int) 0)
def steer_Apart.l1 : Nat → List (S29) → Int → List (S29) → List (S29) → Int → Int → Option ((List (S29)) × Int)
 | 0, _, _, _, _, _, _ => none
 | k + 1, x0, x1, x9, x38, x39, x40 => if x40 < x39 then (if 0 ≤ x40 then (if x40 < (x38.length : Int) then (steer_Apart.l2 k x0 x1 x9 x40 x38 x39 x40 x0 (x0.length : Int) 0 ((rd_T29 x38 x40).f0.f0) ((rd_T29 x38 x40).f0.f1) ((rd_T29 x38 x40).f1.f0) ((rd_T29 x38 x40).f1.f1) ((rd_T29 x38 x40).f2) ((rd_T29 x38 x40).f3) ((rd_T29 x38 x40).f1.f0) ((rd_T29 x38 x40).f1.f1)) else (none)) else (none)) else (some (x9, 0))
def steer_Apart.l2 : Nat → List (S29) → Int → List (S29) → Int → List (S29) → Int → Int → List (S29) → Int → Int → Int → Int → Int → Int → Int → Int → Int → Int → Option ((List (S29)) × Int)
 | 0, _, _, _, _, _, _, _, _, _, _, _, _, _, _, _, _, _, _ => none
 | k + 1, x0, x1, x9, x10, x38, x39, x40, x47, x48, x49, x195000, x195001, x195002, x195003, x195004, x195005, x196000, x196001 => if x49 < x48 then (if 0 ≤ x49 then (if x49 < (x47.length : Int) then ((vec_Sub.f x195000 x195001 ((rd_T29 x47 x49).f0.f0) ((rd_T29 x47 x49).f0.f1)).bind fun bt207 => ((vec_Len.f k bt207.1 bt207.2).bind fun t210 => (if x49 = x10 then (steer_Apart.j4 k x0 x1 x9 x10 t210 x38 x39 x40 x47 x48 x49 false x195000 x195001 x195002 x195003 x195004 x195005 x196000 x196001 bt207.1 bt207.2) else (if t210 > 0 then (steer_Apart.j4 k x0 x1 x9 x10 t210 x38 x39 x40 x47 x48 x49 (decide (t210 < x1)) x195000 x195001 x195002 x195003 x195004 x195005 x196000 x196001 bt207.1 bt207.2) else (steer_Apart.j4 k x0 x1 x9 x10 t210 x38 x39 x40 x47 x48 x49 false x195000 x195001 x195002 x195003 x195004 x195005 x196000 x196001 bt207.1 bt207.2))))) else (none)) else (none)) else ((steer_toward.f k x195000 x195001 x195002 x195003 x195004 x195005 x196000 x196001).bind fun bt196 => (if x9.length < 2932031007402 then (steer_Apart.l1 k x0 x1 (x9 ++ [(⟨(⟨bt196.1, bt196.2.1⟩ : S27), (⟨bt196.2.2.1, bt196.2.2.2.1⟩ : S27), bt196.2.2.2.2.1, bt196.2.2.2.2.2⟩ : S29)]) x38 x39 (wrap64 (x40 + 1))) else (none)))
def steer_Apart.j4 : Nat → List (S29) → Int → List (S29) → Int → Int → List (S29) → Int → Int → List (S29) → Int → Int → Bool → Int → Int → Int → Int → Int → Int → Int → Int → Int → Int → Option ((List (S29)) × Int)
 | 0, _, _, _, _, _, _, _, _, _, _, _, _, _, _, _, _, _, _, _, _, _, _ => none
 | k + 1, x0, x1, x9, x10, x16, x38, x39, x40, x47, x48, x49, x72, x195000, x195001, x195002, x195003, x195004, x195005, x196000, x196001, x210000, x210001 => if x72 = true then ((vec_Unit.f k x210000 x210001).bind fun bt211 => ((fix_MulDiv.f k x195004 (wrap64 (x1 - x16)) x1).bind fun t213 => ((vec_Scale.f k bt211.1 bt211.2 t213).bind fun bt214 => ((vec_Add.f x196000 x196001 bt214.1 bt214.2).bind fun bt216 => (steer_Apart.l2 k x0 x1 x9 x10 x38 x39 x40 x47 x48 (wrap64 (x49 + 1)) x195000 x195001 x195002 x195003 x195004 x195005 bt216.1 bt216.2))))) else (steer_Apart.l2 k x0 x1 x9 x10 x38 x39 x40 x47 x48 (wrap64 (x49 + 1)) x195000 x195001 x195002 x195003 x195004 x195005 x196000 x196001)
end
def steer_Apart.f (k : Nat) (l0 : List (S29)) (a1 : Int) : Option ((List (S29)) × Int) := if (l0.length : Int) > 64 then (some (([] : List (S29)), 2)) else (steer_Apart.l0 k l0 a1 l0 (l0.length : Int) 0)
theorem steer_Apart.mono_l : ∀ k, (∀ y0 y1 y2 y3 y4, LeO (steer_Apart.l0 k y0 y1 y2 y3 y4) (steer_Apart.l0 (k + 1) y0 y1 y2 y3 y4)) ∧ (∀ y0 y1 y2, LeO (steer_Apart.j1 k y0 y1 y2) (steer_Apart.j1 (k + 1) y0 y1 y2)) ∧ (∀ y0 y1 y2 y3 y4 y5, LeO (steer_Apart.l1 k y0 y1 y2 y3 y4 y5) (steer_Apart.l1 (k + 1) y0 y1 y2 y3 y4 y5)) ∧ (∀ y0 y1 y2 y3 y4 y5 y6 y7 y8 y9 y10 y11 y12 y13 y14 y15 y16 y17, LeO (steer_Apart.l2 k y0 y1 y2 y3 y4 y5 y6 y7 y8 y9 y10 y11 y12 y13 y14 y15 y16 y17) (steer_Apart.l2 (k + 1) y0 y1 y2 y3 y4 y5 y6 y7 y8 y9 y10 y11 y12 y13 y14 y15 y16 y17)) ∧ (∀ y0 y1 y2 y3 y4 y5 y6 y7 y8 y9 y10 y11 y12 y13 y14 y15 y16 y17 y18 y19 y20 y21, LeO (steer_Apart.j4 k y0 y1 y2 y3 y4 y5 y6 y7 y8 y9 y10 y11 y12 y13 y14 y15 y16 y17 y18 y19 y20 y21) (steer_Apart.j4 (k + 1) y0 y1 y2 y3 y4 y5 y6 y7 y8 y9 y10 y11 y12 y13 y14 y15 y16 y17 y18 y19 y20 y21))
 | 0 => ⟨fun _ _ _ _ _ r h => by simp [steer_Apart.l0] at h, fun _ _ _ r h => by simp [steer_Apart.j1] at h, fun _ _ _ _ _ _ r h => by simp [steer_Apart.l1] at h, fun _ _ _ _ _ _ _ _ _ _ _ _ _ _ _ _ _ _ r h => by simp [steer_Apart.l2] at h, fun _ _ _ _ _ _ _ _ _ _ _ _ _ _ _ _ _ _ _ _ _ _ r h => by simp [steer_Apart.j4] at h⟩
 | k + 1 => by
  obtain ⟨ih0, ih1, ih2, ih3, ih4⟩ := steer_Apart.mono_l k
  refine ⟨?_, ?_, ?_, ?_, ?_⟩
  ·intro y0 y1 y2 y3 y4
   unfold steer_Apart.l0
   repeat' first
   | (with_reducible exact ih0 _ _ _ _ _)
   | (with_reducible exact ih1 _ _ _)
   | (with_reducible exact ih2 _ _ _ _ _ _)
   | (with_reducible exact ih3 _ _ _ _ _ _ _ _ _ _ _ _ _ _ _ _ _ _)
   | (with_reducible exact ih4 _ _ _ _ _ _ _ _ _ _ _ _ _ _ _ _ _ _ _ _ _ _)
   | (with_reducible exact fix_MulDiv.mono _ _ _ _)
   | (with_reducible exact steer_Check.mono _ _ _ _ _ _ _)
   | (with_reducible exact steer_toward.mono _ _ _ _ _ _ _ _ _)
   | (with_reducible exact vec_Len.mono _ _ _)
   | (with_reducible exact vec_Scale.mono _ _ _ _)
   | (with_reducible exact vec_Unit.mono _ _ _)
   | (with_reducible exact LeO.refl _)
   | (with_reducible exact LeO.none _)
   | (with_reducible refine LeO.ite ?_ ?_)
   | (with_reducible refine LeO.bind ?_ (fun _ => ?_))
   | exact ih0 _ _ _ _ _
   | exact ih1 _ _ _
   | exact ih2 _ _ _ _ _ _
   | exact ih3 _ _ _ _ _ _ _ _ _ _ _ _ _ _ _ _ _ _
   | exact ih4 _ _ _ _ _ _ _ _ _ _ _ _ _ _ _ _ _ _ _ _ _ _
   | exact fix_MulDiv.mono _ _ _ _
   | exact steer_Check.mono _ _ _ _ _ _ _
   | exact steer_toward.mono _ _ _ _ _ _ _ _ _
   | exact vec_Len.mono _ _ _
   | exact vec_Scale.mono _ _ _ _
   | exact vec_Unit.mono _ _ _
   | exact LeO.none _
   | refine LeO.ite ?_ ?_
   | refine LeO.bind ?_ (fun _ => ?_)
  ·intro y0 y1 y2
   unfold steer_Apart.j1
   repeat' first
   | (with_reducible exact ih0 _ _ _ _ _)
   | (with_reducible exact ih1 _ _ _)
   | (with_reducible exact ih2 _ _ _ _ _ _)
   | (with_reducible exact ih3 _ _ _ _ _ _ _ _ _ _ _ _ _ _ _ _ _ _)
   | (with_reducible exact ih4 _ _ _ _ _ _ _ _ _ _ _ _ _ _ _ _ _ _ _ _ _ _)
   | (with_reducible exact fix_MulDiv.mono _ _ _ _)
   | (with_reducible exact steer_Check.mono _ _ _ _ _ _ _)
   | (with_reducible exact steer_toward.mono _ _ _ _ _ _ _ _ _)
   | (with_reducible exact vec_Len.mono _ _ _)
   | (with_reducible exact vec_Scale.mono _ _ _ _)
   | (with_reducible exact vec_Unit.mono _ _ _)
   | (with_reducible exact LeO.refl _)
   | (with_reducible exact LeO.none _)
   | (with_reducible refine LeO.ite ?_ ?_)
   | (with_reducible refine LeO.bind ?_ (fun _ => ?_))
   | exact ih0 _ _ _ _ _
   | exact ih1 _ _ _
   | exact ih2 _ _ _ _ _ _
   | exact ih3 _ _ _ _ _ _ _ _ _ _ _ _ _ _ _ _ _ _
   | exact ih4 _ _ _ _ _ _ _ _ _ _ _ _ _ _ _ _ _ _ _ _ _ _
   | exact fix_MulDiv.mono _ _ _ _
   | exact steer_Check.mono _ _ _ _ _ _ _
   | exact steer_toward.mono _ _ _ _ _ _ _ _ _
   | exact vec_Len.mono _ _ _
   | exact vec_Scale.mono _ _ _ _
   | exact vec_Unit.mono _ _ _
   | exact LeO.none _
   | refine LeO.ite ?_ ?_
   | refine LeO.bind ?_ (fun _ => ?_)
  ·intro y0 y1 y2 y3 y4 y5
   unfold steer_Apart.l1
   repeat' first
   | (with_reducible exact ih0 _ _ _ _ _)
   | (with_reducible exact ih1 _ _ _)
   | (with_reducible exact ih2 _ _ _ _ _ _)
   | (with_reducible exact ih3 _ _ _ _ _ _ _ _ _ _ _ _ _ _ _ _ _ _)
   | (with_reducible exact ih4 _ _ _ _ _ _ _ _ _ _ _ _ _ _ _ _ _ _ _ _ _ _)
   | (with_reducible exact fix_MulDiv.mono _ _ _ _)
   | (with_reducible exact steer_Check.mono _ _ _ _ _ _ _)
   | (with_reducible exact steer_toward.mono _ _ _ _ _ _ _ _ _)
   | (with_reducible exact vec_Len.mono _ _ _)
   | (with_reducible exact vec_Scale.mono _ _ _ _)
   | (with_reducible exact vec_Unit.mono _ _ _)
   | (with_reducible exact LeO.refl _)
   | (with_reducible exact LeO.none _)
   | (with_reducible refine LeO.ite ?_ ?_)
   | (with_reducible refine LeO.bind ?_ (fun _ => ?_))
   | exact ih0 _ _ _ _ _
   | exact ih1 _ _ _
   | exact ih2 _ _ _ _ _ _
   | exact ih3 _ _ _ _ _ _ _ _ _ _ _ _ _ _ _ _ _ _
   | exact ih4 _ _ _ _ _ _ _ _ _ _ _ _ _ _ _ _ _ _ _ _ _ _
   | exact fix_MulDiv.mono _ _ _ _
   | exact steer_Check.mono _ _ _ _ _ _ _
   | exact steer_toward.mono _ _ _ _ _ _ _ _ _
   | exact vec_Len.mono _ _ _
   | exact vec_Scale.mono _ _ _ _
   | exact vec_Unit.mono _ _ _
   | exact LeO.none _
   | refine LeO.ite ?_ ?_
   | refine LeO.bind ?_ (fun _ => ?_)
  ·intro y0 y1 y2 y3 y4 y5 y6 y7 y8 y9 y10 y11 y12 y13 y14 y15 y16 y17
   unfold steer_Apart.l2
   repeat' first
   | (with_reducible exact ih0 _ _ _ _ _)
   | (with_reducible exact ih1 _ _ _)
   | (with_reducible exact ih2 _ _ _ _ _ _)
   | (with_reducible exact ih3 _ _ _ _ _ _ _ _ _ _ _ _ _ _ _ _ _ _)
   | (with_reducible exact ih4 _ _ _ _ _ _ _ _ _ _ _ _ _ _ _ _ _ _ _ _ _ _)
   | (with_reducible exact fix_MulDiv.mono _ _ _ _)
   | (with_reducible exact steer_Check.mono _ _ _ _ _ _ _)
   | (with_reducible exact steer_toward.mono _ _ _ _ _ _ _ _ _)
   | (with_reducible exact vec_Len.mono _ _ _)
   | (with_reducible exact vec_Scale.mono _ _ _ _)
   | (with_reducible exact vec_Unit.mono _ _ _)
   | (with_reducible exact LeO.refl _)
   | (with_reducible exact LeO.none _)
   | (with_reducible refine LeO.ite ?_ ?_)
   | (with_reducible refine LeO.bind ?_ (fun _ => ?_))
   | exact ih0 _ _ _ _ _
   | exact ih1 _ _ _
   | exact ih2 _ _ _ _ _ _
   | exact ih3 _ _ _ _ _ _ _ _ _ _ _ _ _ _ _ _ _ _
   | exact ih4 _ _ _ _ _ _ _ _ _ _ _ _ _ _ _ _ _ _ _ _ _ _
   | exact fix_MulDiv.mono _ _ _ _
   | exact steer_Check.mono _ _ _ _ _ _ _
   | exact steer_toward.mono _ _ _ _ _ _ _ _ _
   | exact vec_Len.mono _ _ _
   | exact vec_Scale.mono _ _ _ _
   | exact vec_Unit.mono _ _ _
   | exact LeO.none _
   | refine LeO.ite ?_ ?_
   | refine LeO.bind ?_ (fun _ => ?_)
  ·intro y0 y1 y2 y3 y4 y5 y6 y7 y8 y9 y10 y11 y12 y13 y14 y15 y16 y17 y18 y19 y20 y21
   unfold steer_Apart.j4
   repeat' first
   | (with_reducible exact ih0 _ _ _ _ _)
   | (with_reducible exact ih1 _ _ _)
   | (with_reducible exact ih2 _ _ _ _ _ _)
   | (with_reducible exact ih3 _ _ _ _ _ _ _ _ _ _ _ _ _ _ _ _ _ _)
   | (with_reducible exact ih4 _ _ _ _ _ _ _ _ _ _ _ _ _ _ _ _ _ _ _ _ _ _)
   | (with_reducible exact fix_MulDiv.mono _ _ _ _)
   | (with_reducible exact steer_Check.mono _ _ _ _ _ _ _)
   | (with_reducible exact steer_toward.mono _ _ _ _ _ _ _ _ _)
   | (with_reducible exact vec_Len.mono _ _ _)
   | (with_reducible exact vec_Scale.mono _ _ _ _)
   | (with_reducible exact vec_Unit.mono _ _ _)
   | (with_reducible exact LeO.refl _)
   | (with_reducible exact LeO.none _)
   | (with_reducible refine LeO.ite ?_ ?_)
   | (with_reducible refine LeO.bind ?_ (fun _ => ?_))
   | exact ih0 _ _ _ _ _
   | exact ih1 _ _ _
   | exact ih2 _ _ _ _ _ _
   | exact ih3 _ _ _ _ _ _ _ _ _ _ _ _ _ _ _ _ _ _
   | exact ih4 _ _ _ _ _ _ _ _ _ _ _ _ _ _ _ _ _ _ _ _ _ _
   | exact fix_MulDiv.mono _ _ _ _
   | exact steer_Check.mono _ _ _ _ _ _ _
   | exact steer_toward.mono _ _ _ _ _ _ _ _ _
   | exact vec_Len.mono _ _ _
   | exact vec_Scale.mono _ _ _ _
   | exact vec_Unit.mono _ _ _
   | exact LeO.none _
   | refine LeO.ite ?_ ?_
   | refine LeO.bind ?_ (fun _ => ?_)
theorem steer_Apart.mono : ∀ a0 a1 k, LeO (steer_Apart.f k a0 a1) (steer_Apart.f (k + 1) a0 a1) := by
 intro a0 a1 k
 obtain ⟨ih0, ih1, ih2, ih3, ih4⟩ := steer_Apart.mono_l k
 unfold steer_Apart.f
 repeat' first
   | (with_reducible exact ih0 _ _ _ _ _)
   | (with_reducible exact ih1 _ _ _)
   | (with_reducible exact ih2 _ _ _ _ _ _)
   | (with_reducible exact ih3 _ _ _ _ _ _ _ _ _ _ _ _ _ _ _ _ _ _)
   | (with_reducible exact ih4 _ _ _ _ _ _ _ _ _ _ _ _ _ _ _ _ _ _ _ _ _ _)
   | (with_reducible exact fix_MulDiv.mono _ _ _ _)
   | (with_reducible exact steer_Check.mono _ _ _ _ _ _ _)
   | (with_reducible exact steer_toward.mono _ _ _ _ _ _ _ _ _)
   | (with_reducible exact vec_Len.mono _ _ _)
   | (with_reducible exact vec_Scale.mono _ _ _ _)
   | (with_reducible exact vec_Unit.mono _ _ _)
   | (with_reducible exact LeO.refl _)
   | (with_reducible exact LeO.none _)
   | (with_reducible refine LeO.ite ?_ ?_)
   | (with_reducible refine LeO.bind ?_ (fun _ => ?_))
   | exact ih0 _ _ _ _ _
   | exact ih1 _ _ _
   | exact ih2 _ _ _ _ _ _
   | exact ih3 _ _ _ _ _ _ _ _ _ _ _ _ _ _ _ _ _ _
   | exact ih4 _ _ _ _ _ _ _ _ _ _ _ _ _ _ _ _ _ _ _ _ _ _
   | exact fix_MulDiv.mono _ _ _ _
   | exact steer_Check.mono _ _ _ _ _ _ _
   | exact steer_toward.mono _ _ _ _ _ _ _ _ _
   | exact vec_Len.mono _ _ _
   | exact vec_Scale.mono _ _ _ _
   | exact vec_Unit.mono _ _ _
   | exact LeO.none _
   | refine LeO.ite ?_ ?_
   | refine LeO.bind ?_ (fun _ => ?_)
def steer_Apart.T23 : Bool × List (List Nat × List Nat) := (true, [([], []), ([], []), ([1], [1]), ([], []), ([3], [3]), ([], []), ([], []), ([5, 6], [5, 6]), ([], []), ([4, 7, 8, 2], [4, 7, 8]), ([2, 9, 9], [2, 9]), ([0, 10, 10], [0, 10]), ([11, 11, 0, 1, 2, 3, 4, 5, 6, 7, 8, 9, 10, 11], [11])])
def steer_Apart.B23 : List Nat := [0, 0, 2, 0, 8, 0, 0, 96, 0, 510, 1022, 2047, 4095]
theorem steer_Apart.tab23 : rtab .any (opsOf Try.f11 23) = steer_Apart.T23 := by kernel_rfl
theorem steer_Apart.bits23 : waitsOk steer_Apart.T23.2 steer_Apart.B23 = true := by kernel_rfl
set_option maxHeartbeats 8000000 in
set_option maxRecDepth 100000 in
theorem steer_Apart.calls (k : Nat) (A0 : Option Addr) (c0 : Nat) (l0 : List (S29)) (a1 : Int) (r1 : List (S29)) (r2 : Int) (w : World) (hr0 : Kd.C k29 w A0 l0.length l0) (hc0 : l0.length ≤ c0) (h : steer_Apart.f k l0 a1 = some (r1, r2)) :
  Calls Try.prog 11 #[.slice A0 l0.length c0, .int .i64 a1] w fun e w' => ∃ v0_ : Value, e = .returned (.tuple #[v0_, .int .i64 r2]) ∧ Kd.R k29 29 w' w.heap.size (fun _ => True) v0_ r1 ∧ Below w.heap.size w w' := by
 have hu29 := Try.underlying29
 have hu27 := Try.underlying27
 have HR0 := Aside0.mk hr0
 have HC0 := Aside0.mk hc0
 clear hr0 hc0
 have HB := Aside0.mk (Below.refl w.heap.size w)
 have H : (if (l0.length : Int) > 64 then (some (([] : List (S29)), 2)) else (steer_Apart.l0 k l0 a1 l0 (l0.length : Int) 0)) = some (r1, r2) := h
 clear h
 by_cases c3 : (l0.length : Int) > 64
 ·rw [if_pos c3] at H
  have c3b0 : decide (64 < (l0.length : Int)) = true := decide_eq_true c3
  have c3b1 : decide (64 < l0.length) = true := decide_eq_true (by omega)
  clear c3
  simp only [Option.some.injEq, Prod.mk.injEq] at H
  obtain ⟨rfl, rfl⟩ := H
  go_enter Try.func11, Try.ntmps11
  go_wp2
  go_ret2
  exact ⟨_, by first | rfl | (simp [errW_none, errW_some] <;> rfl) | (simp [*, errW_none, errW_some] <;> rfl), by first | exact Kd.R_nil _ _ _ _ _ | exact Kd.N_nil _ _ _ _ _ | exact Kd.V_nil _ _ _ _ _ | exact Kd.Q_nil _ _ _ _ _ | exact Kd.S_nil _ _ _ _ _, by repeat (first | (with_reducible first | exact HB.out | apply below_alloc | apply pw_below_drewN | apply below_drew1) | exact HB.out)⟩
 ·rw [if_neg c3] at H
  have c3b0 : decide (64 < (l0.length : Int)) = false := decide_eq_false c3
  have c3b1 : decide (64 < l0.length) = false := decide_eq_false (by omega)
  clear c3
  have H' := Aside0.mk H
  clear H
  go_enter Try.func11, Try.ntmps11
  go_wp2
  go_loopg [22] k (fun kq v22 w' => ∃ (x22_1 : Int), v22 = .int .i64 x22_1 ∧ Aside0 (steer_Apart.l0 kq l0 a1 l0 (l0.length : Int) x22_1 = some (r1, r2)) ∧ Aside0 (kq ≤ k) ∧ Aside0 (Below w.heap.size w w'))
  case atStart => exact ⟨(0), (by first | rfl | (simp; done) | (simp [*]; done)), H', ⟨Nat.le_refl _⟩, ⟨by repeat (first | (with_reducible first | exact HB.out | apply below_alloc | apply pw_below_drewN | apply below_drew1) | exact HB.out)⟩⟩
  case round =>
   clear H'
   try clear c1
   try clear p2
   try clear c3
   try clear c3b0
   try clear c3b1
   obtain ⟨x22_1, rfl, HA, HK1, HB⟩ := hrel
   cases gk with
   | zero => exact absurd HA.out (by simp [steer_Apart.l0])
   | succ k1 =>
    have H := HA.out
    clear HA
    simp only [steer_Apart.l0] at H
    by_cases c4 : x22_1 < (l0.length : Int)
    ·rw [if_pos c4] at H
     have c4b0 : decide (x22_1 < (l0.length : Int)) = true := decide_eq_true c4
     clear c4
     by_cases c5 : 0 ≤ x22_1
     ·rw [if_pos c5] at H
      have c5b0 : decide (0 ≤ x22_1) = true := decide_eq_true c5
      clear c5
      by_cases c6 : x22_1 < (l0.length : Int)
      ·rw [if_pos c6] at H
       have c6b0 : decide (x22_1 < (l0.length : Int)) = true := decide_eq_true c6
       clear c6
       replace H := Option.bind_eq_some_iff.mp H
       obtain ⟨t192, A70, H⟩ := H
       replace H : (if t192 = 0 then (steer_Apart.l0 k1 l0 a1 l0 (l0.length : Int) (wrap64 (x22_1 + 1))) else (some (([] : List (S29)), t192))) = some (r1, r2) := H
       have A7 := Aside0.mk A70
       clear A70
       by_cases c8 : t192 = 0
       ·rw [if_pos c8] at H
        have c8b0 : (t192 == 0) = true := beq_iff_eq.mpr c8
        have c8b1 : (t192 != 0) = false := bne_eq_false_iff_eq.mpr c8
        clear c8
        have H' := Aside0.mk H
        clear H
        have p190 : 0 ≤ (x22_1 : Int) := of_decide_eq_true (by first | (with_reducible assumption) | assumption)
        have q190 : x22_1 < (l0.length : Int) := of_decide_eq_true (by first | (with_reducible assumption) | assumption)
        obtain ⟨ad190, e190, hx190_0, hx190_1, hx190_2, hx190_3, hx190_4, hx190_5⟩ := at_T29 HR0.out x22_1 p190 q190
        cases e190
        replace hx190_0 := (HB.out.cell (World.block_lt_of_cell? w _ hx190_0)).trans hx190_0
        replace hx190_1 := (HB.out.cell (World.block_lt_of_cell? w _ hx190_1)).trans hx190_1
        replace hx190_2 := (HB.out.cell (World.block_lt_of_cell? w _ hx190_2)).trans hx190_2
        replace hx190_3 := (HB.out.cell (World.block_lt_of_cell? w _ hx190_3)).trans hx190_3
        replace hx190_4 := (HB.out.cell (World.block_lt_of_cell? w _ hx190_4)).trans hx190_4
        replace hx190_5 := (HB.out.cell (World.block_lt_of_cell? w _ hx190_5)).trans hx190_5
        replace p190 := eq_true p190
        replace q190 := eq_true q190
        go_wp2_with (first | ((with_reducible refine gate_dst (N := 7) rfl ?_); refine box_event ?hg (N := 7) ?hd (cs := #[.int .i64 0, .int .i64 0, .int .i64 0, .int .i64 0, .int .i64 0, .int .i64 0]) (t := 29) ?hr ?_; (case hd => rfl); (case hg => rfl); (case hr => first | (go_simp; done) | (go_simp; rfl)); intro gb191 hg w9 hbox hb; have n0_ := Aside0.mk (below_step (by repeat (first | (with_reducible first | exact HB.out | apply below_alloc | apply pw_below_drewN | apply below_drew1) | exact HB.out)) hb); have n1_ := Aside0.mk (hbox); have n2_ := Aside0.mk ((by rw [hg]; exact (below_size (by repeat (first | (with_reducible first | exact HB.out | apply below_alloc | apply pw_below_drewN | apply below_drew1) | exact HB.out))) : w.heap.size ≤ gb191)); have n3_ := Aside0.mk ((by rw [hg]; exact (below_size (by repeat (first | (with_reducible first | exact HB.out | apply below_alloc | apply pw_below_drewN | apply below_drew1) | exact HB.out))) : w.heap.size ≤ gb191)); clear HB; have HB := n0_; have BK191 := n1_; have GW191 := n2_; have GE191 := n3_; clear n0_ n1_ n2_ n3_; clear hb hbox hg; have hcz10_0 : w9.cell? ⟨gb191, 0, none⟩ = some (.int .i64 0) := (blk_cell BK191.out 0).trans rfl; have hcz10_1 : w9.cell? ⟨gb191, 1, none⟩ = some (.int .i64 0) := (blk_cell BK191.out 1).trans rfl; have hcz10_2 : w9.cell? ⟨gb191, 2, none⟩ = some (.int .i64 0) := (blk_cell BK191.out 2).trans rfl; have hcz10_3 : w9.cell? ⟨gb191, 3, none⟩ = some (.int .i64 0) := (blk_cell BK191.out 3).trans rfl; have hcz10_4 : w9.cell? ⟨gb191, 4, none⟩ = some (.int .i64 0) := (blk_cell BK191.out 4).trans rfl; have hcz10_5 : w9.cell? ⟨gb191, 5, none⟩ = some (.int .i64 0) := (blk_cell BK191.out 5).trans rfl; have hfz10_0 := blk_frozen BK191.out 0; have hfz10_1 := blk_frozen BK191.out 1; have hfz10_2 := blk_frozen BK191.out 2; have hfz10_3 := blk_frozen BK191.out 3; have hfz10_4 := blk_frozen BK191.out 4; have hfz10_5 := blk_frozen BK191.out 5) | ((with_reducible refine gate_callee (f := 23) rfl ?_); refine goesL_ (some 27) rfl rfl Try.func23 (by kernel_rfl) rfl #[.agg #[.int .i64 ((rd_T29 l0 x22_1).f0.f0), .int .i64 ((rd_T29 l0 x22_1).f0.f1), .int .i64 ((rd_T29 l0 x22_1).f1.f0), .int .i64 ((rd_T29 l0 x22_1).f1.f1), .int .i64 ((rd_T29 l0 x22_1).f2), .int .i64 ((rd_T29 l0 x22_1).f3)]] rfl (by (try simp only [List.map_toArray, List.map_cons, List.map_nil]); first | done | rfl | (simp only [List.length_drop, List.length_take]; rfl)) ?_; (with_reducible refine (steer_Check.calls k1 ((rd_T29 l0 x22_1).f0.f0) ((rd_T29 l0 x22_1).f0.f1) ((rd_T29 l0 x22_1).f1.f0) ((rd_T29 l0 x22_1).f1.f1) ((rd_T29 l0 x22_1).f2) ((rd_T29 l0 x22_1).f3) t192 _ A7.out).mono ?_); rintro e w11 ⟨rfl, hb⟩; refine ⟨_, rfl, ?_⟩; have n0_ := Aside0.mk (blk_below (g := gb191) (o := .cells #[.int .i64 ((rd_T29 l0 x22_1).f0.f0), .int .i64 ((rd_T29 l0 x22_1).f0.f1), .int .i64 ((rd_T29 l0 x22_1).f1.f0), .int .i64 ((rd_T29 l0 x22_1).f1.f1), .int .i64 ((rd_T29 l0 x22_1).f2), .int .i64 ((rd_T29 l0 x22_1).f3)] 29 (0, 0)) (by (with_reducible repeat (first | refine blk_drewN ?_ _ | refine blk_drew ?_ | refine blk_alloc ?_ _)); refine blk_put (cs := #[.int .i64 ((rd_T29 l0 x22_1).f0.f0), .int .i64 ((rd_T29 l0 x22_1).f0.f1), .int .i64 ((rd_T29 l0 x22_1).f1.f0), .int .i64 ((rd_T29 l0 x22_1).f1.f1), .int .i64 ((rd_T29 l0 x22_1).f2), .int .i64 0]) ?_ 5 _ rfl; (with_reducible repeat (first | refine blk_drewN ?_ _ | refine blk_drew ?_ | refine blk_alloc ?_ _)); refine blk_put (cs := #[.int .i64 ((rd_T29 l0 x22_1).f0.f0), .int .i64 ((rd_T29 l0 x22_1).f0.f1), .int .i64 ((rd_T29 l0 x22_1).f1.f0), .int .i64 ((rd_T29 l0 x22_1).f1.f1), .int .i64 0, .int .i64 0]) ?_ 4 _ rfl; (with_reducible repeat (first | refine blk_drewN ?_ _ | refine blk_drew ?_ | refine blk_alloc ?_ _)); refine blk_put (cs := #[.int .i64 ((rd_T29 l0 x22_1).f0.f0), .int .i64 ((rd_T29 l0 x22_1).f0.f1), .int .i64 ((rd_T29 l0 x22_1).f1.f0), .int .i64 0, .int .i64 0, .int .i64 0]) ?_ 3 _ rfl; (with_reducible repeat (first | refine blk_drewN ?_ _ | refine blk_drew ?_ | refine blk_alloc ?_ _)); refine blk_put (cs := #[.int .i64 ((rd_T29 l0 x22_1).f0.f0), .int .i64 ((rd_T29 l0 x22_1).f0.f1), .int .i64 0, .int .i64 0, .int .i64 0, .int .i64 0]) ?_ 2 _ rfl; (with_reducible repeat (first | refine blk_drewN ?_ _ | refine blk_drew ?_ | refine blk_alloc ?_ _)); refine blk_put (cs := #[.int .i64 ((rd_T29 l0 x22_1).f0.f0), .int .i64 0, .int .i64 0, .int .i64 0, .int .i64 0, .int .i64 0]) ?_ 1 _ rfl; (with_reducible repeat (first | refine blk_drewN ?_ _ | refine blk_drew ?_ | refine blk_alloc ?_ _)); refine blk_put (cs := #[.int .i64 0, .int .i64 0, .int .i64 0, .int .i64 0, .int .i64 0, .int .i64 0]) ?_ 0 _ rfl; (with_reducible repeat (first | refine blk_drewN ?_ _ | refine blk_drew ?_ | refine blk_alloc ?_ _)); exact BK191.out) hb); have n1_ := Aside0.mk (below_step (by repeat (first | (with_reducible first | exact HB.out | apply below_alloc | apply pw_below_drewN | apply below_drew1 | refine below_set ?_ GE191.out) | exact HB.out)) hb); clear BK191; clear HB; have BK191 := n0_; have HB := n1_; clear n0_ n1_; (try clear hb); (try clear hb2); (try clear hk); (try clear hi)))
        go_roundg k1
        case measure => have := HK1.out; omega
        case rel => exact ⟨(wrap64 (x22_1 + 1)), (by first | rfl | (simp; done) | (simp [*]; done)), H', ⟨by have := HK1.out; omega⟩, ⟨by repeat (first | (with_reducible first | exact HB.out | apply below_alloc | apply pw_below_drewN | apply below_drew1 | refine below_set ?_ GE191.out) | exact HB.out)⟩⟩
       ·rw [if_neg c8] at H
        have c8b0 : (t192 == 0) = false := beq_eq_false_iff_ne.mpr c8
        have c8b1 : (t192 != 0) = true := bne_iff_ne.mpr c8
        simp only [Option.some.injEq, Prod.mk.injEq] at H
        obtain ⟨rfl, rfl⟩ := H
        have p190 : 0 ≤ (x22_1 : Int) := of_decide_eq_true (by first | (with_reducible assumption) | assumption)
        have q190 : x22_1 < (l0.length : Int) := of_decide_eq_true (by first | (with_reducible assumption) | assumption)
        obtain ⟨ad190, e190, hx190_0, hx190_1, hx190_2, hx190_3, hx190_4, hx190_5⟩ := at_T29 HR0.out x22_1 p190 q190
        cases e190
        replace hx190_0 := (HB.out.cell (World.block_lt_of_cell? w _ hx190_0)).trans hx190_0
        replace hx190_1 := (HB.out.cell (World.block_lt_of_cell? w _ hx190_1)).trans hx190_1
        replace hx190_2 := (HB.out.cell (World.block_lt_of_cell? w _ hx190_2)).trans hx190_2
        replace hx190_3 := (HB.out.cell (World.block_lt_of_cell? w _ hx190_3)).trans hx190_3
        replace hx190_4 := (HB.out.cell (World.block_lt_of_cell? w _ hx190_4)).trans hx190_4
        replace hx190_5 := (HB.out.cell (World.block_lt_of_cell? w _ hx190_5)).trans hx190_5
        replace p190 := eq_true p190
        replace q190 := eq_true q190
        go_wp2_with (first | ((with_reducible refine gate_dst (N := 7) rfl ?_); refine box_event ?hg (N := 7) ?hd (cs := #[.int .i64 0, .int .i64 0, .int .i64 0, .int .i64 0, .int .i64 0, .int .i64 0]) (t := 29) ?hr ?_; (case hd => rfl); (case hg => rfl); (case hr => first | (go_simp; done) | (go_simp; rfl)); intro gb191 hg w12 hbox hb; have n0_ := Aside0.mk (below_step (by repeat (first | (with_reducible first | exact HB.out | apply below_alloc | apply pw_below_drewN | apply below_drew1) | exact HB.out)) hb); have n1_ := Aside0.mk (hbox); have n2_ := Aside0.mk ((by rw [hg]; exact (below_size (by repeat (first | (with_reducible first | exact HB.out | apply below_alloc | apply pw_below_drewN | apply below_drew1) | exact HB.out))) : w.heap.size ≤ gb191)); have n3_ := Aside0.mk ((by rw [hg]; exact (below_size (by repeat (first | (with_reducible first | exact HB.out | apply below_alloc | apply pw_below_drewN | apply below_drew1) | exact HB.out))) : w.heap.size ≤ gb191)); clear HB; have HB := n0_; have BK191 := n1_; have GW191 := n2_; have GE191 := n3_; clear n0_ n1_ n2_ n3_; clear hb hbox hg; have hcz13_0 : w12.cell? ⟨gb191, 0, none⟩ = some (.int .i64 0) := (blk_cell BK191.out 0).trans rfl; have hcz13_1 : w12.cell? ⟨gb191, 1, none⟩ = some (.int .i64 0) := (blk_cell BK191.out 1).trans rfl; have hcz13_2 : w12.cell? ⟨gb191, 2, none⟩ = some (.int .i64 0) := (blk_cell BK191.out 2).trans rfl; have hcz13_3 : w12.cell? ⟨gb191, 3, none⟩ = some (.int .i64 0) := (blk_cell BK191.out 3).trans rfl; have hcz13_4 : w12.cell? ⟨gb191, 4, none⟩ = some (.int .i64 0) := (blk_cell BK191.out 4).trans rfl; have hcz13_5 : w12.cell? ⟨gb191, 5, none⟩ = some (.int .i64 0) := (blk_cell BK191.out 5).trans rfl; have hfz13_0 := blk_frozen BK191.out 0; have hfz13_1 := blk_frozen BK191.out 1; have hfz13_2 := blk_frozen BK191.out 2; have hfz13_3 := blk_frozen BK191.out 3; have hfz13_4 := blk_frozen BK191.out 4; have hfz13_5 := blk_frozen BK191.out 5) | ((with_reducible refine gate_callee (f := 23) rfl ?_); refine goesL_ (some 27) rfl rfl Try.func23 (by kernel_rfl) rfl #[.agg #[.int .i64 ((rd_T29 l0 x22_1).f0.f0), .int .i64 ((rd_T29 l0 x22_1).f0.f1), .int .i64 ((rd_T29 l0 x22_1).f1.f0), .int .i64 ((rd_T29 l0 x22_1).f1.f1), .int .i64 ((rd_T29 l0 x22_1).f2), .int .i64 ((rd_T29 l0 x22_1).f3)]] rfl (by (try simp only [List.map_toArray, List.map_cons, List.map_nil]); first | done | rfl | (simp only [List.length_drop, List.length_take]; rfl)) ?_; (with_reducible refine (steer_Check.calls k1 ((rd_T29 l0 x22_1).f0.f0) ((rd_T29 l0 x22_1).f0.f1) ((rd_T29 l0 x22_1).f1.f0) ((rd_T29 l0 x22_1).f1.f1) ((rd_T29 l0 x22_1).f2) ((rd_T29 l0 x22_1).f3) t192 _ A7.out).mono ?_); rintro e w14 ⟨rfl, hb⟩; refine ⟨_, rfl, ?_⟩; have n0_ := Aside0.mk (blk_below (g := gb191) (o := .cells #[.int .i64 ((rd_T29 l0 x22_1).f0.f0), .int .i64 ((rd_T29 l0 x22_1).f0.f1), .int .i64 ((rd_T29 l0 x22_1).f1.f0), .int .i64 ((rd_T29 l0 x22_1).f1.f1), .int .i64 ((rd_T29 l0 x22_1).f2), .int .i64 ((rd_T29 l0 x22_1).f3)] 29 (0, 0)) (by (with_reducible repeat (first | refine blk_drewN ?_ _ | refine blk_drew ?_ | refine blk_alloc ?_ _)); refine blk_put (cs := #[.int .i64 ((rd_T29 l0 x22_1).f0.f0), .int .i64 ((rd_T29 l0 x22_1).f0.f1), .int .i64 ((rd_T29 l0 x22_1).f1.f0), .int .i64 ((rd_T29 l0 x22_1).f1.f1), .int .i64 ((rd_T29 l0 x22_1).f2), .int .i64 0]) ?_ 5 _ rfl; (with_reducible repeat (first | refine blk_drewN ?_ _ | refine blk_drew ?_ | refine blk_alloc ?_ _)); refine blk_put (cs := #[.int .i64 ((rd_T29 l0 x22_1).f0.f0), .int .i64 ((rd_T29 l0 x22_1).f0.f1), .int .i64 ((rd_T29 l0 x22_1).f1.f0), .int .i64 ((rd_T29 l0 x22_1).f1.f1), .int .i64 0, .int .i64 0]) ?_ 4 _ rfl; (with_reducible repeat (first | refine blk_drewN ?_ _ | refine blk_drew ?_ | refine blk_alloc ?_ _)); refine blk_put (cs := #[.int .i64 ((rd_T29 l0 x22_1).f0.f0), .int .i64 ((rd_T29 l0 x22_1).f0.f1), .int .i64 ((rd_T29 l0 x22_1).f1.f0), .int .i64 0, .int .i64 0, .int .i64 0]) ?_ 3 _ rfl; (with_reducible repeat (first | refine blk_drewN ?_ _ | refine blk_drew ?_ | refine blk_alloc ?_ _)); refine blk_put (cs := #[.int .i64 ((rd_T29 l0 x22_1).f0.f0), .int .i64 ((rd_T29 l0 x22_1).f0.f1), .int .i64 0, .int .i64 0, .int .i64 0, .int .i64 0]) ?_ 2 _ rfl; (with_reducible repeat (first | refine blk_drewN ?_ _ | refine blk_drew ?_ | refine blk_alloc ?_ _)); refine blk_put (cs := #[.int .i64 ((rd_T29 l0 x22_1).f0.f0), .int .i64 0, .int .i64 0, .int .i64 0, .int .i64 0, .int .i64 0]) ?_ 1 _ rfl; (with_reducible repeat (first | refine blk_drewN ?_ _ | refine blk_drew ?_ | refine blk_alloc ?_ _)); refine blk_put (cs := #[.int .i64 0, .int .i64 0, .int .i64 0, .int .i64 0, .int .i64 0, .int .i64 0]) ?_ 0 _ rfl; (with_reducible repeat (first | refine blk_drewN ?_ _ | refine blk_drew ?_ | refine blk_alloc ?_ _)); exact BK191.out) hb); have n1_ := Aside0.mk (below_step (by repeat (first | (with_reducible first | exact HB.out | apply below_alloc | apply pw_below_drewN | apply below_drew1 | refine below_set ?_ GE191.out) | exact HB.out)) hb); clear BK191; clear HB; have BK191 := n0_; have HB := n1_; clear n0_ n1_; (try clear hb); (try clear hb2); (try clear hk); (try clear hi)))
        go_ret2
        exact ⟨_, by first | rfl | (simp [errW_none, errW_some] <;> rfl) | (simp [*, errW_none, errW_some] <;> rfl), by first | exact Kd.R_nil _ _ _ _ _ | exact Kd.N_nil _ _ _ _ _ | exact Kd.V_nil _ _ _ _ _ | exact Kd.Q_nil _ _ _ _ _ | exact Kd.S_nil _ _ _ _ _, by repeat (first | (with_reducible first | exact HB.out | apply below_alloc | apply pw_below_drewN | apply below_drew1 | refine below_set ?_ GE191.out) | exact HB.out)⟩
      ·rw [if_neg c6] at H
       exact absurd H (by simp)
     ·rw [if_neg c5] at H
      exact absurd H (by simp)
    ·rw [if_neg c4] at H
     have c4b0 : decide (x22_1 < (l0.length : Int)) = false := decide_eq_false c4
     clear c4
     have HC15 := Aside0.mk H
     clear H
     go_upto_region 10 with (fail)
     go_cut [37] (fun v37 wc => ∃ (kq : Nat) (x37_14 : Bool), v37 = .bool x37_14 ∧ Aside0 (steer_Apart.j1 kq l0 a1 x37_14 = some (r1, r2)) ∧ Aside0 (kq ≤ k1) ∧ Aside0 (Below w.heap.size w wc))
     case first =>
      have H := HC15.out
      clear HC15
      by_cases c16 : a1 < 0
      ·rw [if_pos c16] at H
       have c16b0 : decide (a1 < 0) = true := decide_eq_true c16
       clear c16
       (first | rw [c16b0] | (simp only [i64_w, i32_w]; rw [c16b0]) | skip)
       have H' := Aside0.mk H
       clear H
       go_wp2
       go_meet
       case rel => exact ⟨_, (true), (by first | rfl | (simp; done) | (simp [*]; done)), H', ⟨by have := HK1.out; first | omega | exact Nat.le_refl _⟩, ⟨by repeat (first | (with_reducible first | exact HB.out | apply below_alloc | apply pw_below_drewN | apply below_drew1) | exact HB.out)⟩⟩
      ·rw [if_neg c16] at H
       have c16b0 : decide (a1 < 0) = false := decide_eq_false c16
       clear c16
       (first | rw [c16b0] | (simp only [i64_w, i32_w]; rw [c16b0]) | skip)
       have H' := Aside0.mk H
       clear H
       go_wp2
       go_meet
       case rel => exact ⟨_, (decide (a1 > 1099511627776)), (by first | rfl | (simp; done) | (simp [*]; done)), H', ⟨by have := HK1.out; first | omega | exact Nat.le_refl _⟩, ⟨by repeat (first | (with_reducible first | exact HB.out | apply below_alloc | apply pw_below_drewN | apply below_drew1) | exact HB.out)⟩⟩
     case rest =>
      clear HC15
      try clear c1
      try clear p1
      try clear q1
      try clear hx1
      try clear c2
      try clear p2
      try clear c3
      try clear c3b0
      try clear c3b1
      try clear c4
      try clear c4b0
      try clear c5
      try clear c5b0
      try clear c6
      try clear c6b0
      try clear p6
      try clear c8
      try clear c8b0
      try clear c8b1
      try clear c11
      try clear c16
      try clear c16b0
      try clear hcz10_0
      try clear hcz10_1
      try clear hcz10_2
      try clear hcz10_3
      try clear hcz10_4
      try clear hcz10_5
      try clear hcz13_0
      try clear hcz13_1
      try clear hcz13_2
      try clear hcz13_3
      try clear hcz13_4
      try clear hcz13_5
      try clear hfz10_0
      try clear hfz10_1
      try clear hfz10_2
      try clear hfz10_3
      try clear hfz10_4
      try clear hfz10_5
      try clear hfz13_0
      try clear hfz13_1
      try clear hfz13_2
      try clear hfz13_3
      try clear hfz13_4
      try clear hfz13_5
      try clear hx190_0
      try clear hx190_1
      try clear hx190_2
      try clear hx190_3
      try clear hx190_4
      try clear hx190_5
      try clear p190
      try clear p2
      try clear q190
      obtain ⟨kq, x37_14, rfl, HA, HJ14, HB⟩ := hcut
      cases kq with
      | zero => exact absurd HA.out (by simp [steer_Apart.j1])
      | succ kj14 =>
       have H := HA.out
       clear HA
       simp only [steer_Apart.j1] at H
       by_cases c17 : x37_14 = true
       ·subst c17
        have H1 : (some (([] : List (S29)), 1)) = some (r1, r2) := by rw [if_pos rfl] at H; exact H
        clear H
        have H := H1
        clear H1
        simp only [Option.some.injEq, Prod.mk.injEq] at H
        obtain ⟨rfl, rfl⟩ := H
        go_wp2
        go_ret2
        exact ⟨_, by first | rfl | (simp [errW_none, errW_some] <;> rfl) | (simp [*, errW_none, errW_some] <;> rfl), by first | exact Kd.R_nil _ _ _ _ _ | exact Kd.N_nil _ _ _ _ _ | exact Kd.V_nil _ _ _ _ _ | exact Kd.Q_nil _ _ _ _ _ | exact Kd.S_nil _ _ _ _ _, by repeat (first | (with_reducible first | exact HB.out | apply below_alloc | apply pw_below_drewN | apply below_drew1) | exact HB.out)⟩
       ·replace c17 := Bool.eq_false_iff.mpr c17
        subst c17
        have H1 : (steer_Apart.l1 kj14 l0 a1 ([] : List (S29)) l0 (l0.length : Int) 0) = some (r1, r2) := by rw [if_neg (show ¬ (false = true) by decide)] at H; exact H
        clear H
        have H := H1
        clear H1
        have H' := Aside0.mk H
        clear H
        go_wp2
        go_loopg [9, 40] kj14 (fun kq v9 v40 w' => ∃ (x9_3 : List (S29)) (x40_3 : Int), v40 = .int .i64 x40_3 ∧ Aside0 (steer_Apart.l1 kq l0 a1 x9_3 l0 (l0.length : Int) x40_3 = some (r1, r2)) ∧ Aside0 (kq ≤ kj14) ∧ Aside0 (Kd.R k29 29 w' w.heap.size (fun _ => True) v9 x9_3) ∧ Aside0 (Below w.heap.size w w'))
        case atStart => exact ⟨(([] : List (S29))), (0), (by first | rfl | (simp; done) | (simp [*]; done)), H', ⟨Nat.le_refl _⟩, ⟨by first | exact Kd.R_nil _ _ _ _ _ | exact Kd.N_nil _ _ _ _ _ | exact Kd.V_nil _ _ _ _ _ | exact Kd.Q_nil _ _ _ _ _ | exact Kd.S_nil _ _ _ _ _⟩, ⟨by repeat (first | (with_reducible first | exact HB.out | apply below_alloc | apply pw_below_drewN | apply below_drew1) | exact HB.out)⟩⟩
        case round =>
         clear H'
         try clear c1
         try clear p1
         try clear q1
         try clear hx1
         try clear c2
         try clear p2
         try clear c3
         try clear c3b0
         try clear c3b1
         try clear c4
         try clear c4b0
         try clear c5
         try clear c5b0
         try clear c6
         try clear c6b0
         try clear p6
         try clear c8
         try clear c8b0
         try clear c8b1
         try clear c11
         try clear c16
         try clear c16b0
         try clear c17
         try clear hcz10_0
         try clear hcz10_1
         try clear hcz10_2
         try clear hcz10_3
         try clear hcz10_4
         try clear hcz10_5
         try clear hcz13_0
         try clear hcz13_1
         try clear hcz13_2
         try clear hcz13_3
         try clear hcz13_4
         try clear hcz13_5
         try clear hfz10_0
         try clear hfz10_1
         try clear hfz10_2
         try clear hfz10_3
         try clear hfz10_4
         try clear hfz10_5
         try clear hfz13_0
         try clear hfz13_1
         try clear hfz13_2
         try clear hfz13_3
         try clear hfz13_4
         try clear hfz13_5
         try clear hx190_0
         try clear hx190_1
         try clear hx190_2
         try clear hx190_3
         try clear hx190_4
         try clear hx190_5
         try clear p1
         try clear p190
         try clear p2
         try clear p6
         try clear q1
         try clear q190
         obtain ⟨x9_3, x40_3, rfl, HA, HK3, HO_9, HB⟩ := hrel
         cases gk with
         | zero => exact absurd HA.out (by simp [steer_Apart.l1])
         | succ k3 =>
          have H := HA.out
          clear HA
          simp only [steer_Apart.l1] at H
          by_cases c18 : x40_3 < (l0.length : Int)
          ·rw [if_pos c18] at H
           have c18b0 : decide (x40_3 < (l0.length : Int)) = true := decide_eq_true c18
           clear c18
           by_cases c19 : 0 ≤ x40_3
           ·rw [if_pos c19] at H
            have c19b0 : decide (0 ≤ x40_3) = true := decide_eq_true c19
            clear c19
            by_cases c20 : x40_3 < (l0.length : Int)
            ·rw [if_pos c20] at H
             have c20b0 : decide (x40_3 < (l0.length : Int)) = true := decide_eq_true c20
             clear c20
             have H' := Aside0.mk H
             clear H
             have p193 : 0 ≤ (x40_3 : Int) := of_decide_eq_true (by first | (with_reducible assumption) | assumption)
             have q193 : x40_3 < (l0.length : Int) := of_decide_eq_true (by first | (with_reducible assumption) | assumption)
             obtain ⟨ad193, e193, hx193_0, hx193_1, hx193_2, hx193_3, hx193_4, hx193_5⟩ := at_T29 HR0.out x40_3 p193 q193
             cases e193
             replace hx193_0 := (HB.out.cell (World.block_lt_of_cell? w _ hx193_0)).trans hx193_0
             replace hx193_1 := (HB.out.cell (World.block_lt_of_cell? w _ hx193_1)).trans hx193_1
             replace hx193_2 := (HB.out.cell (World.block_lt_of_cell? w _ hx193_2)).trans hx193_2
             replace hx193_3 := (HB.out.cell (World.block_lt_of_cell? w _ hx193_3)).trans hx193_3
             replace hx193_4 := (HB.out.cell (World.block_lt_of_cell? w _ hx193_4)).trans hx193_4
             replace hx193_5 := (HB.out.cell (World.block_lt_of_cell? w _ hx193_5)).trans hx193_5
             replace p193 := eq_true p193
             replace q193 := eq_true q193
             go_wp2_with (first | ((with_reducible refine gate_dst (N := 11) rfl ?_); refine box_event ?hg (N := 11) ?hd (cs := #[.int .i64 0, .int .i64 0, .int .i64 0, .int .i64 0, .int .i64 0, .int .i64 0]) (t := 29) ?hr ?_; (case hd => rfl); (case hg => rfl); (case hr => first | (go_simp; done) | (go_simp; rfl)); intro gb194 hg w21 hbox hb; have n0_ := Aside0.mk (Kd.R_below (Kd.R_elderB (by (with_reducible repeat (first | apply Kd.R_alloc | apply Kd.R_drewN | apply Kd.R_drew)); exact HO_9.out) gb194 (Nat.le_of_eq hg.symm)) hb); have n1_ := Aside0.mk (below_step (by repeat (first | (with_reducible first | exact HB.out | apply below_alloc | apply pw_below_drewN | apply below_drew1) | exact HB.out)) hb); have n2_ := Aside0.mk (hbox); have n3_ := Aside0.mk ((by rw [hg]; exact (below_size (by repeat (first | (with_reducible first | exact HB.out | apply below_alloc | apply pw_below_drewN | apply below_drew1) | exact HB.out))) : w.heap.size ≤ gb194)); have n4_ := Aside0.mk ((by rw [hg]; exact (below_size (by repeat (first | (with_reducible first | exact HB.out | apply below_alloc | apply pw_below_drewN | apply below_drew1) | exact HB.out))) : w.heap.size ≤ gb194)); clear HO_9; clear HB; have HO_9 := n0_; have HB := n1_; have BK194 := n2_; have GW194 := n3_; have GE194 := n4_; clear n0_ n1_ n2_ n3_ n4_; clear hb hbox hg; have hcz22_0 : w21.cell? ⟨gb194, 0, none⟩ = some (.int .i64 0) := (blk_cell BK194.out 0).trans rfl; have hcz22_1 : w21.cell? ⟨gb194, 1, none⟩ = some (.int .i64 0) := (blk_cell BK194.out 1).trans rfl; have hcz22_2 : w21.cell? ⟨gb194, 2, none⟩ = some (.int .i64 0) := (blk_cell BK194.out 2).trans rfl; have hcz22_3 : w21.cell? ⟨gb194, 3, none⟩ = some (.int .i64 0) := (blk_cell BK194.out 3).trans rfl; have hcz22_4 : w21.cell? ⟨gb194, 4, none⟩ = some (.int .i64 0) := (blk_cell BK194.out 4).trans rfl; have hcz22_5 : w21.cell? ⟨gb194, 5, none⟩ = some (.int .i64 0) := (blk_cell BK194.out 5).trans rfl; have hfz22_0 := blk_frozen BK194.out 0; have hfz22_1 := blk_frozen BK194.out 1; have hfz22_2 := blk_frozen BK194.out 2; have hfz22_3 := blk_frozen BK194.out 3; have hfz22_4 := blk_frozen BK194.out 4; have hfz22_5 := blk_frozen BK194.out 5) | ((with_reducible refine gate_dst (N := 12) rfl ?_); refine box_event ?hg (N := 12) ?hd (cs := #[.int .i64 0, .int .i64 0]) (t := 27) ?hr ?_; (case hd => rfl); (case hg => rfl); (case hr => first | (go_simp; done) | (go_simp; rfl)); intro gb195 hg w23 hbox hb; have n0_ := Aside0.mk (Kd.R_below (by (with_reducible repeat (first | apply Kd.R_alloc | apply Kd.R_drewN | apply Kd.R_drew)); exact (Kd.R_mono (Kd.R_far (p := ⟨gb194, 5, none⟩) (Kd.R_far (p := ⟨gb194, 4, none⟩) (Kd.R_far (p := ⟨gb194, 3, none⟩) (Kd.R_far (p := ⟨gb194, 2, none⟩) (Kd.R_far (p := ⟨gb194, 1, none⟩) (Kd.R_far (p := ⟨gb194, 0, none⟩) (Kd.R_mono HO_9.out (fun k_ hk => (⟨hk, hk.2⟩ : _ ∧ k_ ≠ gb194))) (fun _ hk => hk.2) (.int .i64 ((rd_T29 l0 x40_3).f0.f0))) (fun _ hk => hk.2) (.int .i64 ((rd_T29 l0 x40_3).f0.f1))) (fun _ hk => hk.2) (.int .i64 ((rd_T29 l0 x40_3).f1.f0))) (fun _ hk => hk.2) (.int .i64 ((rd_T29 l0 x40_3).f1.f1))) (fun _ hk => hk.2) (.int .i64 ((rd_T29 l0 x40_3).f2))) (fun _ hk => hk.2) (.int .i64 ((rd_T29 l0 x40_3).f3))) (fun _ h_ => h_.1))) hb); have n1_ := Aside0.mk (blk_below (g := gb194) (o := .cells #[.int .i64 ((rd_T29 l0 x40_3).f0.f0), .int .i64 ((rd_T29 l0 x40_3).f0.f1), .int .i64 ((rd_T29 l0 x40_3).f1.f0), .int .i64 ((rd_T29 l0 x40_3).f1.f1), .int .i64 ((rd_T29 l0 x40_3).f2), .int .i64 ((rd_T29 l0 x40_3).f3)] 29 (0, 0)) (by (with_reducible repeat (first | refine blk_drewN ?_ _ | refine blk_drew ?_ | refine blk_alloc ?_ _)); refine blk_put (cs := #[.int .i64 ((rd_T29 l0 x40_3).f0.f0), .int .i64 ((rd_T29 l0 x40_3).f0.f1), .int .i64 ((rd_T29 l0 x40_3).f1.f0), .int .i64 ((rd_T29 l0 x40_3).f1.f1), .int .i64 ((rd_T29 l0 x40_3).f2), .int .i64 0]) ?_ 5 _ rfl; (with_reducible repeat (first | refine blk_drewN ?_ _ | refine blk_drew ?_ | refine blk_alloc ?_ _)); refine blk_put (cs := #[.int .i64 ((rd_T29 l0 x40_3).f0.f0), .int .i64 ((rd_T29 l0 x40_3).f0.f1), .int .i64 ((rd_T29 l0 x40_3).f1.f0), .int .i64 ((rd_T29 l0 x40_3).f1.f1), .int .i64 0, .int .i64 0]) ?_ 4 _ rfl; (with_reducible repeat (first | refine blk_drewN ?_ _ | refine blk_drew ?_ | refine blk_alloc ?_ _)); refine blk_put (cs := #[.int .i64 ((rd_T29 l0 x40_3).f0.f0), .int .i64 ((rd_T29 l0 x40_3).f0.f1), .int .i64 ((rd_T29 l0 x40_3).f1.f0), .int .i64 0, .int .i64 0, .int .i64 0]) ?_ 3 _ rfl; (with_reducible repeat (first | refine blk_drewN ?_ _ | refine blk_drew ?_ | refine blk_alloc ?_ _)); refine blk_put (cs := #[.int .i64 ((rd_T29 l0 x40_3).f0.f0), .int .i64 ((rd_T29 l0 x40_3).f0.f1), .int .i64 0, .int .i64 0, .int .i64 0, .int .i64 0]) ?_ 2 _ rfl; (with_reducible repeat (first | refine blk_drewN ?_ _ | refine blk_drew ?_ | refine blk_alloc ?_ _)); refine blk_put (cs := #[.int .i64 ((rd_T29 l0 x40_3).f0.f0), .int .i64 0, .int .i64 0, .int .i64 0, .int .i64 0, .int .i64 0]) ?_ 1 _ rfl; (with_reducible repeat (first | refine blk_drewN ?_ _ | refine blk_drew ?_ | refine blk_alloc ?_ _)); refine blk_put (cs := #[.int .i64 0, .int .i64 0, .int .i64 0, .int .i64 0, .int .i64 0, .int .i64 0]) ?_ 0 _ rfl; (with_reducible repeat (first | refine blk_drewN ?_ _ | refine blk_drew ?_ | refine blk_alloc ?_ _)); exact BK194.out) hb); have n2_ := Aside0.mk (below_step (by repeat (first | (with_reducible first | exact HB.out | apply below_alloc | apply pw_below_drewN | apply below_drew1 | refine below_set ?_ GE194.out) | exact HB.out)) hb); have n3_ := Aside0.mk (hbox); have n4_ := Aside0.mk ((by rw [hg]; exact (below_size (by repeat (first | (with_reducible first | exact HB.out | apply below_alloc | apply pw_below_drewN | apply below_drew1 | refine below_set ?_ GE194.out) | exact HB.out))) : w.heap.size ≤ gb195)); have n5_ := Aside0.mk ((by rw [hg]; exact (below_size (by repeat (first | (with_reducible first | exact HB.out | apply below_alloc | apply pw_below_drewN | apply below_drew1 | refine below_set ?_ GE194.out) | exact HB.out))) : w.heap.size ≤ gb195)); have n6_ := Aside0.mk ((by rw [hg]; exact Nat.ne_of_lt (blk_lt (g := gb194) (o := .cells #[.int .i64 ((rd_T29 l0 x40_3).f0.f0), .int .i64 ((rd_T29 l0 x40_3).f0.f1), .int .i64 ((rd_T29 l0 x40_3).f1.f0), .int .i64 ((rd_T29 l0 x40_3).f1.f1), .int .i64 ((rd_T29 l0 x40_3).f2), .int .i64 ((rd_T29 l0 x40_3).f3)] 29 (0, 0)) (by (with_reducible repeat (first | refine blk_drewN ?_ _ | refine blk_drew ?_ | refine blk_alloc ?_ _)); refine blk_put (cs := #[.int .i64 ((rd_T29 l0 x40_3).f0.f0), .int .i64 ((rd_T29 l0 x40_3).f0.f1), .int .i64 ((rd_T29 l0 x40_3).f1.f0), .int .i64 ((rd_T29 l0 x40_3).f1.f1), .int .i64 ((rd_T29 l0 x40_3).f2), .int .i64 0]) ?_ 5 _ rfl; (with_reducible repeat (first | refine blk_drewN ?_ _ | refine blk_drew ?_ | refine blk_alloc ?_ _)); refine blk_put (cs := #[.int .i64 ((rd_T29 l0 x40_3).f0.f0), .int .i64 ((rd_T29 l0 x40_3).f0.f1), .int .i64 ((rd_T29 l0 x40_3).f1.f0), .int .i64 ((rd_T29 l0 x40_3).f1.f1), .int .i64 0, .int .i64 0]) ?_ 4 _ rfl; (with_reducible repeat (first | refine blk_drewN ?_ _ | refine blk_drew ?_ | refine blk_alloc ?_ _)); refine blk_put (cs := #[.int .i64 ((rd_T29 l0 x40_3).f0.f0), .int .i64 ((rd_T29 l0 x40_3).f0.f1), .int .i64 ((rd_T29 l0 x40_3).f1.f0), .int .i64 0, .int .i64 0, .int .i64 0]) ?_ 3 _ rfl; (with_reducible repeat (first | refine blk_drewN ?_ _ | refine blk_drew ?_ | refine blk_alloc ?_ _)); refine blk_put (cs := #[.int .i64 ((rd_T29 l0 x40_3).f0.f0), .int .i64 ((rd_T29 l0 x40_3).f0.f1), .int .i64 0, .int .i64 0, .int .i64 0, .int .i64 0]) ?_ 2 _ rfl; (with_reducible repeat (first | refine blk_drewN ?_ _ | refine blk_drew ?_ | refine blk_alloc ?_ _)); refine blk_put (cs := #[.int .i64 ((rd_T29 l0 x40_3).f0.f0), .int .i64 0, .int .i64 0, .int .i64 0, .int .i64 0, .int .i64 0]) ?_ 1 _ rfl; (with_reducible repeat (first | refine blk_drewN ?_ _ | refine blk_drew ?_ | refine blk_alloc ?_ _)); refine blk_put (cs := #[.int .i64 0, .int .i64 0, .int .i64 0, .int .i64 0, .int .i64 0, .int .i64 0]) ?_ 0 _ rfl; (with_reducible repeat (first | refine blk_drewN ?_ _ | refine blk_drew ?_ | refine blk_alloc ?_ _)); exact BK194.out)) : gb194 ≠ gb195)); have n7_ := Aside0.mk ((by rw [hg]; exact Nat.ne_of_gt (blk_lt (g := gb194) (o := .cells #[.int .i64 ((rd_T29 l0 x40_3).f0.f0), .int .i64 ((rd_T29 l0 x40_3).f0.f1), .int .i64 ((rd_T29 l0 x40_3).f1.f0), .int .i64 ((rd_T29 l0 x40_3).f1.f1), .int .i64 ((rd_T29 l0 x40_3).f2), .int .i64 ((rd_T29 l0 x40_3).f3)] 29 (0, 0)) (by (with_reducible repeat (first | refine blk_drewN ?_ _ | refine blk_drew ?_ | refine blk_alloc ?_ _)); refine blk_put (cs := #[.int .i64 ((rd_T29 l0 x40_3).f0.f0), .int .i64 ((rd_T29 l0 x40_3).f0.f1), .int .i64 ((rd_T29 l0 x40_3).f1.f0), .int .i64 ((rd_T29 l0 x40_3).f1.f1), .int .i64 ((rd_T29 l0 x40_3).f2), .int .i64 0]) ?_ 5 _ rfl; (with_reducible repeat (first | refine blk_drewN ?_ _ | refine blk_drew ?_ | refine blk_alloc ?_ _)); refine blk_put (cs := #[.int .i64 ((rd_T29 l0 x40_3).f0.f0), .int .i64 ((rd_T29 l0 x40_3).f0.f1), .int .i64 ((rd_T29 l0 x40_3).f1.f0), .int .i64 ((rd_T29 l0 x40_3).f1.f1), .int .i64 0, .int .i64 0]) ?_ 4 _ rfl; (with_reducible repeat (first | refine blk_drewN ?_ _ | refine blk_drew ?_ | refine blk_alloc ?_ _)); refine blk_put (cs := #[.int .i64 ((rd_T29 l0 x40_3).f0.f0), .int .i64 ((rd_T29 l0 x40_3).f0.f1), .int .i64 ((rd_T29 l0 x40_3).f1.f0), .int .i64 0, .int .i64 0, .int .i64 0]) ?_ 3 _ rfl; (with_reducible repeat (first | refine blk_drewN ?_ _ | refine blk_drew ?_ | refine blk_alloc ?_ _)); refine blk_put (cs := #[.int .i64 ((rd_T29 l0 x40_3).f0.f0), .int .i64 ((rd_T29 l0 x40_3).f0.f1), .int .i64 0, .int .i64 0, .int .i64 0, .int .i64 0]) ?_ 2 _ rfl; (with_reducible repeat (first | refine blk_drewN ?_ _ | refine blk_drew ?_ | refine blk_alloc ?_ _)); refine blk_put (cs := #[.int .i64 ((rd_T29 l0 x40_3).f0.f0), .int .i64 0, .int .i64 0, .int .i64 0, .int .i64 0, .int .i64 0]) ?_ 1 _ rfl; (with_reducible repeat (first | refine blk_drewN ?_ _ | refine blk_drew ?_ | refine blk_alloc ?_ _)); refine blk_put (cs := #[.int .i64 0, .int .i64 0, .int .i64 0, .int .i64 0, .int .i64 0, .int .i64 0]) ?_ 0 _ rfl; (with_reducible repeat (first | refine blk_drewN ?_ _ | refine blk_drew ?_ | refine blk_alloc ?_ _)); exact BK194.out)) : gb195 ≠ gb194)); clear HO_9; clear BK194; clear HB; have HO_9 := n0_; have BK194 := n1_; have HB := n2_; have BK195 := n3_; have GW195 := n4_; have GE195 := n5_; have NB194_195 := n6_; have NB195_194 := n7_; clear n0_ n1_ n2_ n3_ n4_ n5_ n6_ n7_; clear hb hbox hg; have hnb24 := NB195_194.out; have hnc24 := NB194_195.out; have hcz25_0 : w23.cell? ⟨gb195, 0, none⟩ = some (.int .i64 0) := (blk_cell BK195.out 0).trans rfl; have hcz25_1 : w23.cell? ⟨gb195, 1, none⟩ = some (.int .i64 0) := (blk_cell BK195.out 1).trans rfl; have hfz25_0 := blk_frozen BK195.out 0; have hfz25_1 := blk_frozen BK195.out 1))
             go_loopg [49] k3 (fun kq v49 w' => ∃ (x49_4 : Int) (x196000_4 : Int) (x196001_4 : Int), v49 = .int .i64 x49_4 ∧ Aside0 (steer_Apart.l2 kq l0 a1 x9_3 x40_3 l0 (l0.length : Int) x40_3 l0 (l0.length : Int) x49_4 ((rd_T29 l0 x40_3).f0.f0) ((rd_T29 l0 x40_3).f0.f1) ((rd_T29 l0 x40_3).f1.f0) ((rd_T29 l0 x40_3).f1.f1) ((rd_T29 l0 x40_3).f2) ((rd_T29 l0 x40_3).f3) x196000_4 x196001_4 = some (r1, r2)) ∧ Aside0 (kq ≤ k3) ∧ Aside0 (Kd.R k29 29 w' w.heap.size (fun k_ => k_ ≠ gb194) u9 x9_3) ∧ Aside0 (w'.heap[gb194]? = some (.cells #[.int .i64 ((rd_T29 l0 x40_3).f0.f0), .int .i64 ((rd_T29 l0 x40_3).f0.f1), .int .i64 ((rd_T29 l0 x40_3).f1.f0), .int .i64 ((rd_T29 l0 x40_3).f1.f1), .int .i64 ((rd_T29 l0 x40_3).f2), .int .i64 ((rd_T29 l0 x40_3).f3)] 29 (0, 0))) ∧ Aside0 (w'.heap[gb195]? = some (.cells #[.int .i64 x196000_4, .int .i64 x196001_4] 27 (0, 0))) ∧ Aside0 (Below w.heap.size w w'))
             case atStart => exact ⟨(0), ((rd_T29 l0 x40_3).f1.f0), ((rd_T29 l0 x40_3).f1.f1), (by first | rfl | (simp; done) | (simp [*]; done)), H', ⟨Nat.le_refl _⟩, ⟨by (with_reducible repeat (first | apply Kd.R_alloc | apply Kd.R_drewN | apply Kd.R_drew)); exact Kd.R_mono (Kd.R_far (p := ⟨gb195, 1, none⟩) (Kd.R_far (p := ⟨gb195, 0, none⟩) (Kd.R_types HO_9.out BK195.out (by decide)) (fun _ hk => hk.2) (.int .i64 ((rd_T29 l0 x40_3).f1.f0))) (fun _ hk => hk.2) (.int .i64 ((rd_T29 l0 x40_3).f1.f1))) (fun _ hk => hk.1.2)⟩, ⟨by (with_reducible repeat (first | refine blk_drewN ?_ _ | refine blk_drew ?_ | refine blk_alloc ?_ _)); refine blk_far ?_ NB194_195.out _; (with_reducible repeat (first | refine blk_drewN ?_ _ | refine blk_drew ?_ | refine blk_alloc ?_ _)); refine blk_far ?_ NB194_195.out _; (with_reducible repeat (first | refine blk_drewN ?_ _ | refine blk_drew ?_ | refine blk_alloc ?_ _)); exact BK194.out⟩, ⟨by (with_reducible repeat (first | refine blk_drewN ?_ _ | refine blk_drew ?_ | refine blk_alloc ?_ _)); refine blk_put (cs := #[.int .i64 ((rd_T29 l0 x40_3).f1.f0), .int .i64 0]) ?_ 1 _ rfl; (with_reducible repeat (first | refine blk_drewN ?_ _ | refine blk_drew ?_ | refine blk_alloc ?_ _)); refine blk_put (cs := #[.int .i64 0, .int .i64 0]) ?_ 0 _ rfl; (with_reducible repeat (first | refine blk_drewN ?_ _ | refine blk_drew ?_ | refine blk_alloc ?_ _)); exact BK195.out⟩, ⟨by repeat (first | (with_reducible first | exact HB.out | apply below_alloc | apply pw_below_drewN | apply below_drew1 | refine below_set ?_ GE194.out | refine below_set ?_ GE195.out) | exact HB.out)⟩⟩
             case round =>
              clear H'
              try clear c1
              try clear p1
              try clear q1
              try clear hx1
              try clear c2
              try clear p2
              try clear c3
              try clear c3b0
              try clear c3b1
              try clear c4
              try clear c4b0
              try clear c5
              try clear c5b0
              try clear c6
              try clear c6b0
              try clear p6
              try clear c8
              try clear c8b0
              try clear c8b1
              try clear c11
              try clear c16
              try clear c16b0
              try clear c17
              try clear c18
              try clear c18b0
              try clear c19
              try clear c19b0
              try clear p19
              try clear q19
              try clear hx19
              try clear c20
              try clear c20b0
              try clear c23
              try clear c24
              try clear hcz10_0
              try clear hcz10_1
              try clear hcz10_2
              try clear hcz10_3
              try clear hcz10_4
              try clear hcz10_5
              try clear hcz13_0
              try clear hcz13_1
              try clear hcz13_2
              try clear hcz13_3
              try clear hcz13_4
              try clear hcz13_5
              try clear hcz22_0
              try clear hcz22_1
              try clear hcz22_2
              try clear hcz22_3
              try clear hcz22_4
              try clear hcz22_5
              try clear hcz25_0
              try clear hcz25_1
              try clear hfz10_0
              try clear hfz10_1
              try clear hfz10_2
              try clear hfz10_3
              try clear hfz10_4
              try clear hfz10_5
              try clear hfz13_0
              try clear hfz13_1
              try clear hfz13_2
              try clear hfz13_3
              try clear hfz13_4
              try clear hfz13_5
              try clear hfz22_0
              try clear hfz22_1
              try clear hfz22_2
              try clear hfz22_3
              try clear hfz22_4
              try clear hfz22_5
              try clear hfz25_0
              try clear hfz25_1
              try clear hx190_0
              try clear hx190_1
              try clear hx190_2
              try clear hx190_3
              try clear hx190_4
              try clear hx190_5
              try clear hx193_0
              try clear hx193_1
              try clear hx193_2
              try clear hx193_3
              try clear hx193_4
              try clear hx193_5
              try clear p1
              try clear p190
              try clear p193
              try clear p2
              try clear p6
              try clear q1
              try clear q190
              try clear q193
              obtain ⟨x49_4, x196000_4, x196001_4, rfl, HA, HK4, HO_9, BK194, BK195, HB⟩ := hrel
              cases gk with
              | zero => exact absurd HA.out (by simp [steer_Apart.l2])
              | succ k4 =>
               have H := HA.out
               clear HA
               simp only [steer_Apart.l2] at H
               by_cases c26 : x49_4 < (l0.length : Int)
               ·rw [if_pos c26] at H
                have c26b0 : decide (x49_4 < (l0.length : Int)) = true := decide_eq_true c26
                clear c26
                by_cases c27 : 0 ≤ x49_4
                ·rw [if_pos c27] at H
                 have c27b0 : decide (0 ≤ x49_4) = true := decide_eq_true c27
                 clear c27
                 by_cases c28 : x49_4 < (l0.length : Int)
                 ·rw [if_pos c28] at H
                  have c28b0 : decide (x49_4 < (l0.length : Int)) = true := decide_eq_true c28
                  clear c28
                  replace H := Option.bind_eq_some_iff.mp H
                  obtain ⟨⟨t207, t208⟩, A290, H⟩ := H
                  replace H : ((vec_Len.f k4 t207 t208).bind fun t210 => (if x49_4 = x40_3 then (steer_Apart.j4 k4 l0 a1 x9_3 x40_3 t210 l0 (l0.length : Int) x40_3 l0 (l0.length : Int) x49_4 false ((rd_T29 l0 x40_3).f0.f0) ((rd_T29 l0 x40_3).f0.f1) ((rd_T29 l0 x40_3).f1.f0) ((rd_T29 l0 x40_3).f1.f1) ((rd_T29 l0 x40_3).f2) ((rd_T29 l0 x40_3).f3) x196000_4 x196001_4 t207 t208) else (if t210 > 0 then (steer_Apart.j4 k4 l0 a1 x9_3 x40_3 t210 l0 (l0.length : Int) x40_3 l0 (l0.length : Int) x49_4 (decide (t210 < a1)) ((rd_T29 l0 x40_3).f0.f0) ((rd_T29 l0 x40_3).f0.f1) ((rd_T29 l0 x40_3).f1.f0) ((rd_T29 l0 x40_3).f1.f1) ((rd_T29 l0 x40_3).f2) ((rd_T29 l0 x40_3).f3) x196000_4 x196001_4 t207 t208) else (steer_Apart.j4 k4 l0 a1 x9_3 x40_3 t210 l0 (l0.length : Int) x40_3 l0 (l0.length : Int) x49_4 false ((rd_T29 l0 x40_3).f0.f0) ((rd_T29 l0 x40_3).f0.f1) ((rd_T29 l0 x40_3).f1.f0) ((rd_T29 l0 x40_3).f1.f1) ((rd_T29 l0 x40_3).f2) ((rd_T29 l0 x40_3).f3) x196000_4 x196001_4 t207 t208)))) = some (r1, r2) := H
                  have A29 := Aside0.mk A290
                  clear A290
                  replace H := Option.bind_eq_some_iff.mp H
                  obtain ⟨t210, A300, H⟩ := H
                  replace H : (if x49_4 = x40_3 then (steer_Apart.j4 k4 l0 a1 x9_3 x40_3 t210 l0 (l0.length : Int) x40_3 l0 (l0.length : Int) x49_4 false ((rd_T29 l0 x40_3).f0.f0) ((rd_T29 l0 x40_3).f0.f1) ((rd_T29 l0 x40_3).f1.f0) ((rd_T29 l0 x40_3).f1.f1) ((rd_T29 l0 x40_3).f2) ((rd_T29 l0 x40_3).f3) x196000_4 x196001_4 t207 t208) else (if t210 > 0 then (steer_Apart.j4 k4 l0 a1 x9_3 x40_3 t210 l0 (l0.length : Int) x40_3 l0 (l0.length : Int) x49_4 (decide (t210 < a1)) ((rd_T29 l0 x40_3).f0.f0) ((rd_T29 l0 x40_3).f0.f1) ((rd_T29 l0 x40_3).f1.f0) ((rd_T29 l0 x40_3).f1.f1) ((rd_T29 l0 x40_3).f2) ((rd_T29 l0 x40_3).f3) x196000_4 x196001_4 t207 t208) else (steer_Apart.j4 k4 l0 a1 x9_3 x40_3 t210 l0 (l0.length : Int) x40_3 l0 (l0.length : Int) x49_4 false ((rd_T29 l0 x40_3).f0.f0) ((rd_T29 l0 x40_3).f0.f1) ((rd_T29 l0 x40_3).f1.f0) ((rd_T29 l0 x40_3).f1.f1) ((rd_T29 l0 x40_3).f2) ((rd_T29 l0 x40_3).f3) x196000_4 x196001_4 t207 t208))) = some (r1, r2) := H
                  have A30 := Aside0.mk A300
                  clear A300
                  have HC31 := Aside0.mk H
                  clear H
                  have p205 : 0 ≤ (x49_4 : Int) := of_decide_eq_true (by first | (with_reducible assumption) | assumption)
                  have q205 : x49_4 < (l0.length : Int) := of_decide_eq_true (by first | (with_reducible assumption) | assumption)
                  obtain ⟨ad205, e205, hx205_0, hx205_1, hx205_2, hx205_3, hx205_4, hx205_5⟩ := at_T29 HR0.out x49_4 p205 q205
                  obtain rfl : ad193 = ad205 := (by injection e205)
                  replace hx205_0 := (HB.out.cell (World.block_lt_of_cell? w _ hx205_0)).trans hx205_0
                  replace hx205_1 := (HB.out.cell (World.block_lt_of_cell? w _ hx205_1)).trans hx205_1
                  replace hx205_2 := (HB.out.cell (World.block_lt_of_cell? w _ hx205_2)).trans hx205_2
                  replace hx205_3 := (HB.out.cell (World.block_lt_of_cell? w _ hx205_3)).trans hx205_3
                  replace hx205_4 := (HB.out.cell (World.block_lt_of_cell? w _ hx205_4)).trans hx205_4
                  replace hx205_5 := (HB.out.cell (World.block_lt_of_cell? w _ hx205_5)).trans hx205_5
                  replace p205 := eq_true p205
                  replace q205 := eq_true q205
                  go_upto_region 22 with (first | ((with_reducible refine gate_dst (N := 14) rfl ?_); refine box_event ?hg (N := 14) ?hd (cs := #[.int .i64 0, .int .i64 0, .int .i64 0, .int .i64 0, .int .i64 0, .int .i64 0]) (t := 29) ?hr ?_; (case hd => rfl); (case hg => rfl); (case hr => first | (go_simp; done) | (go_simp; rfl)); intro gb206 hg w32 hbox hb; have n0_ := Aside0.mk (Kd.R_below (Kd.R_elderB (by (with_reducible repeat (first | apply Kd.R_alloc | apply Kd.R_drewN | apply Kd.R_drew)); exact HO_9.out) gb206 (Nat.le_of_eq hg.symm)) hb); have n1_ := Aside0.mk (blk_below (g := gb194) (o := .cells #[.int .i64 ((rd_T29 l0 x40_3).f0.f0), .int .i64 ((rd_T29 l0 x40_3).f0.f1), .int .i64 ((rd_T29 l0 x40_3).f1.f0), .int .i64 ((rd_T29 l0 x40_3).f1.f1), .int .i64 ((rd_T29 l0 x40_3).f2), .int .i64 ((rd_T29 l0 x40_3).f3)] 29 (0, 0)) (by (with_reducible repeat (first | refine blk_drewN ?_ _ | refine blk_drew ?_ | refine blk_alloc ?_ _)); exact BK194.out) hb); have n2_ := Aside0.mk (blk_below (g := gb195) (o := .cells #[.int .i64 x196000_4, .int .i64 x196001_4] 27 (0, 0)) (by (with_reducible repeat (first | refine blk_drewN ?_ _ | refine blk_drew ?_ | refine blk_alloc ?_ _)); exact BK195.out) hb); have n3_ := Aside0.mk (below_step (by repeat (first | (with_reducible first | exact HB.out | apply below_alloc | apply pw_below_drewN | apply below_drew1 | refine below_set ?_ GE194.out | refine below_set ?_ GE195.out) | exact HB.out)) hb); have n4_ := Aside0.mk (hbox); have n5_ := Aside0.mk ((by rw [hg]; exact (below_size (by repeat (first | (with_reducible first | exact HB.out | apply below_alloc | apply pw_below_drewN | apply below_drew1 | refine below_set ?_ GE194.out | refine below_set ?_ GE195.out) | exact HB.out))) : w.heap.size ≤ gb206)); have n6_ := Aside0.mk ((by rw [hg]; exact (below_size (by repeat (first | (with_reducible first | exact HB.out | apply below_alloc | apply pw_below_drewN | apply below_drew1 | refine below_set ?_ GE194.out | refine below_set ?_ GE195.out) | exact HB.out))) : w.heap.size ≤ gb206)); have n7_ := Aside0.mk ((by rw [hg]; exact Nat.ne_of_lt (blk_lt (g := gb194) (o := .cells #[.int .i64 ((rd_T29 l0 x40_3).f0.f0), .int .i64 ((rd_T29 l0 x40_3).f0.f1), .int .i64 ((rd_T29 l0 x40_3).f1.f0), .int .i64 ((rd_T29 l0 x40_3).f1.f1), .int .i64 ((rd_T29 l0 x40_3).f2), .int .i64 ((rd_T29 l0 x40_3).f3)] 29 (0, 0)) (by (with_reducible repeat (first | refine blk_drewN ?_ _ | refine blk_drew ?_ | refine blk_alloc ?_ _)); exact BK194.out)) : gb194 ≠ gb206)); have n8_ := Aside0.mk ((by rw [hg]; exact Nat.ne_of_gt (blk_lt (g := gb194) (o := .cells #[.int .i64 ((rd_T29 l0 x40_3).f0.f0), .int .i64 ((rd_T29 l0 x40_3).f0.f1), .int .i64 ((rd_T29 l0 x40_3).f1.f0), .int .i64 ((rd_T29 l0 x40_3).f1.f1), .int .i64 ((rd_T29 l0 x40_3).f2), .int .i64 ((rd_T29 l0 x40_3).f3)] 29 (0, 0)) (by (with_reducible repeat (first | refine blk_drewN ?_ _ | refine blk_drew ?_ | refine blk_alloc ?_ _)); exact BK194.out)) : gb206 ≠ gb194)); have n9_ := Aside0.mk ((by rw [hg]; exact Nat.ne_of_lt (blk_lt (g := gb195) (o := .cells #[.int .i64 x196000_4, .int .i64 x196001_4] 27 (0, 0)) (by (with_reducible repeat (first | refine blk_drewN ?_ _ | refine blk_drew ?_ | refine blk_alloc ?_ _)); exact BK195.out)) : gb195 ≠ gb206)); have n10_ := Aside0.mk ((by rw [hg]; exact Nat.ne_of_gt (blk_lt (g := gb195) (o := .cells #[.int .i64 x196000_4, .int .i64 x196001_4] 27 (0, 0)) (by (with_reducible repeat (first | refine blk_drewN ?_ _ | refine blk_drew ?_ | refine blk_alloc ?_ _)); exact BK195.out)) : gb206 ≠ gb195)); clear HO_9; clear BK194; clear BK195; clear HB; have HO_9 := n0_; have BK194 := n1_; have BK195 := n2_; have HB := n3_; have BK206 := n4_; have GW206 := n5_; have GE206 := n6_; have NB194_206 := n7_; have NB206_194 := n8_; have NB195_206 := n9_; have NB206_195 := n10_; clear n0_ n1_ n2_ n3_ n4_ n5_ n6_ n7_ n8_ n9_ n10_; clear hb hbox hg; have hnb33 := NB206_194.out; have hnc33 := NB194_206.out; have hnb34 := NB206_195.out; have hnc34 := NB195_206.out; have hcz35_0 : w32.cell? ⟨gb206, 0, none⟩ = some (.int .i64 0) := (blk_cell BK206.out 0).trans rfl; have hcz35_1 : w32.cell? ⟨gb206, 1, none⟩ = some (.int .i64 0) := (blk_cell BK206.out 1).trans rfl; have hcz35_2 : w32.cell? ⟨gb206, 2, none⟩ = some (.int .i64 0) := (blk_cell BK206.out 2).trans rfl; have hcz35_3 : w32.cell? ⟨gb206, 3, none⟩ = some (.int .i64 0) := (blk_cell BK206.out 3).trans rfl; have hcz35_4 : w32.cell? ⟨gb206, 4, none⟩ = some (.int .i64 0) := (blk_cell BK206.out 4).trans rfl; have hcz35_5 : w32.cell? ⟨gb206, 5, none⟩ = some (.int .i64 0) := (blk_cell BK206.out 5).trans rfl; have hfz35_0 := blk_frozen BK206.out 0; have hfz35_1 := blk_frozen BK206.out 1; have hfz35_2 := blk_frozen BK206.out 2; have hfz35_3 := blk_frozen BK206.out 3; have hfz35_4 := blk_frozen BK206.out 4; have hfz35_5 := blk_frozen BK206.out 5; have hnb36 := NB194_195.out; have hnc36 := NB195_194.out; have hcz37_0 : w32.cell? ⟨gb194, 0, none⟩ = some (.int .i64 ((rd_T29 l0 x40_3).f0.f0)) := (blk_cell BK194.out 0).trans rfl; have hcz37_1 : w32.cell? ⟨gb194, 1, none⟩ = some (.int .i64 ((rd_T29 l0 x40_3).f0.f1)) := (blk_cell BK194.out 1).trans rfl; have hcz37_2 : w32.cell? ⟨gb194, 2, none⟩ = some (.int .i64 ((rd_T29 l0 x40_3).f1.f0)) := (blk_cell BK194.out 2).trans rfl; have hcz37_3 : w32.cell? ⟨gb194, 3, none⟩ = some (.int .i64 ((rd_T29 l0 x40_3).f1.f1)) := (blk_cell BK194.out 3).trans rfl; have hcz37_4 : w32.cell? ⟨gb194, 4, none⟩ = some (.int .i64 ((rd_T29 l0 x40_3).f2)) := (blk_cell BK194.out 4).trans rfl; have hcz37_5 : w32.cell? ⟨gb194, 5, none⟩ = some (.int .i64 ((rd_T29 l0 x40_3).f3)) := (blk_cell BK194.out 5).trans rfl; have hfz37_0 := blk_frozen BK194.out 0; have hfz37_1 := blk_frozen BK194.out 1; have hfz37_2 := blk_frozen BK194.out 2; have hfz37_3 := blk_frozen BK194.out 3; have hfz37_4 := blk_frozen BK194.out 4; have hfz37_5 := blk_frozen BK194.out 5) | ((with_reducible refine gate_callee (f := 13) rfl ?_); refine goesL_ (some 58) rfl rfl Try.func13 (by kernel_rfl) rfl #[.agg #[.int .i64 ((rd_T29 l0 x40_3).f0.f0), .int .i64 ((rd_T29 l0 x40_3).f0.f1)], .agg #[.int .i64 ((rd_T29 l0 x49_4).f0.f0), .int .i64 ((rd_T29 l0 x49_4).f0.f1)]] rfl (by (try simp only [List.map_toArray, List.map_cons, List.map_nil]); first | done | rfl | (simp only [List.length_drop, List.length_take]; rfl)) ?_; (with_reducible refine (vec_Sub.calls ((rd_T29 l0 x40_3).f0.f0) ((rd_T29 l0 x40_3).f0.f1) ((rd_T29 l0 x49_4).f0.f0) ((rd_T29 l0 x49_4).f0.f1) t207 t208 _ A29.out).mono ?_); rintro e w38 ⟨rfl, hb⟩; refine ⟨_, rfl, ?_⟩; have n0_ := Aside0.mk (Kd.R_below (by (with_reducible repeat (first | apply Kd.R_alloc | apply Kd.R_drewN | apply Kd.R_drew)); exact (Kd.R_mono (Kd.R_far (p := ⟨gb206, 5, none⟩) (Kd.R_far (p := ⟨gb206, 4, none⟩) (Kd.R_far (p := ⟨gb206, 3, none⟩) (Kd.R_far (p := ⟨gb206, 2, none⟩) (Kd.R_far (p := ⟨gb206, 1, none⟩) (Kd.R_far (p := ⟨gb206, 0, none⟩) (Kd.R_mono HO_9.out (fun k_ hk => (⟨hk, hk.2⟩ : _ ∧ k_ ≠ gb206))) (fun _ hk => hk.2) (.int .i64 ((rd_T29 l0 x49_4).f0.f0))) (fun _ hk => hk.2) (.int .i64 ((rd_T29 l0 x49_4).f0.f1))) (fun _ hk => hk.2) (.int .i64 ((rd_T29 l0 x49_4).f1.f0))) (fun _ hk => hk.2) (.int .i64 ((rd_T29 l0 x49_4).f1.f1))) (fun _ hk => hk.2) (.int .i64 ((rd_T29 l0 x49_4).f2))) (fun _ hk => hk.2) (.int .i64 ((rd_T29 l0 x49_4).f3))) (fun _ h_ => h_.1))) hb); have n1_ := Aside0.mk (blk_below (g := gb194) (o := .cells #[.int .i64 ((rd_T29 l0 x40_3).f0.f0), .int .i64 ((rd_T29 l0 x40_3).f0.f1), .int .i64 ((rd_T29 l0 x40_3).f1.f0), .int .i64 ((rd_T29 l0 x40_3).f1.f1), .int .i64 ((rd_T29 l0 x40_3).f2), .int .i64 ((rd_T29 l0 x40_3).f3)] 29 (0, 0)) (by (with_reducible repeat (first | refine blk_drewN ?_ _ | refine blk_drew ?_ | refine blk_alloc ?_ _)); refine blk_far ?_ NB194_206.out _; (with_reducible repeat (first | refine blk_drewN ?_ _ | refine blk_drew ?_ | refine blk_alloc ?_ _)); refine blk_far ?_ NB194_206.out _; (with_reducible repeat (first | refine blk_drewN ?_ _ | refine blk_drew ?_ | refine blk_alloc ?_ _)); refine blk_far ?_ NB194_206.out _; (with_reducible repeat (first | refine blk_drewN ?_ _ | refine blk_drew ?_ | refine blk_alloc ?_ _)); refine blk_far ?_ NB194_206.out _; (with_reducible repeat (first | refine blk_drewN ?_ _ | refine blk_drew ?_ | refine blk_alloc ?_ _)); refine blk_far ?_ NB194_206.out _; (with_reducible repeat (first | refine blk_drewN ?_ _ | refine blk_drew ?_ | refine blk_alloc ?_ _)); refine blk_far ?_ NB194_206.out _; (with_reducible repeat (first | refine blk_drewN ?_ _ | refine blk_drew ?_ | refine blk_alloc ?_ _)); exact BK194.out) hb); have n2_ := Aside0.mk (blk_below (g := gb195) (o := .cells #[.int .i64 x196000_4, .int .i64 x196001_4] 27 (0, 0)) (by (with_reducible repeat (first | refine blk_drewN ?_ _ | refine blk_drew ?_ | refine blk_alloc ?_ _)); refine blk_far ?_ NB195_206.out _; (with_reducible repeat (first | refine blk_drewN ?_ _ | refine blk_drew ?_ | refine blk_alloc ?_ _)); refine blk_far ?_ NB195_206.out _; (with_reducible repeat (first | refine blk_drewN ?_ _ | refine blk_drew ?_ | refine blk_alloc ?_ _)); refine blk_far ?_ NB195_206.out _; (with_reducible repeat (first | refine blk_drewN ?_ _ | refine blk_drew ?_ | refine blk_alloc ?_ _)); refine blk_far ?_ NB195_206.out _; (with_reducible repeat (first | refine blk_drewN ?_ _ | refine blk_drew ?_ | refine blk_alloc ?_ _)); refine blk_far ?_ NB195_206.out _; (with_reducible repeat (first | refine blk_drewN ?_ _ | refine blk_drew ?_ | refine blk_alloc ?_ _)); refine blk_far ?_ NB195_206.out _; (with_reducible repeat (first | refine blk_drewN ?_ _ | refine blk_drew ?_ | refine blk_alloc ?_ _)); exact BK195.out) hb); have n3_ := Aside0.mk (blk_below (g := gb206) (o := .cells #[.int .i64 ((rd_T29 l0 x49_4).f0.f0), .int .i64 ((rd_T29 l0 x49_4).f0.f1), .int .i64 ((rd_T29 l0 x49_4).f1.f0), .int .i64 ((rd_T29 l0 x49_4).f1.f1), .int .i64 ((rd_T29 l0 x49_4).f2), .int .i64 ((rd_T29 l0 x49_4).f3)] 29 (0, 0)) (by (with_reducible repeat (first | refine blk_drewN ?_ _ | refine blk_drew ?_ | refine blk_alloc ?_ _)); refine blk_put (cs := #[.int .i64 ((rd_T29 l0 x49_4).f0.f0), .int .i64 ((rd_T29 l0 x49_4).f0.f1), .int .i64 ((rd_T29 l0 x49_4).f1.f0), .int .i64 ((rd_T29 l0 x49_4).f1.f1), .int .i64 ((rd_T29 l0 x49_4).f2), .int .i64 0]) ?_ 5 _ rfl; (with_reducible repeat (first | refine blk_drewN ?_ _ | refine blk_drew ?_ | refine blk_alloc ?_ _)); refine blk_put (cs := #[.int .i64 ((rd_T29 l0 x49_4).f0.f0), .int .i64 ((rd_T29 l0 x49_4).f0.f1), .int .i64 ((rd_T29 l0 x49_4).f1.f0), .int .i64 ((rd_T29 l0 x49_4).f1.f1), .int .i64 0, .int .i64 0]) ?_ 4 _ rfl; (with_reducible repeat (first | refine blk_drewN ?_ _ | refine blk_drew ?_ | refine blk_alloc ?_ _)); refine blk_put (cs := #[.int .i64 ((rd_T29 l0 x49_4).f0.f0), .int .i64 ((rd_T29 l0 x49_4).f0.f1), .int .i64 ((rd_T29 l0 x49_4).f1.f0), .int .i64 0, .int .i64 0, .int .i64 0]) ?_ 3 _ rfl; (with_reducible repeat (first | refine blk_drewN ?_ _ | refine blk_drew ?_ | refine blk_alloc ?_ _)); refine blk_put (cs := #[.int .i64 ((rd_T29 l0 x49_4).f0.f0), .int .i64 ((rd_T29 l0 x49_4).f0.f1), .int .i64 0, .int .i64 0, .int .i64 0, .int .i64 0]) ?_ 2 _ rfl; (with_reducible repeat (first | refine blk_drewN ?_ _ | refine blk_drew ?_ | refine blk_alloc ?_ _)); refine blk_put (cs := #[.int .i64 ((rd_T29 l0 x49_4).f0.f0), .int .i64 0, .int .i64 0, .int .i64 0, .int .i64 0, .int .i64 0]) ?_ 1 _ rfl; (with_reducible repeat (first | refine blk_drewN ?_ _ | refine blk_drew ?_ | refine blk_alloc ?_ _)); refine blk_put (cs := #[.int .i64 0, .int .i64 0, .int .i64 0, .int .i64 0, .int .i64 0, .int .i64 0]) ?_ 0 _ rfl; (with_reducible repeat (first | refine blk_drewN ?_ _ | refine blk_drew ?_ | refine blk_alloc ?_ _)); exact BK206.out) hb); have n4_ := Aside0.mk (below_step (by repeat (first | (with_reducible first | exact HB.out | apply below_alloc | apply pw_below_drewN | apply below_drew1 | refine below_set ?_ GE194.out | refine below_set ?_ GE195.out | refine below_set ?_ GE206.out) | exact HB.out)) hb); clear HO_9; clear BK194; clear BK195; clear BK206; clear HB; have HO_9 := n0_; have BK194 := n1_; have BK195 := n2_; have BK206 := n3_; have HB := n4_; clear n0_ n1_ n2_ n3_ n4_; (try clear hb); (try clear hb2); (try clear hk); (try clear hi)) | ((with_reducible refine gate_dst (N := 15) rfl ?_); refine box_event ?hg (N := 15) ?hd (cs := #[.int .i64 0, .int .i64 0]) (t := 27) ?hr ?_; (case hd => rfl); (case hg => rfl); (case hr => first | (go_simp; done) | (go_simp; rfl)); intro gb209 hg w39 hbox hb; have n0_ := Aside0.mk (Kd.R_below (by (with_reducible repeat (first | apply Kd.R_alloc | apply Kd.R_drewN | apply Kd.R_drew)); exact HO_9.out) hb); have n1_ := Aside0.mk (blk_below (g := gb194) (o := .cells #[.int .i64 ((rd_T29 l0 x40_3).f0.f0), .int .i64 ((rd_T29 l0 x40_3).f0.f1), .int .i64 ((rd_T29 l0 x40_3).f1.f0), .int .i64 ((rd_T29 l0 x40_3).f1.f1), .int .i64 ((rd_T29 l0 x40_3).f2), .int .i64 ((rd_T29 l0 x40_3).f3)] 29 (0, 0)) (by (with_reducible repeat (first | refine blk_drewN ?_ _ | refine blk_drew ?_ | refine blk_alloc ?_ _)); exact BK194.out) hb); have n2_ := Aside0.mk (blk_below (g := gb195) (o := .cells #[.int .i64 x196000_4, .int .i64 x196001_4] 27 (0, 0)) (by (with_reducible repeat (first | refine blk_drewN ?_ _ | refine blk_drew ?_ | refine blk_alloc ?_ _)); exact BK195.out) hb); have n3_ := Aside0.mk (blk_below (g := gb206) (o := .cells #[.int .i64 ((rd_T29 l0 x49_4).f0.f0), .int .i64 ((rd_T29 l0 x49_4).f0.f1), .int .i64 ((rd_T29 l0 x49_4).f1.f0), .int .i64 ((rd_T29 l0 x49_4).f1.f1), .int .i64 ((rd_T29 l0 x49_4).f2), .int .i64 ((rd_T29 l0 x49_4).f3)] 29 (0, 0)) (by (with_reducible repeat (first | refine blk_drewN ?_ _ | refine blk_drew ?_ | refine blk_alloc ?_ _)); exact BK206.out) hb); have n4_ := Aside0.mk (below_step (by repeat (first | (with_reducible first | exact HB.out | apply below_alloc | apply pw_below_drewN | apply below_drew1 | refine below_set ?_ GE194.out | refine below_set ?_ GE195.out | refine below_set ?_ GE206.out) | exact HB.out)) hb); have n5_ := Aside0.mk (hbox); have n6_ := Aside0.mk ((by rw [hg]; exact (below_size (by repeat (first | (with_reducible first | exact HB.out | apply below_alloc | apply pw_below_drewN | apply below_drew1 | refine below_set ?_ GE194.out | refine below_set ?_ GE195.out | refine below_set ?_ GE206.out) | exact HB.out))) : w.heap.size ≤ gb209)); have n7_ := Aside0.mk ((by rw [hg]; exact (below_size (by repeat (first | (with_reducible first | exact HB.out | apply below_alloc | apply pw_below_drewN | apply below_drew1 | refine below_set ?_ GE194.out | refine below_set ?_ GE195.out | refine below_set ?_ GE206.out) | exact HB.out))) : w.heap.size ≤ gb209)); have n8_ := Aside0.mk ((by rw [hg]; exact Nat.ne_of_lt (blk_lt (g := gb194) (o := .cells #[.int .i64 ((rd_T29 l0 x40_3).f0.f0), .int .i64 ((rd_T29 l0 x40_3).f0.f1), .int .i64 ((rd_T29 l0 x40_3).f1.f0), .int .i64 ((rd_T29 l0 x40_3).f1.f1), .int .i64 ((rd_T29 l0 x40_3).f2), .int .i64 ((rd_T29 l0 x40_3).f3)] 29 (0, 0)) (by (with_reducible repeat (first | refine blk_drewN ?_ _ | refine blk_drew ?_ | refine blk_alloc ?_ _)); exact BK194.out)) : gb194 ≠ gb209)); have n9_ := Aside0.mk ((by rw [hg]; exact Nat.ne_of_gt (blk_lt (g := gb194) (o := .cells #[.int .i64 ((rd_T29 l0 x40_3).f0.f0), .int .i64 ((rd_T29 l0 x40_3).f0.f1), .int .i64 ((rd_T29 l0 x40_3).f1.f0), .int .i64 ((rd_T29 l0 x40_3).f1.f1), .int .i64 ((rd_T29 l0 x40_3).f2), .int .i64 ((rd_T29 l0 x40_3).f3)] 29 (0, 0)) (by (with_reducible repeat (first | refine blk_drewN ?_ _ | refine blk_drew ?_ | refine blk_alloc ?_ _)); exact BK194.out)) : gb209 ≠ gb194)); have n10_ := Aside0.mk ((by rw [hg]; exact Nat.ne_of_lt (blk_lt (g := gb195) (o := .cells #[.int .i64 x196000_4, .int .i64 x196001_4] 27 (0, 0)) (by (with_reducible repeat (first | refine blk_drewN ?_ _ | refine blk_drew ?_ | refine blk_alloc ?_ _)); exact BK195.out)) : gb195 ≠ gb209)); have n11_ := Aside0.mk ((by rw [hg]; exact Nat.ne_of_gt (blk_lt (g := gb195) (o := .cells #[.int .i64 x196000_4, .int .i64 x196001_4] 27 (0, 0)) (by (with_reducible repeat (first | refine blk_drewN ?_ _ | refine blk_drew ?_ | refine blk_alloc ?_ _)); exact BK195.out)) : gb209 ≠ gb195)); have n12_ := Aside0.mk ((by rw [hg]; exact Nat.ne_of_lt (blk_lt (g := gb206) (o := .cells #[.int .i64 ((rd_T29 l0 x49_4).f0.f0), .int .i64 ((rd_T29 l0 x49_4).f0.f1), .int .i64 ((rd_T29 l0 x49_4).f1.f0), .int .i64 ((rd_T29 l0 x49_4).f1.f1), .int .i64 ((rd_T29 l0 x49_4).f2), .int .i64 ((rd_T29 l0 x49_4).f3)] 29 (0, 0)) (by (with_reducible repeat (first | refine blk_drewN ?_ _ | refine blk_drew ?_ | refine blk_alloc ?_ _)); exact BK206.out)) : gb206 ≠ gb209)); have n13_ := Aside0.mk ((by rw [hg]; exact Nat.ne_of_gt (blk_lt (g := gb206) (o := .cells #[.int .i64 ((rd_T29 l0 x49_4).f0.f0), .int .i64 ((rd_T29 l0 x49_4).f0.f1), .int .i64 ((rd_T29 l0 x49_4).f1.f0), .int .i64 ((rd_T29 l0 x49_4).f1.f1), .int .i64 ((rd_T29 l0 x49_4).f2), .int .i64 ((rd_T29 l0 x49_4).f3)] 29 (0, 0)) (by (with_reducible repeat (first | refine blk_drewN ?_ _ | refine blk_drew ?_ | refine blk_alloc ?_ _)); exact BK206.out)) : gb209 ≠ gb206)); clear HO_9; clear BK194; clear BK195; clear BK206; clear HB; have HO_9 := n0_; have BK194 := n1_; have BK195 := n2_; have BK206 := n3_; have HB := n4_; have BK209 := n5_; have GW209 := n6_; have GE209 := n7_; have NB194_209 := n8_; have NB209_194 := n9_; have NB195_209 := n10_; have NB209_195 := n11_; have NB206_209 := n12_; have NB209_206 := n13_; clear n0_ n1_ n2_ n3_ n4_ n5_ n6_ n7_ n8_ n9_ n10_ n11_ n12_ n13_; clear hb hbox hg; have hnb40 := NB209_194.out; have hnc40 := NB194_209.out; have hnb41 := NB209_195.out; have hnc41 := NB195_209.out; have hnb42 := NB209_206.out; have hnc42 := NB206_209.out; have hcz43_0 : w39.cell? ⟨gb209, 0, none⟩ = some (.int .i64 0) := (blk_cell BK209.out 0).trans rfl; have hcz43_1 : w39.cell? ⟨gb209, 1, none⟩ = some (.int .i64 0) := (blk_cell BK209.out 1).trans rfl; have hfz43_0 := blk_frozen BK209.out 0; have hfz43_1 := blk_frozen BK209.out 1) | ((with_reducible refine gate_callee (f := 14) rfl ?_); refine goesL_ (some 60) rfl rfl Try.func14 (by kernel_rfl) rfl #[.agg #[.int .i64 t207, .int .i64 t208]] rfl (by (try simp only [List.map_toArray, List.map_cons, List.map_nil]); first | done | rfl | (simp only [List.length_drop, List.length_take]; rfl)) ?_; (with_reducible refine (vec_Len.calls k4 t207 t208 t210 _ A30.out).mono ?_); rintro e w44 ⟨rfl, hb⟩; refine ⟨_, rfl, ?_⟩; have n0_ := Aside0.mk (Kd.R_below (by (with_reducible repeat (first | apply Kd.R_alloc | apply Kd.R_drewN | apply Kd.R_drew)); exact (Kd.R_mono (Kd.R_far (p := ⟨gb209, 1, none⟩) (Kd.R_far (p := ⟨gb209, 0, none⟩) (Kd.R_types HO_9.out BK209.out (by decide)) (fun _ hk => hk.2) (.int .i64 t207)) (fun _ hk => hk.2) (.int .i64 t208)) (fun _ h_ => h_.1))) hb); have n1_ := Aside0.mk (blk_below (g := gb194) (o := .cells #[.int .i64 ((rd_T29 l0 x40_3).f0.f0), .int .i64 ((rd_T29 l0 x40_3).f0.f1), .int .i64 ((rd_T29 l0 x40_3).f1.f0), .int .i64 ((rd_T29 l0 x40_3).f1.f1), .int .i64 ((rd_T29 l0 x40_3).f2), .int .i64 ((rd_T29 l0 x40_3).f3)] 29 (0, 0)) (by (with_reducible repeat (first | refine blk_drewN ?_ _ | refine blk_drew ?_ | refine blk_alloc ?_ _)); refine blk_far ?_ NB194_209.out _; (with_reducible repeat (first | refine blk_drewN ?_ _ | refine blk_drew ?_ | refine blk_alloc ?_ _)); refine blk_far ?_ NB194_209.out _; (with_reducible repeat (first | refine blk_drewN ?_ _ | refine blk_drew ?_ | refine blk_alloc ?_ _)); exact BK194.out) hb); have n2_ := Aside0.mk (blk_below (g := gb195) (o := .cells #[.int .i64 x196000_4, .int .i64 x196001_4] 27 (0, 0)) (by (with_reducible repeat (first | refine blk_drewN ?_ _ | refine blk_drew ?_ | refine blk_alloc ?_ _)); refine blk_far ?_ NB195_209.out _; (with_reducible repeat (first | refine blk_drewN ?_ _ | refine blk_drew ?_ | refine blk_alloc ?_ _)); refine blk_far ?_ NB195_209.out _; (with_reducible repeat (first | refine blk_drewN ?_ _ | refine blk_drew ?_ | refine blk_alloc ?_ _)); exact BK195.out) hb); have n3_ := Aside0.mk (blk_below (g := gb206) (o := .cells #[.int .i64 ((rd_T29 l0 x49_4).f0.f0), .int .i64 ((rd_T29 l0 x49_4).f0.f1), .int .i64 ((rd_T29 l0 x49_4).f1.f0), .int .i64 ((rd_T29 l0 x49_4).f1.f1), .int .i64 ((rd_T29 l0 x49_4).f2), .int .i64 ((rd_T29 l0 x49_4).f3)] 29 (0, 0)) (by (with_reducible repeat (first | refine blk_drewN ?_ _ | refine blk_drew ?_ | refine blk_alloc ?_ _)); refine blk_far ?_ NB206_209.out _; (with_reducible repeat (first | refine blk_drewN ?_ _ | refine blk_drew ?_ | refine blk_alloc ?_ _)); refine blk_far ?_ NB206_209.out _; (with_reducible repeat (first | refine blk_drewN ?_ _ | refine blk_drew ?_ | refine blk_alloc ?_ _)); exact BK206.out) hb); have n4_ := Aside0.mk (blk_below (g := gb209) (o := .cells #[.int .i64 t207, .int .i64 t208] 27 (0, 0)) (by (with_reducible repeat (first | refine blk_drewN ?_ _ | refine blk_drew ?_ | refine blk_alloc ?_ _)); refine blk_put (cs := #[.int .i64 t207, .int .i64 0]) ?_ 1 _ rfl; (with_reducible repeat (first | refine blk_drewN ?_ _ | refine blk_drew ?_ | refine blk_alloc ?_ _)); refine blk_put (cs := #[.int .i64 0, .int .i64 0]) ?_ 0 _ rfl; (with_reducible repeat (first | refine blk_drewN ?_ _ | refine blk_drew ?_ | refine blk_alloc ?_ _)); exact BK209.out) hb); have n5_ := Aside0.mk (below_step (by repeat (first | (with_reducible first | exact HB.out | apply below_alloc | apply pw_below_drewN | apply below_drew1 | refine below_set ?_ GE194.out | refine below_set ?_ GE195.out | refine below_set ?_ GE206.out | refine below_set ?_ GE209.out) | exact HB.out)) hb); clear HO_9; clear BK194; clear BK195; clear BK206; clear BK209; clear HB; have HO_9 := n0_; have BK194 := n1_; have BK195 := n2_; have BK206 := n3_; have BK209 := n4_; have HB := n5_; clear n0_ n1_ n2_ n3_ n4_ n5_; (try clear hb); (try clear hb2); (try clear hk); (try clear hi)))
                  (try simp only [Act.put, List.setIfInBounds_toArray, List.set_cons_zero, List.set_cons_succ])
                  go_cut [72] (fun v72 wc => ∃ (kq : Nat) (x72_30 : Bool), v72 = .bool x72_30 ∧ Aside0 (steer_Apart.j4 kq l0 a1 x9_3 x40_3 t210 l0 (l0.length : Int) x40_3 l0 (l0.length : Int) x49_4 x72_30 ((rd_T29 l0 x40_3).f0.f0) ((rd_T29 l0 x40_3).f0.f1) ((rd_T29 l0 x40_3).f1.f0) ((rd_T29 l0 x40_3).f1.f1) ((rd_T29 l0 x40_3).f2) ((rd_T29 l0 x40_3).f3) x196000_4 x196001_4 t207 t208 = some (r1, r2)) ∧ Aside0 (kq ≤ k4) ∧ Aside0 (Kd.R k29 29 wc w.heap.size (fun k_ => k_ ≠ gb194 ∧ k_ ≠ gb206) u9 x9_3) ∧ Aside0 (wc.heap[gb194]? = some (.cells #[.int .i64 ((rd_T29 l0 x40_3).f0.f0), .int .i64 ((rd_T29 l0 x40_3).f0.f1), .int .i64 ((rd_T29 l0 x40_3).f1.f0), .int .i64 ((rd_T29 l0 x40_3).f1.f1), .int .i64 ((rd_T29 l0 x40_3).f2), .int .i64 ((rd_T29 l0 x40_3).f3)] 29 (0, 0))) ∧ Aside0 (wc.heap[gb195]? = some (.cells #[.int .i64 x196000_4, .int .i64 x196001_4] 27 (0, 0))) ∧ Aside0 (wc.heap[gb206]? = some (.cells #[.int .i64 ((rd_T29 l0 x49_4).f0.f0), .int .i64 ((rd_T29 l0 x49_4).f0.f1), .int .i64 ((rd_T29 l0 x49_4).f1.f0), .int .i64 ((rd_T29 l0 x49_4).f1.f1), .int .i64 ((rd_T29 l0 x49_4).f2), .int .i64 ((rd_T29 l0 x49_4).f3)] 29 (0, 0))) ∧ Aside0 (wc.heap[gb209]? = some (.cells #[.int .i64 t207, .int .i64 t208] 27 (0, 0))) ∧ Aside0 (Below w.heap.size w wc))
                  case first =>
                   have H := HC31.out
                   clear HC31
                   by_cases c45 : x49_4 = x40_3
                   ·rw [if_pos c45] at H
                    have c45b0 : (x49_4 == x40_3) = true := beq_iff_eq.mpr c45
                    have c45b1 : (x49_4 != x40_3) = false := bne_eq_false_iff_eq.mpr c45
                    clear c45
                    (first | rw [c45b0] | (simp only [i64_w, i32_w]; rw [c45b0]) | skip)
                    have H' := Aside0.mk H
                    clear H
                    go_wp2
                    go_meet
                    case rel => exact ⟨_, (false), (by first | rfl | (simp; done) | (simp [*]; done)), H', ⟨by have := HK1.out; have := HJ14.out; have := HK3.out; have := HK4.out; first | omega | exact Nat.le_refl _⟩, ⟨by (with_reducible repeat (first | apply Kd.R_alloc | apply Kd.R_drewN | apply Kd.R_drew)); exact HO_9.out⟩, ⟨by (with_reducible repeat (first | refine blk_drewN ?_ _ | refine blk_drew ?_ | refine blk_alloc ?_ _)); exact BK194.out⟩, ⟨by (with_reducible repeat (first | refine blk_drewN ?_ _ | refine blk_drew ?_ | refine blk_alloc ?_ _)); exact BK195.out⟩, ⟨by (with_reducible repeat (first | refine blk_drewN ?_ _ | refine blk_drew ?_ | refine blk_alloc ?_ _)); exact BK206.out⟩, ⟨by (with_reducible repeat (first | refine blk_drewN ?_ _ | refine blk_drew ?_ | refine blk_alloc ?_ _)); exact BK209.out⟩, ⟨by repeat (first | (with_reducible first | exact HB.out | apply below_alloc | apply pw_below_drewN | apply below_drew1 | refine below_set ?_ GE194.out | refine below_set ?_ GE195.out | refine below_set ?_ GE206.out | refine below_set ?_ GE209.out) | exact HB.out)⟩⟩
                   ·rw [if_neg c45] at H
                    have c45b0 : (x49_4 == x40_3) = false := beq_eq_false_iff_ne.mpr c45
                    have c45b1 : (x49_4 != x40_3) = true := bne_iff_ne.mpr c45
                    (first | rw [c45b0] | (simp only [i64_w, i32_w]; rw [c45b0]) | skip)
                    by_cases c46 : t210 > 0
                    ·rw [if_pos c46] at H
                     have c46b0 : decide (0 < t210) = true := decide_eq_true c46
                     clear c46
                     have H' := Aside0.mk H
                     clear H
                     go_wp2
                     go_meet
                     case rel => exact ⟨_, (decide (t210 < a1)), (by first | rfl | (simp; done) | (simp [*]; done)), H', ⟨by have := HK1.out; have := HJ14.out; have := HK3.out; have := HK4.out; first | omega | exact Nat.le_refl _⟩, ⟨by (with_reducible repeat (first | apply Kd.R_alloc | apply Kd.R_drewN | apply Kd.R_drew)); exact HO_9.out⟩, ⟨by (with_reducible repeat (first | refine blk_drewN ?_ _ | refine blk_drew ?_ | refine blk_alloc ?_ _)); exact BK194.out⟩, ⟨by (with_reducible repeat (first | refine blk_drewN ?_ _ | refine blk_drew ?_ | refine blk_alloc ?_ _)); exact BK195.out⟩, ⟨by (with_reducible repeat (first | refine blk_drewN ?_ _ | refine blk_drew ?_ | refine blk_alloc ?_ _)); exact BK206.out⟩, ⟨by (with_reducible repeat (first | refine blk_drewN ?_ _ | refine blk_drew ?_ | refine blk_alloc ?_ _)); exact BK209.out⟩, ⟨by repeat (first | (with_reducible first | exact HB.out | apply below_alloc | apply pw_below_drewN | apply below_drew1 | refine below_set ?_ GE194.out | refine below_set ?_ GE195.out | refine below_set ?_ GE206.out | refine below_set ?_ GE209.out) | exact HB.out)⟩⟩
                    ·rw [if_neg c46] at H
                     have c46b0 : decide (0 < t210) = false := decide_eq_false c46
                     clear c46
                     have H' := Aside0.mk H
                     clear H
                     go_wp2
                     go_meet
                     case rel => exact ⟨_, (false), (by first | rfl | (simp; done) | (simp [*]; done)), H', ⟨by have := HK1.out; have := HJ14.out; have := HK3.out; have := HK4.out; first | omega | exact Nat.le_refl _⟩, ⟨by (with_reducible repeat (first | apply Kd.R_alloc | apply Kd.R_drewN | apply Kd.R_drew)); exact HO_9.out⟩, ⟨by (with_reducible repeat (first | refine blk_drewN ?_ _ | refine blk_drew ?_ | refine blk_alloc ?_ _)); exact BK194.out⟩, ⟨by (with_reducible repeat (first | refine blk_drewN ?_ _ | refine blk_drew ?_ | refine blk_alloc ?_ _)); exact BK195.out⟩, ⟨by (with_reducible repeat (first | refine blk_drewN ?_ _ | refine blk_drew ?_ | refine blk_alloc ?_ _)); exact BK206.out⟩, ⟨by (with_reducible repeat (first | refine blk_drewN ?_ _ | refine blk_drew ?_ | refine blk_alloc ?_ _)); exact BK209.out⟩, ⟨by repeat (first | (with_reducible first | exact HB.out | apply below_alloc | apply pw_below_drewN | apply below_drew1 | refine below_set ?_ GE194.out | refine below_set ?_ GE195.out | refine below_set ?_ GE206.out | refine below_set ?_ GE209.out) | exact HB.out)⟩⟩
                  case rest =>
                   clear HC31
                   try clear c1
                   try clear p1
                   try clear q1
                   try clear hx1
                   try clear c2
                   try clear p2
                   try clear q2
                   try clear hx2
                   try clear c3
                   try clear c3b0
                   try clear c3b1
                   try clear c4
                   try clear c4b0
                   try clear c5
                   try clear c5b0
                   try clear c6
                   try clear c6b0
                   try clear p6
                   try clear c8
                   try clear c8b0
                   try clear c8b1
                   try clear c11
                   try clear c13
                   try clear c14
                   try clear c16
                   try clear c16b0
                   try clear c17
                   try clear c18
                   try clear c18b0
                   try clear c19
                   try clear c19b0
                   try clear p19
                   try clear q19
                   try clear hx19
                   try clear c20
                   try clear c20b0
                   try clear p20
                   try clear q20
                   try clear hx20
                   try clear c23
                   try clear c24
                   try clear c26
                   try clear c26b0
                   try clear c27
                   try clear c27b0
                   try clear c28
                   try clear c28b0
                   try clear c33
                   try clear c34
                   try clear c36
                   try clear c40
                   try clear c41
                   try clear c42
                   try clear c45
                   try clear c45b0
                   try clear c45b1
                   try clear c46
                   try clear c46b0
                   try clear hcz10_0
                   try clear hcz10_1
                   try clear hcz10_2
                   try clear hcz10_3
                   try clear hcz10_4
                   try clear hcz10_5
                   try clear hcz13_0
                   try clear hcz13_1
                   try clear hcz13_2
                   try clear hcz13_3
                   try clear hcz13_4
                   try clear hcz13_5
                   try clear hcz22_0
                   try clear hcz22_1
                   try clear hcz22_2
                   try clear hcz22_3
                   try clear hcz22_4
                   try clear hcz22_5
                   try clear hcz25_0
                   try clear hcz25_1
                   try clear hcz35_0
                   try clear hcz35_1
                   try clear hcz35_2
                   try clear hcz35_3
                   try clear hcz35_4
                   try clear hcz35_5
                   try clear hcz37_0
                   try clear hcz37_1
                   try clear hcz37_2
                   try clear hcz37_3
                   try clear hcz37_4
                   try clear hcz37_5
                   try clear hcz43_0
                   try clear hcz43_1
                   try clear hfz10_0
                   try clear hfz10_1
                   try clear hfz10_2
                   try clear hfz10_3
                   try clear hfz10_4
                   try clear hfz10_5
                   try clear hfz13_0
                   try clear hfz13_1
                   try clear hfz13_2
                   try clear hfz13_3
                   try clear hfz13_4
                   try clear hfz13_5
                   try clear hfz22_0
                   try clear hfz22_1
                   try clear hfz22_2
                   try clear hfz22_3
                   try clear hfz22_4
                   try clear hfz22_5
                   try clear hfz25_0
                   try clear hfz25_1
                   try clear hfz35_0
                   try clear hfz35_1
                   try clear hfz35_2
                   try clear hfz35_3
                   try clear hfz35_4
                   try clear hfz35_5
                   try clear hfz37_0
                   try clear hfz37_1
                   try clear hfz37_2
                   try clear hfz37_3
                   try clear hfz37_4
                   try clear hfz37_5
                   try clear hfz43_0
                   try clear hfz43_1
                   try clear hx190_0
                   try clear hx190_1
                   try clear hx190_2
                   try clear hx190_3
                   try clear hx190_4
                   try clear hx190_5
                   try clear hx193_0
                   try clear hx193_1
                   try clear hx193_2
                   try clear hx193_3
                   try clear hx193_4
                   try clear hx193_5
                   try clear hx205_0
                   try clear hx205_1
                   try clear hx205_2
                   try clear hx205_3
                   try clear hx205_4
                   try clear hx205_5
                   try clear p1
                   try clear p19
                   try clear p190
                   try clear p193
                   try clear p2
                   try clear p205
                   try clear p6
                   try clear q1
                   try clear q19
                   try clear q190
                   try clear q193
                   try clear q205
                   obtain ⟨kq, x72_30, rfl, HA, HJ30, HO_9, BK194, BK195, BK206, BK209, HB⟩ := hcut
                   cases kq with
                   | zero => exact absurd HA.out (by simp [steer_Apart.j4])
                   | succ kj30 =>
                    have H := HA.out
                    clear HA
                    simp only [steer_Apart.j4] at H
                    by_cases c47 : x72_30 = true
                    ·subst c47
                     have H1 : ((vec_Unit.f kj30 t207 t208).bind fun bt211 => ((fix_MulDiv.f kj30 ((rd_T29 l0 x40_3).f2) (wrap64 (a1 - t210)) a1).bind fun t213 => ((vec_Scale.f kj30 bt211.1 bt211.2 t213).bind fun bt214 => ((vec_Add.f x196000_4 x196001_4 bt214.1 bt214.2).bind fun bt216 => (steer_Apart.l2 kj30 l0 a1 x9_3 x40_3 l0 (l0.length : Int) x40_3 l0 (l0.length : Int) (wrap64 (x49_4 + 1)) ((rd_T29 l0 x40_3).f0.f0) ((rd_T29 l0 x40_3).f0.f1) ((rd_T29 l0 x40_3).f1.f0) ((rd_T29 l0 x40_3).f1.f1) ((rd_T29 l0 x40_3).f2) ((rd_T29 l0 x40_3).f3) bt216.1 bt216.2))))) = some (r1, r2) := by rw [if_pos rfl] at H; exact H
                     clear H
                     have H := H1
                     clear H1
                     replace H := Option.bind_eq_some_iff.mp H
                     obtain ⟨⟨t211, t212⟩, A480, H⟩ := H
                     replace H : ((fix_MulDiv.f kj30 ((rd_T29 l0 x40_3).f2) (wrap64 (a1 - t210)) a1).bind fun t213 => ((vec_Scale.f kj30 t211 t212 t213).bind fun bt214 => ((vec_Add.f x196000_4 x196001_4 bt214.1 bt214.2).bind fun bt216 => (steer_Apart.l2 kj30 l0 a1 x9_3 x40_3 l0 (l0.length : Int) x40_3 l0 (l0.length : Int) (wrap64 (x49_4 + 1)) ((rd_T29 l0 x40_3).f0.f0) ((rd_T29 l0 x40_3).f0.f1) ((rd_T29 l0 x40_3).f1.f0) ((rd_T29 l0 x40_3).f1.f1) ((rd_T29 l0 x40_3).f2) ((rd_T29 l0 x40_3).f3) bt216.1 bt216.2)))) = some (r1, r2) := H
                     have A48 := Aside0.mk A480
                     clear A480
                     replace H := Option.bind_eq_some_iff.mp H
                     obtain ⟨t213, A490, H⟩ := H
                     replace H : ((vec_Scale.f kj30 t211 t212 t213).bind fun bt214 => ((vec_Add.f x196000_4 x196001_4 bt214.1 bt214.2).bind fun bt216 => (steer_Apart.l2 kj30 l0 a1 x9_3 x40_3 l0 (l0.length : Int) x40_3 l0 (l0.length : Int) (wrap64 (x49_4 + 1)) ((rd_T29 l0 x40_3).f0.f0) ((rd_T29 l0 x40_3).f0.f1) ((rd_T29 l0 x40_3).f1.f0) ((rd_T29 l0 x40_3).f1.f1) ((rd_T29 l0 x40_3).f2) ((rd_T29 l0 x40_3).f3) bt216.1 bt216.2))) = some (r1, r2) := H
                     have A49 := Aside0.mk A490
                     clear A490
                     replace H := Option.bind_eq_some_iff.mp H
                     obtain ⟨⟨t214, t215⟩, A500, H⟩ := H
                     replace H : ((vec_Add.f x196000_4 x196001_4 t214 t215).bind fun bt216 => (steer_Apart.l2 kj30 l0 a1 x9_3 x40_3 l0 (l0.length : Int) x40_3 l0 (l0.length : Int) (wrap64 (x49_4 + 1)) ((rd_T29 l0 x40_3).f0.f0) ((rd_T29 l0 x40_3).f0.f1) ((rd_T29 l0 x40_3).f1.f0) ((rd_T29 l0 x40_3).f1.f1) ((rd_T29 l0 x40_3).f2) ((rd_T29 l0 x40_3).f3) bt216.1 bt216.2)) = some (r1, r2) := H
                     have A50 := Aside0.mk A500
                     clear A500
                     replace H := Option.bind_eq_some_iff.mp H
                     obtain ⟨⟨t216, t217⟩, A510, H⟩ := H
                     replace H : (steer_Apart.l2 kj30 l0 a1 x9_3 x40_3 l0 (l0.length : Int) x40_3 l0 (l0.length : Int) (wrap64 (x49_4 + 1)) ((rd_T29 l0 x40_3).f0.f0) ((rd_T29 l0 x40_3).f0.f1) ((rd_T29 l0 x40_3).f1.f0) ((rd_T29 l0 x40_3).f1.f1) ((rd_T29 l0 x40_3).f2) ((rd_T29 l0 x40_3).f3) t216 t217) = some (r1, r2) := H
                     have A51 := Aside0.mk A510
                     clear A510
                     have H' := Aside0.mk H
                     clear H
                     try go_wp2
                     have n0_ := Aside0.mk (Kd.R_drew HO_9.out)
                     have n1_ := Aside0.mk (blk_drew BK194.out)
                     have n2_ := Aside0.mk (blk_drew BK195.out)
                     have n3_ := Aside0.mk (blk_drew BK206.out)
                     have n4_ := Aside0.mk (blk_drew BK209.out)
                     have n5_ := Aside0.mk (below_drew1 HB.out)
                     clear HO_9
                     clear BK194
                     clear BK195
                     clear BK206
                     clear BK209
                     clear HB
                     have HO_9 := n0_
                     have BK194 := n1_
                     have BK195 := n2_
                     have BK206 := n3_
                     have BK209 := n4_
                     have HB := n5_
                     clear n0_ n1_ n2_ n3_ n4_ n5_
                     refine start_ (n := 13) (S := fun w' => w'.cell? ⟨gb195, 0, none⟩ = some (.int .i64 x196000_4) ∧ w'.cell? ⟨gb195, 1, none⟩ = some (.int .i64 x196001_4) ∧ w'.cell? ⟨gb209, 0, none⟩ = some (.int .i64 t207) ∧ w'.cell? ⟨gb209, 1, none⟩ = some (.int .i64 t208) ∧ w'.cell? ⟨gb194, 0, none⟩ = some (.int .i64 ((rd_T29 l0 x40_3).f0.f0)) ∧ w'.cell? ⟨gb194, 1, none⟩ = some (.int .i64 ((rd_T29 l0 x40_3).f0.f1)) ∧ w'.cell? ⟨gb194, 2, none⟩ = some (.int .i64 ((rd_T29 l0 x40_3).f1.f0)) ∧ w'.cell? ⟨gb194, 3, none⟩ = some (.int .i64 ((rd_T29 l0 x40_3).f1.f1)) ∧ w'.cell? ⟨gb194, 4, none⟩ = some (.int .i64 ((rd_T29 l0 x40_3).f2)) ∧ w'.cell? ⟨gb194, 5, none⟩ = some (.int .i64 ((rd_T29 l0 x40_3).f3))) (ds := [12]) #[false, false, false, false, false, false, false, false, false, false, false, false, false] (by kernel_rfl) rfl rfl ⟨(blk_cell BK195.out 0).trans rfl, (blk_cell BK195.out 1).trans rfl, (blk_cell BK209.out 0).trans rfl, (blk_cell BK209.out 1).trans rfl, (blk_cell BK194.out 0).trans rfl, (blk_cell BK194.out 1).trans rfl, (blk_cell BK194.out 2).trans rfl, (blk_cell BK194.out 3).trans rfl, (blk_cell BK194.out 4).trans rfl, (blk_cell BK194.out 5).trans rfl⟩ (fun hHeld => ?_); refine with_tabW steer_Apart.tab23 steer_Apart.bits23 (fun HT_ HW_ => ?_)
                     generalize wc.drew = w52 at HO_9 BK194 BK195 BK206 BK209 HB hHeld ⊢
                     refine pure_ (i := 3) (N := some 76) (v := ?_) (a' := ?_) #[false, false, false, true, false, false, false, false, false, false, false, false, false] rfl rfl (any_of HT_.out (by kernel_rfl)) (fun _ _ _ h => h) (Or.inl ⟨by rfl, ?_⟩) ?_ ?_
                     rotate_left
                     ·intro w'
                      go_simp
                      with_reducible rfl
                     rotate_left
                     ·simp only [Act.put, List.setIfInBounds_toArray, List.set_cons_zero, List.set_cons_succ, i64_w, i32_w]
                      rfl
                     refine pure_ (i := 5) (N := some 78) (v := ?_) (a' := ?_) #[false, false, false, true, false, true, false, false, false, false, false, false, false] rfl rfl (any_of HT_.out (by kernel_rfl)) (fun _ _ _ h => h) (Or.inl ⟨by rfl, ?_⟩) ?_ ?_
                     rotate_left
                     ·intro w'
                      go_simp
                      with_reducible rfl
                     rotate_left
                     ·simp only [Act.put, List.setIfInBounds_toArray, List.set_cons_zero, List.set_cons_succ, i64_w, i32_w]
                      rfl
                     refine pure_ (i := 6) (N := some 79) (v := ?_) (a' := ?_) #[false, false, false, true, false, true, true, false, false, false, false, false, false] rfl rfl (any_of HT_.out (by kernel_rfl)) (fun _ _ _ h => h) (Or.inl ⟨by rfl, ?_⟩) ?_ ?_
                     rotate_left
                     ·intro w'
                      go_simp
                      with_reducible rfl
                     rotate_left
                     ·simp only [Act.put, List.setIfInBounds_toArray, List.set_cons_zero, List.set_cons_succ, i64_w, i32_w]
                      rfl
                     refine pure_ (i := 7) (N := some 80) (v := ?_) (a' := ?_) #[false, false, false, true, false, true, true, true, false, false, false, false, false] rfl rfl (any_of HT_.out (by kernel_rfl)) (fun _ _ _ h => h) (Or.inl ⟨by rfl, ?_⟩) ?_ ?_
                     rotate_left
                     ·intro w'
                      go_simp
                      with_reducible rfl
                     rotate_left
                     ·simp only [Act.put, List.setIfInBounds_toArray, List.set_cons_zero, List.set_cons_succ, i64_w, i32_w]
                      rfl
                     refine pure_ (i := 8) (N := some 81) (v := ?_) (a' := ?_) #[false, false, false, true, false, true, true, true, true, false, false, false, false] rfl rfl (any_of HT_.out (by kernel_rfl)) (fun _ _ _ h => h) (Or.inl ⟨by rfl, ?_⟩) ?_ ?_
                     rotate_left
                     ·intro w'
                      go_simp
                      with_reducible rfl
                     rotate_left
                     ·simp only [Act.put, List.setIfInBounds_toArray, List.set_cons_zero, List.set_cons_succ, i64_w, i32_w]
                      rfl
                     refine take_ (i := 0) (N := some 73) (v := ?_) (a' := ?_) #[true, false, false, true, false, true, true, true, true, false, false, false, false] rfl rfl (take_ofW HT_.out HW_.out (by kernel_rfl)) (fun _ _ _ h => h) (Or.inl ⟨by rfl, ?_⟩) hHeld ?_ ?_
                     rotate_left
                     ·rintro w' ⟨s0, s1, s2, s3, s4, s5, s6, s7, s8, s9⟩
                      go_simp
                      with_reducible rfl
                     rotate_left
                     ·simp only [Act.put, List.setIfInBounds_toArray, List.set_cons_zero, List.set_cons_succ, i64_w, i32_w]
                      rfl
                     refine take_ (i := 1) (N := some 74) (v := ?_) (a' := ?_) #[true, true, false, true, false, true, true, true, true, false, false, false, false] rfl rfl (take_ofW HT_.out HW_.out (by kernel_rfl)) (fun _ _ _ h => h) (Or.inl ⟨by rfl, ?_⟩) hHeld ?_ ?_
                     rotate_left
                     ·rintro w' ⟨s0, s1, s2, s3, s4, s5, s6, s7, s8, s9⟩
                      go_simp
                      with_reducible rfl
                     rotate_left
                     ·simp only [Act.put, List.setIfInBounds_toArray, List.set_cons_zero, List.set_cons_succ, i64_w, i32_w]
                      rfl
                     refine take_ (i := 4) (N := some 77) (v := ?_) (a' := ?_) #[true, true, false, true, true, true, true, true, true, false, false, false, false] rfl rfl (take_ofW HT_.out HW_.out (by kernel_rfl)) (fun _ _ _ h => h) (Or.inl ⟨by rfl, ?_⟩) hHeld ?_ ?_
                     rotate_left
                     ·rintro w' ⟨s0, s1, s2, s3, s4, s5, s6, s7, s8, s9⟩
                      go_simp
                      with_reducible rfl
                     rotate_left
                     ·simp only [Act.put, List.setIfInBounds_toArray, List.set_cons_zero, List.set_cons_succ, i64_w, i32_w]
                      rfl
                     refine one_ (i := 2) (N := some 75) #[true, true, true, true, true, true, true, true, true, false, false, false, false] rfl rfl (one_of HT_.out (by kernel_rfl)) (by decide) (fun K hK => ?_)
                     refine goes_ Try.func17 (by kernel_rfl) rfl #[.agg #[.int .i64 t207, .int .i64 t208]] (by rfl) rfl rfl (by (try simp only [List.map_toArray, List.map_cons, List.map_nil]); first | done | rfl | (simp only [List.length_drop, List.length_take]; rfl)) ?_
                     with_reducible refine (vec_Unit.calls kj30 t207 t208 t211 t212 _ A48.out).mono ?_
                     rintro e w53 ⟨rfl, hb⟩
                     refine ⟨_, rfl, ?_⟩
                     have n0_ := Aside0.mk (Kd.R_below (by (with_reducible repeat (first | apply Kd.R_alloc | apply Kd.R_drewN | apply Kd.R_drew)); exact HO_9.out) hb)
                     have n1_ := Aside0.mk (blk_below (g := gb194) (o := .cells #[.int .i64 ((rd_T29 l0 x40_3).f0.f0), .int .i64 ((rd_T29 l0 x40_3).f0.f1), .int .i64 ((rd_T29 l0 x40_3).f1.f0), .int .i64 ((rd_T29 l0 x40_3).f1.f1), .int .i64 ((rd_T29 l0 x40_3).f2), .int .i64 ((rd_T29 l0 x40_3).f3)] 29 (0, 0)) (by (with_reducible repeat (first | refine blk_drewN ?_ _ | refine blk_drew ?_ | refine blk_alloc ?_ _)); exact BK194.out) hb)
                     have n2_ := Aside0.mk (blk_below (g := gb195) (o := .cells #[.int .i64 x196000_4, .int .i64 x196001_4] 27 (0, 0)) (by (with_reducible repeat (first | refine blk_drewN ?_ _ | refine blk_drew ?_ | refine blk_alloc ?_ _)); exact BK195.out) hb)
                     have n3_ := Aside0.mk (blk_below (g := gb206) (o := .cells #[.int .i64 ((rd_T29 l0 x49_4).f0.f0), .int .i64 ((rd_T29 l0 x49_4).f0.f1), .int .i64 ((rd_T29 l0 x49_4).f1.f0), .int .i64 ((rd_T29 l0 x49_4).f1.f1), .int .i64 ((rd_T29 l0 x49_4).f2), .int .i64 ((rd_T29 l0 x49_4).f3)] 29 (0, 0)) (by (with_reducible repeat (first | refine blk_drewN ?_ _ | refine blk_drew ?_ | refine blk_alloc ?_ _)); exact BK206.out) hb)
                     have n4_ := Aside0.mk (blk_below (g := gb209) (o := .cells #[.int .i64 t207, .int .i64 t208] 27 (0, 0)) (by (with_reducible repeat (first | refine blk_drewN ?_ _ | refine blk_drew ?_ | refine blk_alloc ?_ _)); exact BK209.out) hb)
                     have n5_ := Aside0.mk (below_step (by repeat (first | (with_reducible first | exact HB.out | apply below_alloc | apply pw_below_drewN | apply below_drew1 | refine below_set ?_ GE194.out | refine below_set ?_ GE195.out | refine below_set ?_ GE206.out | refine below_set ?_ GE209.out) | exact HB.out)) hb)
                     clear HO_9
                     clear BK194
                     clear BK195
                     clear BK206
                     clear BK209
                     clear HB
                     have HO_9 := n0_
                     have BK194 := n1_
                     have BK195 := n2_
                     have BK206 := n3_
                     have BK209 := n4_
                     have HB := n5_
                     clear n0_ n1_ n2_ n3_ n4_ n5_
                     (try clear hb)
                     (try clear hb2)
                     (try clear hk)
                     (try clear hi)
                     refine hK.out _ _ ⟨(blk_cell BK195.out 0).trans rfl, (blk_cell BK195.out 1).trans rfl, (blk_cell BK209.out 0).trans rfl, (blk_cell BK209.out 1).trans rfl, (blk_cell BK194.out 0).trans rfl, (blk_cell BK194.out 1).trans rfl, (blk_cell BK194.out 2).trans rfl, (blk_cell BK194.out 3).trans rfl, (blk_cell BK194.out 4).trans rfl, (blk_cell BK194.out 5).trans rfl⟩ (fun hHeld => ?_)
                     clear hK K
                     refine norm_ (a' := ?_) ?_ ?_
                     rotate_left
                     ·show Act.put _ (some 75) _ = _
                      simp only [Act.put, List.setIfInBounds_toArray, List.set_cons_zero, List.set_cons_succ, i64_w, i32_w]
                      rfl
                     refine one_ (i := 9) (N := some 82) #[true, true, true, true, true, true, true, true, true, true, false, false, false] rfl rfl (one_of HT_.out (by kernel_rfl)) (by decide) (fun K hK => ?_)
                     refine goes_ Try.func18 (by kernel_rfl) rfl #[.int .i64 ((rd_T29 l0 x40_3).f2), .int .i64 (wrap64 (a1 - t210)), .int .i64 a1] (by rfl) rfl rfl (by (try simp only [List.map_toArray, List.map_cons, List.map_nil]); first | done | rfl | (simp only [List.length_drop, List.length_take]; rfl)) ?_
                     with_reducible refine (fix_MulDiv.calls kj30 ((rd_T29 l0 x40_3).f2) (wrap64 (a1 - t210)) a1 t213 _ A49.out).mono ?_
                     rintro e w54 ⟨rfl, hb⟩
                     refine ⟨_, rfl, ?_⟩
                     have n0_ := Aside0.mk (Kd.R_below (by (with_reducible repeat (first | apply Kd.R_alloc | apply Kd.R_drewN | apply Kd.R_drew)); exact HO_9.out) hb)
                     have n1_ := Aside0.mk (blk_below (g := gb194) (o := .cells #[.int .i64 ((rd_T29 l0 x40_3).f0.f0), .int .i64 ((rd_T29 l0 x40_3).f0.f1), .int .i64 ((rd_T29 l0 x40_3).f1.f0), .int .i64 ((rd_T29 l0 x40_3).f1.f1), .int .i64 ((rd_T29 l0 x40_3).f2), .int .i64 ((rd_T29 l0 x40_3).f3)] 29 (0, 0)) (by (with_reducible repeat (first | refine blk_drewN ?_ _ | refine blk_drew ?_ | refine blk_alloc ?_ _)); exact BK194.out) hb)
                     have n2_ := Aside0.mk (blk_below (g := gb195) (o := .cells #[.int .i64 x196000_4, .int .i64 x196001_4] 27 (0, 0)) (by (with_reducible repeat (first | refine blk_drewN ?_ _ | refine blk_drew ?_ | refine blk_alloc ?_ _)); exact BK195.out) hb)
                     have n3_ := Aside0.mk (blk_below (g := gb206) (o := .cells #[.int .i64 ((rd_T29 l0 x49_4).f0.f0), .int .i64 ((rd_T29 l0 x49_4).f0.f1), .int .i64 ((rd_T29 l0 x49_4).f1.f0), .int .i64 ((rd_T29 l0 x49_4).f1.f1), .int .i64 ((rd_T29 l0 x49_4).f2), .int .i64 ((rd_T29 l0 x49_4).f3)] 29 (0, 0)) (by (with_reducible repeat (first | refine blk_drewN ?_ _ | refine blk_drew ?_ | refine blk_alloc ?_ _)); exact BK206.out) hb)
                     have n4_ := Aside0.mk (blk_below (g := gb209) (o := .cells #[.int .i64 t207, .int .i64 t208] 27 (0, 0)) (by (with_reducible repeat (first | refine blk_drewN ?_ _ | refine blk_drew ?_ | refine blk_alloc ?_ _)); exact BK209.out) hb)
                     have n5_ := Aside0.mk (below_step (by repeat (first | (with_reducible first | exact HB.out | apply below_alloc | apply pw_below_drewN | apply below_drew1 | refine below_set ?_ GE194.out | refine below_set ?_ GE195.out | refine below_set ?_ GE206.out | refine below_set ?_ GE209.out) | exact HB.out)) hb)
                     clear HO_9
                     clear BK194
                     clear BK195
                     clear BK206
                     clear BK209
                     clear HB
                     have HO_9 := n0_
                     have BK194 := n1_
                     have BK195 := n2_
                     have BK206 := n3_
                     have BK209 := n4_
                     have HB := n5_
                     clear n0_ n1_ n2_ n3_ n4_ n5_
                     (try clear hb)
                     (try clear hb2)
                     (try clear hk)
                     (try clear hi)
                     refine hK.out _ _ ⟨(blk_cell BK195.out 0).trans rfl, (blk_cell BK195.out 1).trans rfl, (blk_cell BK209.out 0).trans rfl, (blk_cell BK209.out 1).trans rfl, (blk_cell BK194.out 0).trans rfl, (blk_cell BK194.out 1).trans rfl, (blk_cell BK194.out 2).trans rfl, (blk_cell BK194.out 3).trans rfl, (blk_cell BK194.out 4).trans rfl, (blk_cell BK194.out 5).trans rfl⟩ (fun hHeld => ?_)
                     clear hK K
                     refine norm_ (a' := ?_) ?_ ?_
                     rotate_left
                     ·show Act.put _ (some 82) _ = _
                      simp only [Act.put, List.setIfInBounds_toArray, List.set_cons_zero, List.set_cons_succ, i64_w, i32_w]
                      rfl
                     refine one_ (i := 10) (N := some 83) #[true, true, true, true, true, true, true, true, true, true, true, false, false] rfl rfl (one_of HT_.out (by kernel_rfl)) (by decide) (fun K hK => ?_)
                     refine goes_ Try.func16 (by kernel_rfl) rfl #[.agg #[.int .i64 t211, .int .i64 t212], .int .i64 t213] (by rfl) rfl rfl (by (try simp only [List.map_toArray, List.map_cons, List.map_nil]); first | done | rfl | (simp only [List.length_drop, List.length_take]; rfl)) ?_
                     with_reducible refine (vec_Scale.calls kj30 t211 t212 t213 t214 t215 _ A50.out).mono ?_
                     rintro e w55 ⟨rfl, hb⟩
                     refine ⟨_, rfl, ?_⟩
                     have n0_ := Aside0.mk (Kd.R_below (by (with_reducible repeat (first | apply Kd.R_alloc | apply Kd.R_drewN | apply Kd.R_drew)); exact HO_9.out) hb)
                     have n1_ := Aside0.mk (blk_below (g := gb194) (o := .cells #[.int .i64 ((rd_T29 l0 x40_3).f0.f0), .int .i64 ((rd_T29 l0 x40_3).f0.f1), .int .i64 ((rd_T29 l0 x40_3).f1.f0), .int .i64 ((rd_T29 l0 x40_3).f1.f1), .int .i64 ((rd_T29 l0 x40_3).f2), .int .i64 ((rd_T29 l0 x40_3).f3)] 29 (0, 0)) (by (with_reducible repeat (first | refine blk_drewN ?_ _ | refine blk_drew ?_ | refine blk_alloc ?_ _)); exact BK194.out) hb)
                     have n2_ := Aside0.mk (blk_below (g := gb195) (o := .cells #[.int .i64 x196000_4, .int .i64 x196001_4] 27 (0, 0)) (by (with_reducible repeat (first | refine blk_drewN ?_ _ | refine blk_drew ?_ | refine blk_alloc ?_ _)); exact BK195.out) hb)
                     have n3_ := Aside0.mk (blk_below (g := gb206) (o := .cells #[.int .i64 ((rd_T29 l0 x49_4).f0.f0), .int .i64 ((rd_T29 l0 x49_4).f0.f1), .int .i64 ((rd_T29 l0 x49_4).f1.f0), .int .i64 ((rd_T29 l0 x49_4).f1.f1), .int .i64 ((rd_T29 l0 x49_4).f2), .int .i64 ((rd_T29 l0 x49_4).f3)] 29 (0, 0)) (by (with_reducible repeat (first | refine blk_drewN ?_ _ | refine blk_drew ?_ | refine blk_alloc ?_ _)); exact BK206.out) hb)
                     have n4_ := Aside0.mk (blk_below (g := gb209) (o := .cells #[.int .i64 t207, .int .i64 t208] 27 (0, 0)) (by (with_reducible repeat (first | refine blk_drewN ?_ _ | refine blk_drew ?_ | refine blk_alloc ?_ _)); exact BK209.out) hb)
                     have n5_ := Aside0.mk (below_step (by repeat (first | (with_reducible first | exact HB.out | apply below_alloc | apply pw_below_drewN | apply below_drew1 | refine below_set ?_ GE194.out | refine below_set ?_ GE195.out | refine below_set ?_ GE206.out | refine below_set ?_ GE209.out) | exact HB.out)) hb)
                     clear HO_9
                     clear BK194
                     clear BK195
                     clear BK206
                     clear BK209
                     clear HB
                     have HO_9 := n0_
                     have BK194 := n1_
                     have BK195 := n2_
                     have BK206 := n3_
                     have BK209 := n4_
                     have HB := n5_
                     clear n0_ n1_ n2_ n3_ n4_ n5_
                     (try clear hb)
                     (try clear hb2)
                     (try clear hk)
                     (try clear hi)
                     refine hK.out _ _ ⟨(blk_cell BK195.out 0).trans rfl, (blk_cell BK195.out 1).trans rfl, (blk_cell BK209.out 0).trans rfl, (blk_cell BK209.out 1).trans rfl, (blk_cell BK194.out 0).trans rfl, (blk_cell BK194.out 1).trans rfl, (blk_cell BK194.out 2).trans rfl, (blk_cell BK194.out 3).trans rfl, (blk_cell BK194.out 4).trans rfl, (blk_cell BK194.out 5).trans rfl⟩ (fun hHeld => ?_)
                     clear hK K
                     refine norm_ (a' := ?_) ?_ ?_
                     rotate_left
                     ·show Act.put _ (some 83) _ = _
                      simp only [Act.put, List.setIfInBounds_toArray, List.set_cons_zero, List.set_cons_succ, i64_w, i32_w]
                      rfl
                     refine one_ (i := 11) (N := some 84) #[true, true, true, true, true, true, true, true, true, true, true, true, false] rfl rfl (one_of HT_.out (by kernel_rfl)) (by decide) (fun K hK => ?_)
                     refine goes_ Try.func15 (by kernel_rfl) rfl #[.agg #[.int .i64 x196000_4, .int .i64 x196001_4], .agg #[.int .i64 t214, .int .i64 t215]] (by rfl) rfl rfl (by (try simp only [List.map_toArray, List.map_cons, List.map_nil]); first | done | rfl | (simp only [List.length_drop, List.length_take]; rfl)) ?_
                     with_reducible refine (vec_Add.calls x196000_4 x196001_4 t214 t215 t216 t217 _ A51.out).mono ?_
                     rintro e w56 ⟨rfl, hb⟩
                     refine ⟨_, rfl, ?_⟩
                     have n0_ := Aside0.mk (Kd.R_below (by (with_reducible repeat (first | apply Kd.R_alloc | apply Kd.R_drewN | apply Kd.R_drew)); exact HO_9.out) hb)
                     have n1_ := Aside0.mk (blk_below (g := gb194) (o := .cells #[.int .i64 ((rd_T29 l0 x40_3).f0.f0), .int .i64 ((rd_T29 l0 x40_3).f0.f1), .int .i64 ((rd_T29 l0 x40_3).f1.f0), .int .i64 ((rd_T29 l0 x40_3).f1.f1), .int .i64 ((rd_T29 l0 x40_3).f2), .int .i64 ((rd_T29 l0 x40_3).f3)] 29 (0, 0)) (by (with_reducible repeat (first | refine blk_drewN ?_ _ | refine blk_drew ?_ | refine blk_alloc ?_ _)); exact BK194.out) hb)
                     have n2_ := Aside0.mk (blk_below (g := gb195) (o := .cells #[.int .i64 x196000_4, .int .i64 x196001_4] 27 (0, 0)) (by (with_reducible repeat (first | refine blk_drewN ?_ _ | refine blk_drew ?_ | refine blk_alloc ?_ _)); exact BK195.out) hb)
                     have n3_ := Aside0.mk (blk_below (g := gb206) (o := .cells #[.int .i64 ((rd_T29 l0 x49_4).f0.f0), .int .i64 ((rd_T29 l0 x49_4).f0.f1), .int .i64 ((rd_T29 l0 x49_4).f1.f0), .int .i64 ((rd_T29 l0 x49_4).f1.f1), .int .i64 ((rd_T29 l0 x49_4).f2), .int .i64 ((rd_T29 l0 x49_4).f3)] 29 (0, 0)) (by (with_reducible repeat (first | refine blk_drewN ?_ _ | refine blk_drew ?_ | refine blk_alloc ?_ _)); exact BK206.out) hb)
                     have n4_ := Aside0.mk (blk_below (g := gb209) (o := .cells #[.int .i64 t207, .int .i64 t208] 27 (0, 0)) (by (with_reducible repeat (first | refine blk_drewN ?_ _ | refine blk_drew ?_ | refine blk_alloc ?_ _)); exact BK209.out) hb)
                     have n5_ := Aside0.mk (below_step (by repeat (first | (with_reducible first | exact HB.out | apply below_alloc | apply pw_below_drewN | apply below_drew1 | refine below_set ?_ GE194.out | refine below_set ?_ GE195.out | refine below_set ?_ GE206.out | refine below_set ?_ GE209.out) | exact HB.out)) hb)
                     clear HO_9
                     clear BK194
                     clear BK195
                     clear BK206
                     clear BK209
                     clear HB
                     have HO_9 := n0_
                     have BK194 := n1_
                     have BK195 := n2_
                     have BK206 := n3_
                     have BK209 := n4_
                     have HB := n5_
                     clear n0_ n1_ n2_ n3_ n4_ n5_
                     (try clear hb)
                     (try clear hb2)
                     (try clear hk)
                     (try clear hi)
                     refine hK.out _ _ ⟨(blk_cell BK195.out 0).trans rfl, (blk_cell BK195.out 1).trans rfl, (blk_cell BK209.out 0).trans rfl, (blk_cell BK209.out 1).trans rfl, (blk_cell BK194.out 0).trans rfl, (blk_cell BK194.out 1).trans rfl, (blk_cell BK194.out 2).trans rfl, (blk_cell BK194.out 3).trans rfl, (blk_cell BK194.out 4).trans rfl, (blk_cell BK194.out 5).trans rfl⟩ (fun hHeld => ?_)
                     clear hK K
                     refine norm_ (a' := ?_) ?_ ?_
                     rotate_left
                     ·show Act.put _ (some 84) _ = _
                      simp only [Act.put, List.setIfInBounds_toArray, List.set_cons_zero, List.set_cons_succ, i64_w, i32_w]
                      rfl
                     refine last_ (i := 12) (N := none) #[true, true, true, true, true, true, true, true, true, true, true, true, true] rfl rfl (one_of HT_.out (by kernel_rfl)) (by decide) (fun K hK => ?_)
                     have hs57 : w56.cell? ⟨gb195, 0, none⟩ = some (.int .i64 x196000_4) := (blk_cell BK195.out 0).trans rfl
                     have hfs57 := blk_frozen BK195.out 0
                     have hns57_0 := NB194_195.out
                     have hns57_2 := NB206_195.out
                     have hns57_3 := NB209_195.out
                     have hms57_0 := NB195_194.out
                     have hms57_2 := NB195_206.out
                     have hms57_3 := NB195_209.out
                     have hs58 : w56.cell? ⟨gb195, 1, none⟩ = some (.int .i64 x196001_4) := (blk_cell BK195.out 1).trans rfl
                     have hfs58 := blk_frozen BK195.out 1
                     have hns58_0 := NB194_195.out
                     have hns58_2 := NB206_195.out
                     have hns58_3 := NB209_195.out
                     have hms58_0 := NB195_194.out
                     have hms58_2 := NB195_206.out
                     have hms58_3 := NB195_209.out
                     refine skip_ (w1 := ?_) (by rfl) rfl ?_ ?_
                     rotate_left
                     ·go_simp
                      rfl
                     refine hK.out _ _ ?_
                     clear hK K
                     refine done_ (done_of HT_.out (by kernel_rfl)) ?_
                     try go_wp2
                     go_roundg kj30
                     case measure => have := HK1.out; have := HJ14.out; have := HK3.out; have := HK4.out; have := HJ30.out; omega
                     case rel => exact ⟨(wrap64 (x49_4 + 1)), (t216), (t217), (by first | rfl | (simp; done) | (simp [*]; done)), H', ⟨by have := HK1.out; have := HJ14.out; have := HK3.out; have := HK4.out; have := HJ30.out; omega⟩, ⟨by (with_reducible repeat (first | apply Kd.R_alloc | apply Kd.R_drewN | apply Kd.R_drew)); exact Kd.R_mono (Kd.R_far (p := ⟨gb195, 1, none⟩) (Kd.R_far (p := ⟨gb195, 0, none⟩) (Kd.R_types HO_9.out BK195.out (by decide)) (fun _ hk => hk.2) (.int .i64 t216)) (fun _ hk => hk.2) (.int .i64 t217)) (fun _ hk => hk.1.1)⟩, ⟨by (with_reducible repeat (first | refine blk_drewN ?_ _ | refine blk_drew ?_ | refine blk_alloc ?_ _)); refine blk_far ?_ NB194_195.out _; (with_reducible repeat (first | refine blk_drewN ?_ _ | refine blk_drew ?_ | refine blk_alloc ?_ _)); refine blk_far ?_ NB194_195.out _; (with_reducible repeat (first | refine blk_drewN ?_ _ | refine blk_drew ?_ | refine blk_alloc ?_ _)); exact BK194.out⟩, ⟨by (with_reducible repeat (first | refine blk_drewN ?_ _ | refine blk_drew ?_ | refine blk_alloc ?_ _)); refine blk_put (cs := #[.int .i64 t216, .int .i64 x196001_4]) ?_ 1 _ rfl; (with_reducible repeat (first | refine blk_drewN ?_ _ | refine blk_drew ?_ | refine blk_alloc ?_ _)); refine blk_put (cs := #[.int .i64 x196000_4, .int .i64 x196001_4]) ?_ 0 _ rfl; (with_reducible repeat (first | refine blk_drewN ?_ _ | refine blk_drew ?_ | refine blk_alloc ?_ _)); exact BK195.out⟩, ⟨by repeat (first | (with_reducible first | exact HB.out | apply below_alloc | apply pw_below_drewN | apply below_drew1 | refine below_set ?_ GE194.out | refine below_set ?_ GE195.out | refine below_set ?_ GE206.out | refine below_set ?_ GE209.out) | exact HB.out)⟩⟩
                    ·replace c47 := Bool.eq_false_iff.mpr c47
                     subst c47
                     have H1 : (steer_Apart.l2 kj30 l0 a1 x9_3 x40_3 l0 (l0.length : Int) x40_3 l0 (l0.length : Int) (wrap64 (x49_4 + 1)) ((rd_T29 l0 x40_3).f0.f0) ((rd_T29 l0 x40_3).f0.f1) ((rd_T29 l0 x40_3).f1.f0) ((rd_T29 l0 x40_3).f1.f1) ((rd_T29 l0 x40_3).f2) ((rd_T29 l0 x40_3).f3) x196000_4 x196001_4) = some (r1, r2) := by rw [if_neg (show ¬ (false = true) by decide)] at H; exact H
                     clear H
                     have H := H1
                     clear H1
                     have H' := Aside0.mk H
                     clear H
                     go_wp2
                     go_roundg kj30
                     case measure => have := HK1.out; have := HJ14.out; have := HK3.out; have := HK4.out; have := HJ30.out; omega
                     case rel => exact ⟨(wrap64 (x49_4 + 1)), (x196000_4), (x196001_4), (by first | rfl | (simp; done) | (simp [*]; done)), H', ⟨by have := HK1.out; have := HJ14.out; have := HK3.out; have := HK4.out; have := HJ30.out; omega⟩, ⟨by (with_reducible repeat (first | apply Kd.R_alloc | apply Kd.R_drewN | apply Kd.R_drew)); exact Kd.R_mono HO_9.out (fun _ hk => hk.1)⟩, ⟨by (with_reducible repeat (first | refine blk_drewN ?_ _ | refine blk_drew ?_ | refine blk_alloc ?_ _)); exact BK194.out⟩, ⟨by (with_reducible repeat (first | refine blk_drewN ?_ _ | refine blk_drew ?_ | refine blk_alloc ?_ _)); exact BK195.out⟩, ⟨by repeat (first | (with_reducible first | exact HB.out | apply below_alloc | apply pw_below_drewN | apply below_drew1 | refine below_set ?_ GE194.out | refine below_set ?_ GE195.out | refine below_set ?_ GE206.out | refine below_set ?_ GE209.out) | exact HB.out)⟩⟩
                 ·rw [if_neg c28] at H
                  exact absurd H (by simp)
                ·rw [if_neg c27] at H
                 exact absurd H (by simp)
               ·rw [if_neg c26] at H
                have c26b0 : decide (x49_4 < (l0.length : Int)) = false := decide_eq_false c26
                clear c26
                replace H := Option.bind_eq_some_iff.mp H
                obtain ⟨⟨t196, t197, t198, t199, t200, t201⟩, A590, H⟩ := H
                replace H : (if x9_3.length < 2932031007402 then (steer_Apart.l1 k4 l0 a1 (x9_3 ++ [(⟨(⟨t196, t197⟩ : S27), (⟨t198, t199⟩ : S27), t200, t201⟩ : S29)]) l0 (l0.length : Int) (wrap64 (x40_3 + 1))) else (none)) = some (r1, r2) := H
                have A59 := Aside0.mk A590
                clear A590
                by_cases c60 : x9_3.length < 2932031007402
                ·rw [if_pos c60] at H
                 have LMc60 := Aside0.mk c60
                 clear c60
                 obtain ⟨y202, hy202⟩ : ∃ y_ : List (S29), y_ = (x9_3 ++ [(⟨(⟨t196, t197⟩ : S27), (⟨t198, t199⟩ : S27), t200, t201⟩ : S29)]) := ⟨_, rfl⟩
                 replace H : (steer_Apart.l1 k4 l0 a1 y202 l0 (l0.length : Int) (wrap64 (x40_3 + 1))) = some (r1, r2) := by first | (rw [hy202]; with_reducible exact H) | (have H2_ := (Option.bind_some _ _).symm.trans H; rw [hy202]; with_reducible exact H2_) | (have H2_ := (Option.bind_some _ _).symm.trans H; with_reducible exact H2_) | with_reducible exact H | (rw [hy202]; exact H) | exact H
                 have Ny202 := Aside0.mk hy202
                 clear hy202
                 have H' := Aside0.mk H
                 clear H
                 have hnb61 := NB194_195.out
                 have hnc61 := NB195_194.out
                 have hcz62_0 : wr.cell? ⟨gb194, 0, none⟩ = some (.int .i64 ((rd_T29 l0 x40_3).f0.f0)) := (blk_cell BK194.out 0).trans rfl
                 have hcz62_1 : wr.cell? ⟨gb194, 1, none⟩ = some (.int .i64 ((rd_T29 l0 x40_3).f0.f1)) := (blk_cell BK194.out 1).trans rfl
                 have hcz62_2 : wr.cell? ⟨gb194, 2, none⟩ = some (.int .i64 ((rd_T29 l0 x40_3).f1.f0)) := (blk_cell BK194.out 2).trans rfl
                 have hcz62_3 : wr.cell? ⟨gb194, 3, none⟩ = some (.int .i64 ((rd_T29 l0 x40_3).f1.f1)) := (blk_cell BK194.out 3).trans rfl
                 have hcz62_4 : wr.cell? ⟨gb194, 4, none⟩ = some (.int .i64 ((rd_T29 l0 x40_3).f2)) := (blk_cell BK194.out 4).trans rfl
                 have hcz62_5 : wr.cell? ⟨gb194, 5, none⟩ = some (.int .i64 ((rd_T29 l0 x40_3).f3)) := (blk_cell BK194.out 5).trans rfl
                 have hfz62_0 := blk_frozen BK194.out 0
                 have hfz62_1 := blk_frozen BK194.out 1
                 have hfz62_2 := blk_frozen BK194.out 2
                 have hfz62_3 := blk_frozen BK194.out 3
                 have hfz62_4 := blk_frozen BK194.out 4
                 have hfz62_5 := blk_frozen BK194.out 5
                 have hcz63_0 : wr.cell? ⟨gb195, 0, none⟩ = some (.int .i64 x196000_4) := (blk_cell BK195.out 0).trans rfl
                 have hcz63_1 : wr.cell? ⟨gb195, 1, none⟩ = some (.int .i64 x196001_4) := (blk_cell BK195.out 1).trans rfl
                 have hfz63_0 := blk_frozen BK195.out 0
                 have hfz63_1 := blk_frozen BK195.out 1
                 go_wp2_with (first | ((with_reducible refine gate_callee (f := 38) rfl ?_); refine goesL_ (some 89) rfl rfl Try.func38 (by kernel_rfl) rfl #[.agg #[.int .i64 ((rd_T29 l0 x40_3).f0.f0), .int .i64 ((rd_T29 l0 x40_3).f0.f1), .int .i64 ((rd_T29 l0 x40_3).f1.f0), .int .i64 ((rd_T29 l0 x40_3).f1.f1), .int .i64 ((rd_T29 l0 x40_3).f2), .int .i64 ((rd_T29 l0 x40_3).f3)], .agg #[.int .i64 x196000_4, .int .i64 x196001_4]] rfl (by (try simp only [List.map_toArray, List.map_cons, List.map_nil]); first | done | rfl | (simp only [List.length_drop, List.length_take]; rfl)) ?_; (with_reducible refine (steer_toward.calls k4 ((rd_T29 l0 x40_3).f0.f0) ((rd_T29 l0 x40_3).f0.f1) ((rd_T29 l0 x40_3).f1.f0) ((rd_T29 l0 x40_3).f1.f1) ((rd_T29 l0 x40_3).f2) ((rd_T29 l0 x40_3).f3) x196000_4 x196001_4 t196 t197 t198 t199 t200 t201 _ A59.out).mono ?_); rintro e w64 ⟨rfl, hb⟩; refine ⟨_, rfl, ?_⟩; have n0_ := Aside0.mk (Kd.R_below (by (with_reducible repeat (first | apply Kd.R_alloc | apply Kd.R_drewN | apply Kd.R_drew)); exact HO_9.out) hb); have n1_ := Aside0.mk (blk_below (g := gb194) (o := .cells #[.int .i64 ((rd_T29 l0 x40_3).f0.f0), .int .i64 ((rd_T29 l0 x40_3).f0.f1), .int .i64 ((rd_T29 l0 x40_3).f1.f0), .int .i64 ((rd_T29 l0 x40_3).f1.f1), .int .i64 ((rd_T29 l0 x40_3).f2), .int .i64 ((rd_T29 l0 x40_3).f3)] 29 (0, 0)) (by (with_reducible repeat (first | refine blk_drewN ?_ _ | refine blk_drew ?_ | refine blk_alloc ?_ _)); exact BK194.out) hb); have n2_ := Aside0.mk (blk_below (g := gb195) (o := .cells #[.int .i64 x196000_4, .int .i64 x196001_4] 27 (0, 0)) (by (with_reducible repeat (first | refine blk_drewN ?_ _ | refine blk_drew ?_ | refine blk_alloc ?_ _)); exact BK195.out) hb); have n3_ := Aside0.mk (below_step (by repeat (first | (with_reducible first | exact HB.out | apply below_alloc | apply pw_below_drewN | apply below_drew1 | refine below_set ?_ GE194.out | refine below_set ?_ GE195.out) | exact HB.out)) hb); clear HO_9; clear BK194; clear BK195; clear HB; have HO_9 := n0_; have BK194 := n1_; have BK195 := n2_; have HB := n3_; clear n0_ n1_ n2_ n3_; (try clear hb); (try clear hb2); (try clear hk); (try clear hi)) | ((with_reducible refine gate_builtin (b := .append) (xs := #[.tmp 86, .tmp 90]) rfl ?_); at_builtin; refine Kd.R_append k29 (w0 := w) w.heap.size rfl (.tmp 86) (.tmp 90) 22 29 (.agg #[(.int .i64 0), (.int .i64 0), (.int .i64 0), (.int .i64 0), (.int .i64 0), (.int .i64 0)]) 48 rfl Try.underlying22 info29 rfl (by decide) (by omega) u9 x9_3 (⟨(⟨t196, t197⟩ : S27), (⟨t198, t199⟩ : S27), t200, t201⟩ : S29) [.int .i64 t196, .int .i64 t197, .int .i64 t198, .int .i64 t199, .int .i64 t200, .int .i64 t201] (fun k_ => k_ ≠ gb194) (fun _ => False) rfl rfl ?aP (fun _ hk => hk.elim) ?aF ?aO ?aB ?aS ?aL ?_; (case aP => exact k29_mkM _ _ _ (⟨(⟨t196, t197⟩ : S27), (⟨t198, t199⟩ : S27), t200, t201⟩ : S29)); (case aB => exact (by repeat (first | (with_reducible first | exact HB.out | apply below_alloc | apply pw_below_drewN | apply below_drew1 | refine below_set ?_ GE194.out | refine below_set ?_ GE195.out) | exact HB.out))); (case aF => exact (fun k_ hk => Kd.freshB (g := gb194) (o := .cells #[.int .i64 ((rd_T29 l0 x40_3).f0.f0), .int .i64 ((rd_T29 l0 x40_3).f0.f1), .int .i64 ((rd_T29 l0 x40_3).f1.f0), .int .i64 ((rd_T29 l0 x40_3).f1.f1), .int .i64 ((rd_T29 l0 x40_3).f2), .int .i64 ((rd_T29 l0 x40_3).f3)] 29 (0, 0)) (by (with_reducible repeat (first | refine blk_drewN ?_ _ | refine blk_drew ?_ | refine blk_alloc ?_ _)); exact BK194.out) k_ hk)); (case aO => exact (by (with_reducible repeat (first | apply Kd.R_alloc | apply Kd.R_drewN | apply Kd.R_drew)); exact HO_9.out)); (case aS => exact (below_size (by repeat (first | (with_reducible first | exact HB.out | apply below_alloc | apply pw_below_drewN | apply below_drew1 | refine below_set ?_ GE194.out | refine below_set ?_ GE195.out) | exact HB.out)))); (case aL => have := LMc60.out; omega); intro v203 w65 ho hb hg hat; rw [← Ny202.out] at ho; have n0_ := Aside0.mk (blk_grown (g := gb194) (o := .cells #[.int .i64 ((rd_T29 l0 x40_3).f0.f0), .int .i64 ((rd_T29 l0 x40_3).f0.f1), .int .i64 ((rd_T29 l0 x40_3).f1.f0), .int .i64 ((rd_T29 l0 x40_3).f1.f1), .int .i64 ((rd_T29 l0 x40_3).f2), .int .i64 ((rd_T29 l0 x40_3).f3)] 29 (0, 0)) (by (with_reducible repeat (first | refine blk_drewN ?_ _ | refine blk_drew ?_ | refine blk_alloc ?_ _)); exact BK194.out) hg (Kd.R_away HO_9.out (fun _ hk => hk))); have n1_ := Aside0.mk (blk_grown (g := gb195) (o := .cells #[.int .i64 x196000_4, .int .i64 x196001_4] 27 (0, 0)) (by (with_reducible repeat (first | refine blk_drewN ?_ _ | refine blk_drew ?_ | refine blk_alloc ?_ _)); exact BK195.out) hg (Kd.R_ne HO_9.out BK195.out (by decide))); have n2_ := Aside0.mk (hb); have n3_ := Aside0.mk (ho); clear BK194; clear BK195; clear HB; clear HO_9; have BK194 := n0_; have BK195 := n1_; have HB := n2_; have HO204 := n3_; clear n0_ n1_ n2_ n3_; clear ho hb hg hat))
                 go_roundg k4
                 case measure => have := HK1.out; have := HJ14.out; have := HK3.out; have := HK4.out; omega
                 case rel => exact ⟨(y202), (wrap64 (x40_3 + 1)), (by first | rfl | (simp; done) | (simp [*]; done)), H', ⟨by have := HK1.out; have := HJ14.out; have := HK3.out; have := HK4.out; omega⟩, ⟨by (with_reducible repeat (first | apply Kd.R_alloc | apply Kd.R_drewN | apply Kd.R_drew)); exact Kd.R_mono HO204.out (fun _ hk => trivial)⟩, ⟨by repeat (first | (with_reducible first | exact HB.out | apply below_alloc | apply pw_below_drewN | apply below_drew1 | refine below_set ?_ GE194.out | refine below_set ?_ GE195.out) | exact HB.out)⟩⟩
                ·rw [if_neg c60] at H
                 exact absurd H (by simp)
            ·rw [if_neg c20] at H
             exact absurd H (by simp)
           ·rw [if_neg c19] at H
            exact absurd H (by simp)
          ·rw [if_neg c18] at H
           have c18b0 : decide (x40_3 < (l0.length : Int)) = false := decide_eq_false c18
           clear c18
           simp only [Option.some.injEq, Prod.mk.injEq] at H
           obtain ⟨rfl, rfl⟩ := H
           go_wp2
           go_ret2
           exact ⟨_, by first | rfl | (simp [errW_none, errW_some] <;> rfl) | (simp [*, errW_none, errW_some] <;> rfl), by (with_reducible repeat (first | apply Kd.R_alloc | apply Kd.R_drewN | apply Kd.R_drew)); exact HO_9.out, by repeat (first | (with_reducible first | exact HB.out | apply below_alloc | apply pw_below_drewN | apply below_drew1) | exact HB.out)⟩

end Go.Proofs.Ytdopeneehminaaa.PSteerThere
