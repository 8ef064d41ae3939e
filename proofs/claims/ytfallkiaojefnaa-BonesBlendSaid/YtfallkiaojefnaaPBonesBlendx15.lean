-- Printed by a program: the print with changes of this session (wip/printpatch.py).
import Derived.Test.YtfallkiaojefnaaPBonesBlendx0
import Derived.Test.YtfallkiaojefnaaPBonesBlendx6
import Derived.Test.YtfallkiaojefnaaPBonesBlendx14
namespace Go.Proofs.Ytfallkiaojefnaa.PBonesBlend
open Go.Proofs.Ytfallkiaojefnaa.Fnv Go.Proofs.Ytfallkiaojefnaa.Ary Go.Proofs.Ytfallkiaojefnaa.Ext
open Go.RowKit Go.Proofs.YtfallkiaojefnaaW.PrintWords Go.Proofs.YtfallkiaojefnaaW.PrintLast Go.Proofs.YtfallkiaojefnaaW.PrintMore
attribute [local go_sem] max2_int min2_int max_two min_two max_three min_three max_four min_four   -- for this text's walks alone
set_option linter.unusedVariables false
set_option linter.unusedSimpArgs false

/-! ### bones_Blend: function 18 -/
mutual
def bones_Blend.j0 : Nat → List (S35) → List (S37) → List (S37) → Int → Bool → Option ((List (S37)) × Int)
 | 0, _, _, _, _, _ => none
 | k + 1, x0, x1, x2, x3, x31 => if x31 = true then (some (([] : List (S37)), 1)) else (bones_Blend.l0 k x1 x2 x3 ([] : List (S37)) (x0.length : Int) 0)
def bones_Blend.l0 : Nat → List (S37) → List (S37) → Int → List (S37) → Int → Int → Option ((List (S37)) × Int)
 | 0, _, _, _, _, _, _ => none
 | k + 1, x1, x2, x3, x12, x33, x34 => if x34 < x33 then (if 0 ≤ x34 then (if x34 < (x1.length : Int) then (if x34 < (x2.length : Int) then ((quat_Blend.f k ((rd_T37 x1 x34).f0) ((rd_T37 x1 x34).f1) ((rd_T37 x1 x34).f2) ((rd_T37 x1 x34).f3) ((rd_T37 x2 x34).f0) ((rd_T37 x2 x34).f1) ((rd_T37 x2 x34).f2) ((rd_T37 x2 x34).f3) x3).bind fun bt318 => (if x12.length < 4398046511104 then (bones_Blend.l0 k x1 x2 x3 (x12 ++ [(⟨bt318.1, bt318.2.1, bt318.2.2.1, bt318.2.2.2⟩ : S37)]) x33 (wrap64 (x34 + 1))) else (none))) else (none)) else (none)) else (none)) else (some (x12, 0))
end
def bones_Blend.f (k : Nat) (l0 : List (S35)) (l1 : List (S37)) (l2 : List (S37)) (a3 : Int) : Option ((List (S37)) × Int) := (bones_fitting.f k l0 l1).bind fun t314 => (if t314 = 0 then ((bones_fitting.f k l0 l2).bind fun t315 => (if t315 = 0 then (if a3 < 0 then (bones_Blend.j0 k l0 l1 l2 a3 true) else (bones_Blend.j0 k l0 l1 l2 a3 (decide (a3 > 65536)))) else (some (([] : List (S37)), t315)))) else (some (([] : List (S37)), t314)))
theorem bones_Blend.mono_l : ∀ k, (∀ y0 y1 y2 y3 y4, LeO (bones_Blend.j0 k y0 y1 y2 y3 y4) (bones_Blend.j0 (k + 1) y0 y1 y2 y3 y4)) ∧ (∀ y0 y1 y2 y3 y4 y5, LeO (bones_Blend.l0 k y0 y1 y2 y3 y4 y5) (bones_Blend.l0 (k + 1) y0 y1 y2 y3 y4 y5))
 | 0 => ⟨fun _ _ _ _ _ r h => by simp [bones_Blend.j0] at h, fun _ _ _ _ _ _ r h => by simp [bones_Blend.l0] at h⟩
 | k + 1 => by
  obtain ⟨ih0, ih1⟩ := bones_Blend.mono_l k
  refine ⟨?_, ?_⟩
  ·intro y0 y1 y2 y3 y4
   unfold bones_Blend.j0
   repeat' first
   | (with_reducible exact ih0 _ _ _ _ _)
   | (with_reducible exact ih1 _ _ _ _ _ _)
   | (with_reducible exact bones_fitting.mono _ _ _)
   | (with_reducible exact quat_Blend.mono _ _ _ _ _ _ _ _ _ _)
   | (with_reducible exact LeO.refl _)
   | (with_reducible exact LeO.none _)
   | (with_reducible refine LeO.ite ?_ ?_)
   | (with_reducible refine LeO.bind ?_ (fun _ => ?_))
   | exact ih0 _ _ _ _ _
   | exact ih1 _ _ _ _ _ _
   | exact bones_fitting.mono _ _ _
   | exact quat_Blend.mono _ _ _ _ _ _ _ _ _ _
   | exact LeO.none _
   | refine LeO.ite ?_ ?_
   | refine LeO.bind ?_ (fun _ => ?_)
  ·intro y0 y1 y2 y3 y4 y5
   unfold bones_Blend.l0
   repeat' first
   | (with_reducible exact ih0 _ _ _ _ _)
   | (with_reducible exact ih1 _ _ _ _ _ _)
   | (with_reducible exact bones_fitting.mono _ _ _)
   | (with_reducible exact quat_Blend.mono _ _ _ _ _ _ _ _ _ _)
   | (with_reducible exact LeO.refl _)
   | (with_reducible exact LeO.none _)
   | (with_reducible refine LeO.ite ?_ ?_)
   | (with_reducible refine LeO.bind ?_ (fun _ => ?_))
   | exact ih0 _ _ _ _ _
   | exact ih1 _ _ _ _ _ _
   | exact bones_fitting.mono _ _ _
   | exact quat_Blend.mono _ _ _ _ _ _ _ _ _ _
   | exact LeO.none _
   | refine LeO.ite ?_ ?_
   | refine LeO.bind ?_ (fun _ => ?_)
theorem bones_Blend.mono : ∀ a0 a1 a2 a3 k, LeO (bones_Blend.f k a0 a1 a2 a3) (bones_Blend.f (k + 1) a0 a1 a2 a3) := by
 intro a0 a1 a2 a3 k
 obtain ⟨ih0, ih1⟩ := bones_Blend.mono_l k
 unfold bones_Blend.f
 repeat' first
   | (with_reducible exact ih0 _ _ _ _ _)
   | (with_reducible exact ih1 _ _ _ _ _ _)
   | (with_reducible exact bones_fitting.mono _ _ _)
   | (with_reducible exact quat_Blend.mono _ _ _ _ _ _ _ _ _ _)
   | (with_reducible exact LeO.refl _)
   | (with_reducible exact LeO.none _)
   | (with_reducible refine LeO.ite ?_ ?_)
   | (with_reducible refine LeO.bind ?_ (fun _ => ?_))
   | exact ih0 _ _ _ _ _
   | exact ih1 _ _ _ _ _ _
   | exact bones_fitting.mono _ _ _
   | exact quat_Blend.mono _ _ _ _ _ _ _ _ _ _
   | exact LeO.none _
   | refine LeO.ite ?_ ?_
   | refine LeO.bind ?_ (fun _ => ?_)
def bones_Blend.T13 : Bool × List (List Nat × List Nat) := (true, [([], []), ([], []), ([], []), ([1, 2], [1, 2]), ([3], [3]), ([], []), ([], []), ([5, 6], [5, 6]), ([7], [7]), ([], []), ([4, 8, 9], [4, 8, 9]), ([10], [10]), ([0, 11, 10], [0, 11]), ([12, 12, 0, 1, 2, 3, 4, 5, 6, 7, 8, 9, 10, 11, 12], [0, 12])])
def bones_Blend.B13 : List Nat := [0, 0, 0, 6, 14, 0, 0, 96, 224, 0, 1022, 2046, 4095, 8191]
theorem bones_Blend.tab13 : rtab .any (opsOf Try.f18 13) = bones_Blend.T13 := by kernel_rfl
theorem bones_Blend.bits13 : waitsOk bones_Blend.T13.2 bones_Blend.B13 = true := by kernel_rfl
set_option maxHeartbeats 8000000 in
set_option maxRecDepth 100000 in
theorem bones_Blend.calls (k : Nat) (A0 : Option Addr) (c0 : Nat) (l0 : List (S35)) (A1 : Option Addr) (c1 : Nat) (l1 : List (S37)) (A2 : Option Addr) (c2 : Nat) (l2 : List (S37)) (a3 : Int) (r1 : List (S37)) (r2 : Int) (w : World) (hr0 : Kd.C k35 w A0 l0.length l0) (hc0 : l0.length ≤ c0) (hr1 : Kd.C k37 w A1 l1.length l1) (hc1 : l1.length ≤ c1) (hr2 : Kd.C k37 w A2 l2.length l2) (hc2 : l2.length ≤ c2) (h : bones_Blend.f k l0 l1 l2 a3 = some (r1, r2)) :
  Calls Try.prog 18 #[.slice A0 l0.length c0, .slice A1 l1.length c1, .slice A2 l2.length c2, .int .i64 a3] w fun e w' => ∃ v0_ : Value, e = .returned (.tuple #[v0_, .int .i64 r2]) ∧ Kd.R k37 37 w' w.heap.size (fun _ => True) v0_ r1 ∧ Below w.heap.size w w' := by
 have hu37 := Try.underlying37
 have HR0 := Aside0.mk hr0
 have HC0 := Aside0.mk hc0
 clear hr0 hc0
 have HR1 := Aside0.mk hr1
 have HC1 := Aside0.mk hc1
 clear hr1 hc1
 have HR2 := Aside0.mk hr2
 have HC2 := Aside0.mk hc2
 clear hr2 hc2
 have HB := Aside0.mk (Below.refl w.heap.size w)
 have H : ((bones_fitting.f k l0 l1).bind fun t314 => (if t314 = 0 then ((bones_fitting.f k l0 l2).bind fun t315 => (if t315 = 0 then (if a3 < 0 then (bones_Blend.j0 k l0 l1 l2 a3 true) else (bones_Blend.j0 k l0 l1 l2 a3 (decide (a3 > 65536)))) else (some (([] : List (S37)), t315)))) else (some (([] : List (S37)), t314)))) = some (r1, r2) := h
 clear h
 replace H := Option.bind_eq_some_iff.mp H
 obtain ⟨t314, A50, H⟩ := H
 replace H : (if t314 = 0 then ((bones_fitting.f k l0 l2).bind fun t315 => (if t315 = 0 then (if a3 < 0 then (bones_Blend.j0 k l0 l1 l2 a3 true) else (bones_Blend.j0 k l0 l1 l2 a3 (decide (a3 > 65536)))) else (some (([] : List (S37)), t315)))) else (some (([] : List (S37)), t314))) = some (r1, r2) := H
 have A5 := Aside0.mk A50
 clear A50
 by_cases c6 : t314 = 0
 ·rw [if_pos c6] at H
  have c6b0 : (t314 == 0) = true := beq_iff_eq.mpr c6
  have c6b1 : (t314 != 0) = false := bne_eq_false_iff_eq.mpr c6
  clear c6
  replace H := Option.bind_eq_some_iff.mp H
  obtain ⟨t315, A70, H⟩ := H
  replace H : (if t315 = 0 then (if a3 < 0 then (bones_Blend.j0 k l0 l1 l2 a3 true) else (bones_Blend.j0 k l0 l1 l2 a3 (decide (a3 > 65536)))) else (some (([] : List (S37)), t315))) = some (r1, r2) := H
  have A7 := Aside0.mk A70
  clear A70
  by_cases c8 : t315 = 0
  ·rw [if_pos c8] at H
   have c8b0 : (t315 == 0) = true := beq_iff_eq.mpr c8
   have c8b1 : (t315 != 0) = false := bne_eq_false_iff_eq.mpr c8
   clear c8
   have HC9 := Aside0.mk H
   clear H
   go_enter Try.func18, Try.ntmps18
   go_upto_region 7 with (first | ((with_reducible refine gate_callee (f := 27) rfl ?_); refine goesL_ (some 16) rfl rfl Try.func27 (by kernel_rfl) rfl #[.slice A0 l0.length c0, .slice A1 l1.length c1] rfl (by (try simp only [zm1, zm2, zm3]); first | done | rfl) ?_; (with_reducible refine (bones_fitting.calls k _ _ l0 _ _ l1 t314 _ ?side1 ?side2 ?side3 ?side4 A5.out).mono ?_); (case side1 => repeat (first | exact HR0.out | (with_reducible refine Kd.C_alloc ?_ _) | (with_reducible refine Kd.C_drewN ?_ _) | (with_reducible refine Kd.C_drew ?_))); (case side2 => exact HC0.out); (case side3 => repeat (first | exact HR1.out | (with_reducible refine Kd.C_alloc ?_ _) | (with_reducible refine Kd.C_drewN ?_ _) | (with_reducible refine Kd.C_drew ?_))); (case side4 => exact HC1.out); rintro e w10 ⟨rfl, hb⟩; refine ⟨_, rfl, ?_⟩; have n0_ := Aside0.mk (below_step (by repeat (first | (with_reducible first | exact HB.out | apply below_alloc | apply pw_below_drewN | apply below_drew1) | exact HB.out)) hb); clear HB; have HB := n0_; clear n0_; (try clear hb); (try clear hb2); (try clear hk); (try clear hi)) | ((with_reducible refine gate_callee (f := 27) rfl ?_); refine goesL_ (some 22) rfl rfl Try.func27 (by kernel_rfl) rfl #[.slice A0 l0.length c0, .slice A2 l2.length c2] rfl (by (try simp only [zm1, zm2, zm3]); first | done | rfl) ?_; (with_reducible refine (bones_fitting.calls k _ _ l0 _ _ l2 t315 _ ?side1 ?side2 ?side3 ?side4 A7.out).mono ?_); (case side1 => repeat (first | exact (Kd.C_below HR0.out HB.out) | (with_reducible refine Kd.C_alloc ?_ _) | (with_reducible refine Kd.C_drewN ?_ _) | (with_reducible refine Kd.C_drew ?_))); (case side2 => exact HC0.out); (case side3 => repeat (first | exact (Kd.C_below HR2.out HB.out) | (with_reducible refine Kd.C_alloc ?_ _) | (with_reducible refine Kd.C_drewN ?_ _) | (with_reducible refine Kd.C_drew ?_))); (case side4 => exact HC2.out); rintro e w11 ⟨rfl, hb⟩; refine ⟨_, rfl, ?_⟩; have n0_ := Aside0.mk (below_step (by repeat (first | (with_reducible first | exact HB.out | apply below_alloc | apply pw_below_drewN | apply below_drew1) | exact HB.out)) hb); clear HB; have HB := n0_; clear n0_; (try clear hb); (try clear hb2); (try clear hk); (try clear hi)))
   (try simp only [Act.put, zq1, zq2, zq3])
   go_cut [31] (fun v31 wc => ∃ (kq : Nat) (x31_8 : Bool), v31 = .bool x31_8 ∧ Aside0 (bones_Blend.j0 kq l0 l1 l2 a3 x31_8 = some (r1, r2)) ∧ Aside0 (kq ≤ k) ∧ Aside0 (Below w.heap.size w wc))
   case first =>
    have H := HC9.out
    clear HC9
    by_cases c12 : a3 < 0
    ·rw [if_pos c12] at H
     have c12b0 : decide (a3 < 0) = true := decide_eq_true c12
     clear c12
     (first | rw [c12b0] | (simp only [i64_w, i32_w]; rw [c12b0]) | skip)
     have H' := Aside0.mk H
     clear H
     go_wp2
     go_meet
     case rel => exact ⟨_, (true), (by first | rfl | (simp; done) | (simp [*]; done)), H', ⟨by first | omega | exact Nat.le_refl _⟩, ⟨by repeat (first | (with_reducible first | exact HB.out | apply below_alloc | apply pw_below_drewN | apply below_drew1) | exact HB.out)⟩⟩
    ·rw [if_neg c12] at H
     have c12b0 : decide (a3 < 0) = false := decide_eq_false c12
     clear c12
     (first | rw [c12b0] | (simp only [i64_w, i32_w]; rw [c12b0]) | skip)
     have H' := Aside0.mk H
     clear H
     go_wp2
     go_meet
     case rel => exact ⟨_, (decide (a3 > 65536)), (by first | rfl | (simp; done) | (simp [*]; done)), H', ⟨by first | omega | exact Nat.le_refl _⟩, ⟨by repeat (first | (with_reducible first | exact HB.out | apply below_alloc | apply pw_below_drewN | apply below_drew1) | exact HB.out)⟩⟩
   case rest =>
    clear HC9
    try clear c1; try clear c2; try clear p2; try clear c6; try clear c6b0; try clear c6b1; try clear c8; try clear c8b0
    try clear c8b1; try clear c12; try clear c12b0
    obtain ⟨kq, x31_8, rfl, HA, HJ8, HB⟩ := hcut
    cases kq with
    | zero => exact absurd HA.out (by simp [bones_Blend.j0])
    | succ kj8 =>
     have H := HA.out
     clear HA
     simp only [bones_Blend.j0] at H
     by_cases c13 : x31_8 = true
     ·subst c13
      have H1 : (some (([] : List (S37)), 1)) = some (r1, r2) := by rw [if_pos rfl] at H; exact H
      clear H
      have H := H1
      clear H1
      simp only [Option.some.injEq, Prod.mk.injEq] at H
      obtain ⟨rfl, rfl⟩ := H
      go_wp2
      go_ret2
      exact ⟨_, by first | rfl | (simp [errW_none, errW_some] <;> rfl) | (simp [*, errW_none, errW_some] <;> rfl), by first | exact Kd.R_nil _ _ _ _ _ | exact Kd.N_nil _ _ _ _ _ | exact Kd.V_nil _ _ _ _ _ | exact Kd.Q_nil _ _ _ _ _ | exact Kd.S_nil _ _ _ _ _, by repeat (first | (with_reducible first | exact HB.out | apply below_alloc | apply pw_below_drewN | apply below_drew1) | exact HB.out)⟩
     ·replace c13 := Bool.eq_false_iff.mpr c13
      subst c13
      have H1 : (bones_Blend.l0 kj8 l1 l2 a3 ([] : List (S37)) (l0.length : Int) 0) = some (r1, r2) := by rw [if_neg (show ¬ (false = true) by decide)] at H; exact H
      clear H
      have H := H1
      clear H1
      have H' := Aside0.mk H
      clear H
      go_wp2
      go_loopg [12, 34] kj8 (fun kq v12 v34 w' => ∃ (x12_2 : List (S37)) (x34_2 : Int), v34 = .int .i64 x34_2 ∧ Aside0 (bones_Blend.l0 kq l1 l2 a3 x12_2 (l0.length : Int) x34_2 = some (r1, r2)) ∧ Aside0 (kq ≤ kj8) ∧ Aside0 (Kd.R k37 37 w' w.heap.size (fun _ => True) v12 x12_2) ∧ Aside0 (Below w.heap.size w w'))
      case atStart => exact ⟨(([] : List (S37))), (0), (by first | rfl | (simp; done) | (simp [*]; done)), H', ⟨Nat.le_refl _⟩, ⟨by first | exact Kd.R_nil _ _ _ _ _ | exact Kd.N_nil _ _ _ _ _ | exact Kd.V_nil _ _ _ _ _ | exact Kd.Q_nil _ _ _ _ _ | exact Kd.S_nil _ _ _ _ _⟩, ⟨by repeat (first | (with_reducible first | exact HB.out | apply below_alloc | apply pw_below_drewN | apply below_drew1) | exact HB.out)⟩⟩
      case round =>
       clear H'
       try clear c1; try clear c2; try clear p2; try clear c6; try clear c6b0; try clear c6b1; try clear c8; try clear c8b0
       try clear c8b1; try clear c12; try clear c12b0; try clear c13; try clear p2
       obtain ⟨x12_2, x34_2, rfl, HA, HK2, HO_12, HB⟩ := hrel
       cases gk with
       | zero => exact absurd HA.out (by simp [bones_Blend.l0])
       | succ k2 =>
        have H := HA.out
        clear HA
        simp only [bones_Blend.l0] at H
        by_cases c14 : x34_2 < (l0.length : Int)
        ·rw [if_pos c14] at H
         have c14b0 : decide (x34_2 < (l0.length : Int)) = true := decide_eq_true c14
         clear c14
         by_cases c15 : 0 ≤ x34_2
         ·rw [if_pos c15] at H
          have c15b0 : decide (0 ≤ x34_2) = true := decide_eq_true c15
          clear c15
          by_cases c16 : x34_2 < (l1.length : Int)
          ·rw [if_pos c16] at H
           have c16b0 : decide (x34_2 < (l1.length : Int)) = true := decide_eq_true c16
           clear c16
           by_cases c17 : x34_2 < (l2.length : Int)
           ·rw [if_pos c17] at H
            have c17b0 : decide (x34_2 < (l2.length : Int)) = true := decide_eq_true c17
            clear c17
            replace H := Option.bind_eq_some_iff.mp H
            obtain ⟨⟨t318, t319, t320, t321⟩, A180, H⟩ := H
            replace H : (if x12_2.length < 4398046511104 then (bones_Blend.l0 k2 l1 l2 a3 (x12_2 ++ [(⟨t318, t319, t320, t321⟩ : S37)]) (l0.length : Int) (wrap64 (x34_2 + 1))) else (none)) = some (r1, r2) := H
            have A18 := Aside0.mk A180
            clear A180
            by_cases c19 : x12_2.length < 4398046511104
            ·rw [if_pos c19] at H
             have LMc19 := Aside0.mk c19
             clear c19
             obtain ⟨y322, hy322⟩ : ∃ y_ : List (S37), y_ = (x12_2 ++ [(⟨t318, t319, t320, t321⟩ : S37)]) := ⟨_, rfl⟩
             replace H : (bones_Blend.l0 k2 l1 l2 a3 y322 (l0.length : Int) (wrap64 (x34_2 + 1))) = some (r1, r2) := by first | (rw [hy322]; with_reducible exact H) | (have H2_ := (Option.bind_some _ _).symm.trans H; rw [hy322]; with_reducible exact H2_) | (have H2_ := (Option.bind_some _ _).symm.trans H; with_reducible exact H2_) | with_reducible exact H | (rw [hy322]; exact H) | exact H
             have Ny322 := Aside0.mk hy322
             clear hy322
             have H' := Aside0.mk H
             clear H
             try go_wp2
             have n0_ := Aside0.mk (Kd.R_drew HO_12.out)
             have n1_ := Aside0.mk (below_drew1 HB.out)
             clear HO_12
             clear HB
             have HO_12 := n0_
             have HB := n1_
             clear n0_ n1_
             have p316 : 0 ≤ (x34_2 : Int) := of_decide_eq_true (by first | (with_reducible assumption) | assumption)
             have q316 : x34_2 < (l1.length : Int) := of_decide_eq_true (by first | (with_reducible assumption) | assumption)
             obtain ⟨ad316, e316, hx316_0, hx316_1, hx316_2, hx316_3⟩ := at_T37 HR1.out x34_2 p316 q316
             have hw316_3 := hx316_3
             have hw316_2 := hx316_2
             have hw316_1 := hx316_1
             have hw316_0 := hx316_0
             cases e316
             replace hx316_0 := (HB.out.cell (World.block_lt_of_cell? w _ hx316_0)).trans hx316_0
             replace hx316_1 := (HB.out.cell (World.block_lt_of_cell? w _ hx316_1)).trans hx316_1
             replace hx316_2 := (HB.out.cell (World.block_lt_of_cell? w _ hx316_2)).trans hx316_2
             replace hx316_3 := (HB.out.cell (World.block_lt_of_cell? w _ hx316_3)).trans hx316_3
             replace p316 := eq_true p316
             replace q316 := eq_true q316
             have p317 : 0 ≤ (x34_2 : Int) := of_decide_eq_true (by first | (with_reducible assumption) | assumption)
             have q317 : x34_2 < (l2.length : Int) := of_decide_eq_true (by first | (with_reducible assumption) | assumption)
             obtain ⟨ad317, e317, hx317_0, hx317_1, hx317_2, hx317_3⟩ := at_T37 HR2.out x34_2 p317 q317
             have hw317_3 := hx317_3
             have hw317_2 := hx317_2
             have hw317_1 := hx317_1
             have hw317_0 := hx317_0
             cases e317
             replace hx317_0 := (HB.out.cell (World.block_lt_of_cell? w _ hx317_0)).trans hx317_0
             replace hx317_1 := (HB.out.cell (World.block_lt_of_cell? w _ hx317_1)).trans hx317_1
             replace hx317_2 := (HB.out.cell (World.block_lt_of_cell? w _ hx317_2)).trans hx317_2
             replace hx317_3 := (HB.out.cell (World.block_lt_of_cell? w _ hx317_3)).trans hx317_3
             replace p317 := eq_true p317
             replace q317 := eq_true q317
             refine start_ (n := 14) (S := fun w' => w'.cell? (ad316.add ((x34_2).toNat * 4)) = some (.int .i64 ((rd_T37 l1 x34_2).f0)) ∧ w'.cell? ⟨(ad316.add ((x34_2).toNat * 4)).block, (ad316.add ((x34_2).toNat * 4)).off + 1, none⟩ = some (.int .i64 ((rd_T37 l1 x34_2).f1)) ∧ w'.cell? ⟨(ad316.add ((x34_2).toNat * 4)).block, (ad316.add ((x34_2).toNat * 4)).off + 2, none⟩ = some (.int .i64 ((rd_T37 l1 x34_2).f2)) ∧ w'.cell? ⟨(ad316.add ((x34_2).toNat * 4)).block, (ad316.add ((x34_2).toNat * 4)).off + 3, none⟩ = some (.int .i64 ((rd_T37 l1 x34_2).f3)) ∧ w'.cell? (ad317.add ((x34_2).toNat * 4)) = some (.int .i64 ((rd_T37 l2 x34_2).f0)) ∧ w'.cell? ⟨(ad317.add ((x34_2).toNat * 4)).block, (ad317.add ((x34_2).toNat * 4)).off + 1, none⟩ = some (.int .i64 ((rd_T37 l2 x34_2).f1)) ∧ w'.cell? ⟨(ad317.add ((x34_2).toNat * 4)).block, (ad317.add ((x34_2).toNat * 4)).off + 2, none⟩ = some (.int .i64 ((rd_T37 l2 x34_2).f2)) ∧ w'.cell? ⟨(ad317.add ((x34_2).toNat * 4)).block, (ad317.add ((x34_2).toNat * 4)).off + 3, none⟩ = some (.int .i64 ((rd_T37 l2 x34_2).f3))) (ds := []) (ab 14 0) (by kernel_rfl) rfl rfl ⟨((HB.out.cell (World.block_lt_of_cell? w _ hw316_0)).trans hw316_0), ((HB.out.cell (World.block_lt_of_cell? w _ hw316_1)).trans hw316_1), ((HB.out.cell (World.block_lt_of_cell? w _ hw316_2)).trans hw316_2), ((HB.out.cell (World.block_lt_of_cell? w _ hw316_3)).trans hw316_3), ((HB.out.cell (World.block_lt_of_cell? w _ hw317_0)).trans hw317_0), ((HB.out.cell (World.block_lt_of_cell? w _ hw317_1)).trans hw317_1), ((HB.out.cell (World.block_lt_of_cell? w _ hw317_2)).trans hw317_2), ((HB.out.cell (World.block_lt_of_cell? w _ hw317_3)).trans hw317_3)⟩ (fun hHeld => ?_); refine with_tabW bones_Blend.tab13 bones_Blend.bits13 (fun HT_ HW_ => ?_)
             generalize wr.drew = w20 at HO_12 HB hx316_0 hx316_1 hx316_2 hx316_3 hx317_0 hx317_1 hx317_2 hx317_3 hHeld ⊢
             refine pure_ (i := 0) (N := some 37) (v := ?_) (a' := ?_) (ab 14 1) rfl rfl (any_of HT_.out (by kernel_rfl)) (fun _ _ _ h => h) (Or.inl ⟨by rfl, ?_⟩) ?_ ?_
             rotate_left
             ·intro w'
              go_simp
              with_reducible rfl
             rotate_left
             ·simp only [Act.put, zq1, zq2, zq3, i64_w, i32_w]
              rfl
             refine pure_ (i := 1) (N := some 38) (v := ?_) (a' := ?_) (ab 14 3) rfl rfl (any_of HT_.out (by kernel_rfl)) (fun _ _ _ h => h) (Or.inl ⟨by rfl, ?_⟩) ?_ ?_
             rotate_left
             ·intro w'
              go_simp
              with_reducible rfl
             rotate_left
             ·simp only [Act.put, zq1, zq2, zq3, i64_w, i32_w]
              rfl
             refine pure_ (i := 2) (N := some 39) (v := ?_) (a' := ?_) (ab 14 7) rfl rfl (any_of HT_.out (by kernel_rfl)) (fun _ _ _ h => h) (Or.inl ⟨by rfl, ?_⟩) ?_ ?_
             rotate_left
             ·intro w'
              go_simp
              with_reducible rfl
             rotate_left
             ·simp only [Act.put, zq1, zq2, zq3, i64_w, i32_w]
              rfl
             refine pure_ (i := 3) (N := some 40) (v := ?_) (a' := ?_) (ab 14 15) rfl rfl (any_of HT_.out (by kernel_rfl)) (fun _ _ _ h => h) (Or.inl ⟨by rfl, ?_⟩) ?_ ?_
             rotate_left
             ·intro w'
              go_simp
              with_reducible rfl
             rotate_left
             ·simp only [Act.put, zq1, zq2, zq3, i64_w, i32_w]
              rfl
             refine pure_ (i := 5) (N := some 42) (v := ?_) (a' := ?_) (ab 14 47) rfl rfl (any_of HT_.out (by kernel_rfl)) (fun _ _ _ h => h) (Or.inl ⟨by rfl, ?_⟩) ?_ ?_
             rotate_left
             ·intro w'
              go_simp
              with_reducible rfl
             rotate_left
             ·simp only [Act.put, zq1, zq2, zq3, i64_w, i32_w]
              rfl
             refine pure_ (i := 6) (N := some 43) (v := ?_) (a' := ?_) (ab 14 111) rfl rfl (any_of HT_.out (by kernel_rfl)) (fun _ _ _ h => h) (Or.inl ⟨by rfl, ?_⟩) ?_ ?_
             rotate_left
             ·intro w'
              go_simp
              with_reducible rfl
             rotate_left
             ·simp only [Act.put, zq1, zq2, zq3, i64_w, i32_w]
              rfl
             refine pure_ (i := 7) (N := some 44) (v := ?_) (a' := ?_) (ab 14 239) rfl rfl (any_of HT_.out (by kernel_rfl)) (fun _ _ _ h => h) (Or.inl ⟨by rfl, ?_⟩) ?_ ?_
             rotate_left
             ·intro w'
              go_simp
              with_reducible rfl
             rotate_left
             ·simp only [Act.put, zq1, zq2, zq3, i64_w, i32_w]
              rfl
             refine pure_ (i := 9) (N := some 46) (v := ?_) (a' := ?_) (ab 14 751) rfl rfl (any_of HT_.out (by kernel_rfl)) (fun _ _ _ h => h) (Or.inl ⟨by rfl, ?_⟩) ?_ ?_
             rotate_left
             ·intro w'
              go_simp
              with_reducible rfl
             rotate_left
             ·simp only [Act.put, zq1, zq2, zq3, i64_w, i32_w]
              rfl
             refine take_ (i := 4) (N := some 41) (v := ?_) (a' := ?_) (ab 14 767) rfl rfl (take_ofW HT_.out HW_.out (by kernel_rfl)) (fun _ _ _ h => h) (Or.inl ⟨by rfl, ?_⟩) hHeld ?_ ?_
             rotate_left
             ·rintro w' ⟨s0, s1, s2, s3, s4, s5, s6, s7⟩
              go_simp
              with_reducible rfl
             rotate_left
             ·simp only [Act.put, zq1, zq2, zq3, i64_w, i32_w]
              rfl
             refine take_ (i := 8) (N := some 45) (v := ?_) (a' := ?_) (ab 14 1023) rfl rfl (take_ofW HT_.out HW_.out (by kernel_rfl)) (fun _ _ _ h => h) (Or.inl ⟨by rfl, ?_⟩) hHeld ?_ ?_
             rotate_left
             ·rintro w' ⟨s0, s1, s2, s3, s4, s5, s6, s7⟩
              go_simp
              with_reducible rfl
             rotate_left
             ·simp only [Act.put, zq1, zq2, zq3, i64_w, i32_w]
              rfl
             refine one_ (i := 10) (N := some 47) (ab 14 2047) rfl rfl (one_of HT_.out (by kernel_rfl)) (by decide) (fun K hK => ?_)
             refine goes_ Try.func15 (by kernel_rfl) rfl #[.agg #[.int .i64 ((rd_T37 l1 x34_2).f0), .int .i64 ((rd_T37 l1 x34_2).f1), .int .i64 ((rd_T37 l1 x34_2).f2), .int .i64 ((rd_T37 l1 x34_2).f3)], .agg #[.int .i64 ((rd_T37 l2 x34_2).f0), .int .i64 ((rd_T37 l2 x34_2).f1), .int .i64 ((rd_T37 l2 x34_2).f2), .int .i64 ((rd_T37 l2 x34_2).f3)], .int .i64 a3] (by rfl) rfl rfl (by (try simp only [zm1, zm2, zm3]); first | done | rfl) ?_
             with_reducible refine (quat_Blend.calls k2 ((rd_T37 l1 x34_2).f0) ((rd_T37 l1 x34_2).f1) ((rd_T37 l1 x34_2).f2) ((rd_T37 l1 x34_2).f3) ((rd_T37 l2 x34_2).f0) ((rd_T37 l2 x34_2).f1) ((rd_T37 l2 x34_2).f2) ((rd_T37 l2 x34_2).f3) a3 t318 t319 t320 t321 _ A18.out).mono ?_
             rintro e w21 ⟨rfl, hb⟩
             refine ⟨_, rfl, ?_⟩
             have n0_ := Aside0.mk (Kd.R_below (by (with_reducible repeat (first | apply Kd.R_alloc | apply Kd.R_drewN | apply Kd.R_drew)); exact HO_12.out) hb)
             have n1_ := Aside0.mk (below_step (by repeat (first | (with_reducible first | exact HB.out | apply below_alloc | apply pw_below_drewN | apply below_drew1) | exact HB.out)) hb)
             clear HO_12
             clear HB
             have HO_12 := n0_
             have HB := n1_
             clear n0_ n1_
             (try clear hb)
             (try clear hb2)
             (try clear hk)
             (try clear hi)
             refine hK.out _ _ ⟨((HB.out.cell (World.block_lt_of_cell? w _ hw316_0)).trans hw316_0), ((HB.out.cell (World.block_lt_of_cell? w _ hw316_1)).trans hw316_1), ((HB.out.cell (World.block_lt_of_cell? w _ hw316_2)).trans hw316_2), ((HB.out.cell (World.block_lt_of_cell? w _ hw316_3)).trans hw316_3), ((HB.out.cell (World.block_lt_of_cell? w _ hw317_0)).trans hw317_0), ((HB.out.cell (World.block_lt_of_cell? w _ hw317_1)).trans hw317_1), ((HB.out.cell (World.block_lt_of_cell? w _ hw317_2)).trans hw317_2), ((HB.out.cell (World.block_lt_of_cell? w _ hw317_3)).trans hw317_3)⟩ (fun hHeld => ?_)
             clear hK K
             refine norm_ (a' := ?_) ?_ ?_
             rotate_left
             ·show Act.put _ (some 47) _ = _
              simp only [Act.put, zq1, zq2, zq3, i64_w, i32_w]
              rfl
             refine one_ (i := 11) (N := some 48) (ab 14 4095) rfl rfl (one_of HT_.out (by kernel_rfl)) (by decide) (fun K hK => ?_)
             refine value_ (w1 := ?_) (v := ?_) (by rfl) rfl ?_ ?_
             rotate_left 2
             ·go_simp
              constructor
              ·rfl
              ·rfl
             refine hK.out _ _ ⟨(World.cell?_alloc_lt _ _ _ (World.block_lt_of_cell? _ _ (((HB.out.cell (World.block_lt_of_cell? w _ hw316_0)).trans hw316_0)))).trans (((HB.out.cell (World.block_lt_of_cell? w _ hw316_0)).trans hw316_0)), (World.cell?_alloc_lt _ _ _ (World.block_lt_of_cell? _ _ (((HB.out.cell (World.block_lt_of_cell? w _ hw316_1)).trans hw316_1)))).trans (((HB.out.cell (World.block_lt_of_cell? w _ hw316_1)).trans hw316_1)), (World.cell?_alloc_lt _ _ _ (World.block_lt_of_cell? _ _ (((HB.out.cell (World.block_lt_of_cell? w _ hw316_2)).trans hw316_2)))).trans (((HB.out.cell (World.block_lt_of_cell? w _ hw316_2)).trans hw316_2)), (World.cell?_alloc_lt _ _ _ (World.block_lt_of_cell? _ _ (((HB.out.cell (World.block_lt_of_cell? w _ hw316_3)).trans hw316_3)))).trans (((HB.out.cell (World.block_lt_of_cell? w _ hw316_3)).trans hw316_3)), (World.cell?_alloc_lt _ _ _ (World.block_lt_of_cell? _ _ (((HB.out.cell (World.block_lt_of_cell? w _ hw317_0)).trans hw317_0)))).trans (((HB.out.cell (World.block_lt_of_cell? w _ hw317_0)).trans hw317_0)), (World.cell?_alloc_lt _ _ _ (World.block_lt_of_cell? _ _ (((HB.out.cell (World.block_lt_of_cell? w _ hw317_1)).trans hw317_1)))).trans (((HB.out.cell (World.block_lt_of_cell? w _ hw317_1)).trans hw317_1)), (World.cell?_alloc_lt _ _ _ (World.block_lt_of_cell? _ _ (((HB.out.cell (World.block_lt_of_cell? w _ hw317_2)).trans hw317_2)))).trans (((HB.out.cell (World.block_lt_of_cell? w _ hw317_2)).trans hw317_2)), (World.cell?_alloc_lt _ _ _ (World.block_lt_of_cell? _ _ (((HB.out.cell (World.block_lt_of_cell? w _ hw317_3)).trans hw317_3)))).trans (((HB.out.cell (World.block_lt_of_cell? w _ hw317_3)).trans hw317_3))⟩ (fun hHeld => ?_)
             clear hK K
             refine norm_ (a' := ?_) ?_ ?_
             rotate_left
             ·show Act.put _ (some 48) _ = _
              simp only [Act.put, zq1, zq2, zq3, i64_w, i32_w]
              rfl
             refine one_ (i := 12) (N := some 49) (ab 14 8191) rfl rfl (one_of HT_.out (by kernel_rfl)) (by decide) (fun K hK => ?_)
             refine Kd.R_append_step k37 (w0 := w) w.heap.size (by rfl) (.tmp 37) (.tmp 48) 30 37 (.agg #[(.int .i64 0), (.int .i64 0), (.int .i64 0), (.int .i64 0)]) 32 rfl Try.underlying30 info37 rfl (by decide) (by omega) u12 x12_2 (⟨t318, t319, t320, t321⟩ : S37) [.int .i64 t318, .int .i64 t319, .int .i64 t320, .int .i64 t321] (fun _ => True) (fun _ => False) rfl rfl ?aP (fun _ hk => hk.elim) ?aF ?aO ?aB ?aS ?aL ?_
             (case aP => exact k37_mkM _ _ _ (⟨t318, t319, t320, t321⟩ : S37))
             (case aB => exact (by repeat (first | (with_reducible first | exact HB.out | apply below_alloc | apply pw_below_drewN | apply below_drew1) | exact HB.out)))
             (case aF => exact (fun _ _ => trivial))
             (case aO => exact (by (with_reducible repeat (first | apply Kd.R_alloc | apply Kd.R_drewN | apply Kd.R_drew)); exact HO_12.out))
             (case aS => exact (below_size (by repeat (first | (with_reducible first | exact HB.out | apply below_alloc | apply pw_below_drewN | apply below_drew1) | exact HB.out))))
             (case aL => have := LMc19.out; omega)
             intro v323 w22 ho hb hg hat
             rw [← Ny322.out] at ho
             have n0_ := Aside0.mk (hb)
             have n1_ := Aside0.mk (ho)
             clear HB
             clear HO_12
             have HB := n0_
             have HO324 := n1_
             clear n0_ n1_
             clear ho hb hg hat
             refine hK.out _ _ ⟨((HB.out.cell (World.block_lt_of_cell? w _ hw316_0)).trans hw316_0), ((HB.out.cell (World.block_lt_of_cell? w _ hw316_1)).trans hw316_1), ((HB.out.cell (World.block_lt_of_cell? w _ hw316_2)).trans hw316_2), ((HB.out.cell (World.block_lt_of_cell? w _ hw316_3)).trans hw316_3), ((HB.out.cell (World.block_lt_of_cell? w _ hw317_0)).trans hw317_0), ((HB.out.cell (World.block_lt_of_cell? w _ hw317_1)).trans hw317_1), ((HB.out.cell (World.block_lt_of_cell? w _ hw317_2)).trans hw317_2), ((HB.out.cell (World.block_lt_of_cell? w _ hw317_3)).trans hw317_3)⟩ (fun hHeld => ?_)
             clear hK K
             refine norm_ (a' := ?_) ?_ ?_
             rotate_left
             ·show Act.put _ (some 49) _ = _
              simp only [Act.put, zq1, zq2, zq3, i64_w, i32_w]
              rfl
             refine pure_ (i := 13) (N := some 12) (v := ?_) (a' := ?_) (ab 14 16383) rfl rfl (any_of HT_.out (by kernel_rfl)) (fun _ _ _ h => h) (Or.inl ⟨by rfl, ?_⟩) ?_ ?_
             rotate_left
             ·intro w'
              go_simp
              with_reducible rfl
             rotate_left
             ·simp only [Act.put, zq1, zq2, zq3, i64_w, i32_w]
              rfl
             refine done_ (done_of HT_.out (by kernel_rfl)) ?_
             try go_wp2
             go_roundg k2
             case measure => have := HJ8.out; have := HK2.out; omega
             case rel => exact ⟨(y322), (wrap64 (x34_2 + 1)), (by first | rfl | (simp; done) | (simp [*]; done)), H', ⟨by have := HJ8.out; have := HK2.out; omega⟩, ⟨by (with_reducible repeat (first | apply Kd.R_alloc | apply Kd.R_drewN | apply Kd.R_drew)); exact HO324.out⟩, ⟨by repeat (first | (with_reducible first | exact HB.out | apply below_alloc | apply pw_below_drewN | apply below_drew1) | exact HB.out)⟩⟩
            ·rw [if_neg c19] at H
             exact absurd H (by simp)
           ·rw [if_neg c17] at H
            exact absurd H (by simp)
          ·rw [if_neg c16] at H
           exact absurd H (by simp)
         ·rw [if_neg c15] at H
          exact absurd H (by simp)
        ·rw [if_neg c14] at H
         have c14b0 : decide (x34_2 < (l0.length : Int)) = false := decide_eq_false c14
         clear c14
         simp only [Option.some.injEq, Prod.mk.injEq] at H
         obtain ⟨rfl, rfl⟩ := H
         go_wp2
         go_ret2
         exact ⟨_, by first | rfl | (simp [errW_none, errW_some] <;> rfl) | (simp [*, errW_none, errW_some] <;> rfl), by (with_reducible repeat (first | apply Kd.R_alloc | apply Kd.R_drewN | apply Kd.R_drew)); exact HO_12.out, by repeat (first | (with_reducible first | exact HB.out | apply below_alloc | apply pw_below_drewN | apply below_drew1) | exact HB.out)⟩
  ·rw [if_neg c8] at H
   have c8b0 : (t315 == 0) = false := beq_eq_false_iff_ne.mpr c8
   have c8b1 : (t315 != 0) = true := bne_iff_ne.mpr c8
   simp only [Option.some.injEq, Prod.mk.injEq] at H
   obtain ⟨rfl, rfl⟩ := H
   go_enter Try.func18, Try.ntmps18
   go_wp2_with (first | ((with_reducible refine gate_callee (f := 27) rfl ?_); refine goesL_ (some 16) rfl rfl Try.func27 (by kernel_rfl) rfl #[.slice A0 l0.length c0, .slice A1 l1.length c1] rfl (by (try simp only [zm1, zm2, zm3]); first | done | rfl) ?_; (with_reducible refine (bones_fitting.calls k _ _ l0 _ _ l1 t314 _ ?side1 ?side2 ?side3 ?side4 A5.out).mono ?_); (case side1 => repeat (first | exact HR0.out | (with_reducible refine Kd.C_alloc ?_ _) | (with_reducible refine Kd.C_drewN ?_ _) | (with_reducible refine Kd.C_drew ?_))); (case side2 => exact HC0.out); (case side3 => repeat (first | exact HR1.out | (with_reducible refine Kd.C_alloc ?_ _) | (with_reducible refine Kd.C_drewN ?_ _) | (with_reducible refine Kd.C_drew ?_))); (case side4 => exact HC1.out); rintro e w23 ⟨rfl, hb⟩; refine ⟨_, rfl, ?_⟩; have n0_ := Aside0.mk (below_step (by repeat (first | (with_reducible first | exact HB.out | apply below_alloc | apply pw_below_drewN | apply below_drew1) | exact HB.out)) hb); clear HB; have HB := n0_; clear n0_; (try clear hb); (try clear hb2); (try clear hk); (try clear hi)) | ((with_reducible refine gate_callee (f := 27) rfl ?_); refine goesL_ (some 22) rfl rfl Try.func27 (by kernel_rfl) rfl #[.slice A0 l0.length c0, .slice A2 l2.length c2] rfl (by (try simp only [zm1, zm2, zm3]); first | done | rfl) ?_; (with_reducible refine (bones_fitting.calls k _ _ l0 _ _ l2 t315 _ ?side1 ?side2 ?side3 ?side4 A7.out).mono ?_); (case side1 => repeat (first | exact (Kd.C_below HR0.out HB.out) | (with_reducible refine Kd.C_alloc ?_ _) | (with_reducible refine Kd.C_drewN ?_ _) | (with_reducible refine Kd.C_drew ?_))); (case side2 => exact HC0.out); (case side3 => repeat (first | exact (Kd.C_below HR2.out HB.out) | (with_reducible refine Kd.C_alloc ?_ _) | (with_reducible refine Kd.C_drewN ?_ _) | (with_reducible refine Kd.C_drew ?_))); (case side4 => exact HC2.out); rintro e w24 ⟨rfl, hb⟩; refine ⟨_, rfl, ?_⟩; have n0_ := Aside0.mk (below_step (by repeat (first | (with_reducible first | exact HB.out | apply below_alloc | apply pw_below_drewN | apply below_drew1) | exact HB.out)) hb); clear HB; have HB := n0_; clear n0_; (try clear hb); (try clear hb2); (try clear hk); (try clear hi)))
   go_ret2
   exact ⟨_, by first | rfl | (simp [errW_none, errW_some] <;> rfl) | (simp [*, errW_none, errW_some] <;> rfl), by first | exact Kd.R_nil _ _ _ _ _ | exact Kd.N_nil _ _ _ _ _ | exact Kd.V_nil _ _ _ _ _ | exact Kd.Q_nil _ _ _ _ _ | exact Kd.S_nil _ _ _ _ _, by repeat (first | (with_reducible first | exact HB.out | apply below_alloc | apply pw_below_drewN | apply below_drew1) | exact HB.out)⟩
 ·rw [if_neg c6] at H
  have c6b0 : (t314 == 0) = false := beq_eq_false_iff_ne.mpr c6
  have c6b1 : (t314 != 0) = true := bne_iff_ne.mpr c6
  simp only [Option.some.injEq, Prod.mk.injEq] at H
  obtain ⟨rfl, rfl⟩ := H
  go_enter Try.func18, Try.ntmps18
  go_wp2_with (first | ((with_reducible refine gate_callee (f := 27) rfl ?_); refine goesL_ (some 16) rfl rfl Try.func27 (by kernel_rfl) rfl #[.slice A0 l0.length c0, .slice A1 l1.length c1] rfl (by (try simp only [zm1, zm2, zm3]); first | done | rfl) ?_; (with_reducible refine (bones_fitting.calls k _ _ l0 _ _ l1 t314 _ ?side1 ?side2 ?side3 ?side4 A5.out).mono ?_); (case side1 => repeat (first | exact HR0.out | (with_reducible refine Kd.C_alloc ?_ _) | (with_reducible refine Kd.C_drewN ?_ _) | (with_reducible refine Kd.C_drew ?_))); (case side2 => exact HC0.out); (case side3 => repeat (first | exact HR1.out | (with_reducible refine Kd.C_alloc ?_ _) | (with_reducible refine Kd.C_drewN ?_ _) | (with_reducible refine Kd.C_drew ?_))); (case side4 => exact HC1.out); rintro e w25 ⟨rfl, hb⟩; refine ⟨_, rfl, ?_⟩; have n0_ := Aside0.mk (below_step (by repeat (first | (with_reducible first | exact HB.out | apply below_alloc | apply pw_below_drewN | apply below_drew1) | exact HB.out)) hb); clear HB; have HB := n0_; clear n0_; (try clear hb); (try clear hb2); (try clear hk); (try clear hi)))
  go_ret2
  exact ⟨_, by first | rfl | (simp [errW_none, errW_some] <;> rfl) | (simp [*, errW_none, errW_some] <;> rfl), by first | exact Kd.R_nil _ _ _ _ _ | exact Kd.N_nil _ _ _ _ _ | exact Kd.V_nil _ _ _ _ _ | exact Kd.Q_nil _ _ _ _ _ | exact Kd.S_nil _ _ _ _ _, by repeat (first | (with_reducible first | exact HB.out | apply below_alloc | apply pw_below_drewN | apply below_drew1) | exact HB.out)⟩

/-! ### trig_first: function 46 -/
-- making
def trig_first.tab : List Int := [0, 1608, 3216, 4821, 6424, 8022, 9616, 11204, 12785, 14359, 15924, 17479, 19024, 20557, 22078, 23586, 25080, 26558, 28020, 29466, 30893, 32303, 33692, 35062, 36410, 37736, 39040, 40320, 41576, 42806, 44011, 45190, 46341, 47464, 48559, 49624, 50660, 51665, 52639, 53581, 54491, 55368, 56212, 57022, 57798, 58538, 59244, 59914, 60547, 61145, 61705, 62228, 62714, 63162, 63572, 63944, 64277, 64571, 64827, 65043, 65220, 65358, 65457, 65516, 65536]
def trig_first.f (a0 : Int) : Option Int := if 0 ≤ a0 ∧ a0 ≤ 16384 then (if Int.tmod a0 256 = 0 then some (rd trig_first.tab (wrap64 (Int.tdiv a0 256))) else some (wrap64 (rd trig_first.tab (wrap64 (Int.tdiv a0 256)) + wrap64 (Int.tdiv (wrap64 (wrap64 (wrap64 (rd trig_first.tab (wrap64 (wrap64 (Int.tdiv a0 256) + 1)) - rd trig_first.tab (wrap64 (Int.tdiv a0 256))) * Int.tmod a0 256) + 128)) 256)))) else none
def trig_first.zeros : Array Value := Array.replicate 65 (.int .i64 0)
def trig_first.cells : Array Value := (trig_first.tab.map (Value.int .i64)).toArray
theorem trig_first.below_row {n g : Nat} {w0 w : World} (hb : Below n w0 w) (hg : n ≤ g) (cs : Array Value) : Below n w0 (w.setRow g cs) :=
 ⟨hb.os, hb.tape, hb.output, by rw [size_setRow]; exact hb.size, fun i hi => (setRow_other w g i cs (by omega)).trans (hb.block i hi)⟩
theorem trig_first.build_as {P : Program} {ops : Array Oper} {rest : List Oper} {o : Oper} {a : Act} {w : World} {Q : Exit → Act → World → Prop} (hg : o.guard = none) (t : TypeId) (parts : Array (Nat × Operand)) (ho : o.op = .build t parts) (cs : Array Value)
  (hc : P.built t (parts.map fun (i, x) => (i, a.eval x)).toList = some cs) (h : wpList P ops Q rest (a.put o.dst (.agg cs)) w) : wpList P ops Q (o :: rest) a w :=
 wpList_build hg t parts ho (by rw [hc]; rfl) (by rw [hc]; exact h)
set_option maxHeartbeats 8000000 in
set_option maxRecDepth 100000 in
theorem trig_first.table (w : World) : Calls Try.prog 48 #[] w fun e w' => e = .returned (.agg trig_first.cells) ∧ Below w.heap.size w w' := by
 have HB := Aside0.mk (Below.refl w.heap.size w)
 have hz0 : ∀ w, (zeroValue 86).run Try.prog w = .ok (.agg trig_first.zeros) w := fun _ => by kernel_rfl
 go_enter Try.func48, Try.ntmps48
 go_upto_region 0 with fail
 go_cut [0] (fun v0 w' => ∃ g, v0 = .pointer (some ⟨g, 0, none⟩) ∧ (∃ old : Array Value, w'.heap[g]? = some (.cells old 86 (0, 0)) ∧ old.size = 65) ∧ w.heap.size ≤ g ∧ Below w.heap.size w w')
 case first =>
  go_wp2_with fail
  go_meet
  exact ⟨_, rfl, ⟨_, blk_new _ _, rfl⟩, Nat.le_refl _, below_alloc (Below.refl _ _) _⟩
 case rest =>
  obtain ⟨g, rfl, ⟨old, B, ho⟩, hg, hb⟩ := hcut
  replace B := Aside0.mk B
  replace ho := Aside0.mk ho
  replace hg := Aside0.mk hg
  replace hb := Aside0.mk hb
  go_upto_region 1 with fail
  go_wp2_with (first | ((with_reducible refine gate_dst (N := 1) rfl ?_); refine trig_first.build_as rfl 86 _ rfl trig_first.cells (by kernel_rfl) ?_) | ((with_reducible refine gate_store (t := 86) (p := 0) rfl ?_); refine wpList_store_row rfl 86 _ _ rfl g trig_first.cells rfl rfl 86 old B.out (by kernel_rfl) ho.out (by kernel_rfl) ?_))
  have B2 := Aside0.mk (setRow_heap wc g old trig_first.cells 86 (0, 0) B.out)
  have hb2 := Aside0.mk (trig_first.below_row hb.out hg.out trig_first.cells)
  refine bodyPost_ret (results_cell_row rfl _ _ g 86 trig_first.cells (0, 0) _ rfl B2.out Try.underlying86 rfl (by kernel_rfl)) rfl ?_
  exact ⟨rfl, hb2.out⟩
theorem trig_first.at_ {w : World} {g : Nat} (B : w.heap[g]? = some (.cells trig_first.cells 86 (0, 0))) {k : Int} (h0 : 0 ≤ k) (h1 : k < 65) : w.cell? ⟨g, k.toNat, none⟩ = some (.int .i64 (rd trig_first.tab k)) := by
 have hl : trig_first.tab.length = 65 := by decide
 refine (blk_cell B k.toNat).trans ?_
 unfold trig_first.cells
 rw [List.getElem?_toArray, List.getElem?_map, List.getElem?_eq_getElem (by omega)]
 unfold rd
 rw [List.getD_eq_getElem?_getD, List.getElem?_eq_getElem (by omega)]
 rfl
set_option maxHeartbeats 8000000 in
set_option maxRecDepth 100000 in
theorem trig_first.calls (a0 : Int) (r : Int) (w : World) (h : trig_first.f a0 = some r) : Calls Try.prog 46 #[.int .i64 a0] w fun e w' => e = .returned (.int .i64 r) ∧ Below w.heap.size w w' := by
 unfold trig_first.f at h
 by_cases hr : 0 ≤ a0 ∧ a0 ≤ 16384
 case neg => rw [if_neg hr] at h; cases h
 rw [if_pos hr] at h
 have hq := Int.tdiv_eq_ediv_of_nonneg (b := 256) hr.1
 have hm := Int.tmod_eq_emod_of_nonneg (b := 256) hr.1
 have e1 : wrap64 (Int.tdiv a0 256) = a0 / 256 := by rw [hq]; unfold wrap64; omega
 have k0 : 0 ≤ wrap64 (Int.tdiv a0 256) := by rw [e1]; omega
 have k1 : wrap64 (Int.tdiv a0 256) < 65 := by rw [e1]; omega
 have n0 : 0 ≤ wrap64 (wrap64 (Int.tdiv a0 256) + 1) := by rw [e1]; unfold wrap64; omega
 have n1 : Int.tmod a0 256 ≠ 0 → wrap64 (wrap64 (Int.tdiv a0 256) + 1) < 65 := fun hne => by rw [hm] at hne; rw [e1]; unfold wrap64; omega
 clear hq hm e1 hr
 have HB := Aside0.mk (Below.refl w.heap.size w)
 replace k0 := Aside0.mk k0
 replace k1 := Aside0.mk k1
 replace n0 := Aside0.mk n0
 replace n1 := Aside0.mk n1
 have hz0 : ∀ w, (zeroValue 86).run Try.prog w = .ok (.agg trig_first.zeros) w := fun _ => by kernel_rfl
 go_enter Try.func46, Try.ntmps46
 go_upto_region 1 with fail
 go_cut [3] (fun v3 w' => ∃ g, v3 = .pointer (some ⟨g, 0, none⟩) ∧ w'.heap[g]? = some (.cells trig_first.cells 86 (0, 0)) ∧ Below w.heap.size w w')
 case first =>
  go_wp2_with (first | ((with_reducible refine gate_callee (f := 48) rfl ?_); refine goesL_ (some 6) rfl rfl Try.func48 (by kernel_rfl) rfl #[] rfl (by first | rfl | simp) ?_; (refine (trig_first.table _).mono ?_); rintro e w3 ⟨rfl, hb⟩; refine ⟨_, rfl, ?_⟩; replace hb := Aside0.mk hb) | ((with_reducible refine gate_store (t := 86) (p := 3) rfl ?_); refine wpList_store_row rfl 86 _ _ rfl _ trig_first.cells rfl rfl 86 _ (blk_new _ _) (by kernel_rfl) (by kernel_rfl) (by kernel_rfl) ?_))
  go_meet
  exact ⟨_, rfl, setRow_heap _ _ _ _ _ _ (blk_new _ _), trig_first.below_row (below_alloc hb.out _) hb.out.size _⟩
 case rest =>
  obtain ⟨g, rfl, B, hb⟩ := hcut
  replace B := Aside0.mk B
  replace HB := Aside0.mk hb
  clear hb
  by_cases hz : Int.tmod a0 256 = 0
  ·rw [if_pos hz] at h
   obtain rfl := Option.some.inj h
   have zb : (Int.tmod a0 256 == 0) = true := beq_iff_eq.mpr hz
   have c0 := trig_first.at_ B.out k0.out k1.out
   have t0 := eq_true k0.out
   have t1 := eq_true k1.out
   clear h hz n0 n1
   go_wp2
   go_ret
   exact ⟨rfl, HB.out⟩
  ·rw [if_neg hz] at h
   obtain rfl := Option.some.inj h
   have zb : (Int.tmod a0 256 == 0) = false := beq_eq_false_iff_ne.mpr hz
   replace n1 := Aside0.mk (n1.out hz)
   have t0 := eq_true k0.out
   have t1 := eq_true k1.out
   have s0 := eq_true n0.out
   have s1 := eq_true n1.out
   clear h hz
   go_upto_region 5 with fail
   replace B := Aside0.mk (blk_drew B.out)
   replace HB := Aside0.mk HB.out.drew
   have c0 := trig_first.at_ B.out k0.out k1.out
   have c1 := trig_first.at_ B.out n0.out n1.out
   refine start_ (n := 17) (S := fun w' => w'.cell? ⟨g, Int.toNat (wrap64 (Int.tdiv a0 256)), none⟩ = some (.int .i64 (rd trig_first.tab (wrap64 (Int.tdiv a0 256)))) ∧ w'.cell? ⟨g, Int.toNat (wrap64 (wrap64 (Int.tdiv a0 256) + 1)), none⟩ = some (.int .i64 (rd trig_first.tab (wrap64 (wrap64 (Int.tdiv a0 256) + 1))))) (ds := []) (ab 17 0) (by kernel_rfl) rfl rfl ⟨c0, c1⟩ (fun hHeld => ?_)
   clear c0 c1
   generalize wc.drew = wd at B HB hHeld ⊢
   refine pure_ (i := 0) (N := some 16) (v := ?_) (a' := ?_) (ab 17 1) rfl rfl (by kernel_rfl) (fun _ _ _ h => h) (Or.inl ⟨by rfl, ?_⟩) ?_ ?_
   rotate_left
   ·intro w'
    go_simp
    with_reducible rfl
   rotate_left
   ·simp only [Act.put, zq1, zq2, zq3, i64_w, i32_w]
    rfl
   refine pure_ (i := 1) (N := some 17) (v := ?_) (a' := ?_) (ab 17 3) rfl rfl (by kernel_rfl) (fun _ _ _ h => h) (Or.inl ⟨by rfl, ?_⟩) ?_ ?_
   rotate_left
   ·intro w'
    go_simp
    with_reducible rfl
   rotate_left
   ·simp only [Act.put, zq1, zq2, zq3, i64_w, i32_w]
    rfl
   refine pure_ (i := 3) (N := some 19) (v := ?_) (a' := ?_) (ab 17 11) rfl rfl (by kernel_rfl) (fun _ _ _ h => h) (Or.inl ⟨by rfl, ?_⟩) ?_ ?_
   rotate_left
   ·intro w'
    go_simp
    with_reducible rfl
   rotate_left
   ·simp only [Act.put, zq1, zq2, zq3, i64_w, i32_w]
    rfl
   refine pure_ (i := 4) (N := some 20) (v := ?_) (a' := ?_) (ab 17 27) rfl rfl (by kernel_rfl) (fun _ _ _ h => h) (Or.inl ⟨by rfl, ?_⟩) ?_ ?_
   rotate_left
   ·intro w'
    go_simp
    with_reducible rfl
   rotate_left
   ·simp only [Act.put, zq1, zq2, zq3, i64_w, i32_w]
    rfl
   refine pure_ (i := 5) (N := some 21) (v := ?_) (a' := ?_) (ab 17 59) rfl rfl (by kernel_rfl) (fun _ _ _ h => h) (Or.inl ⟨by rfl, ?_⟩) ?_ ?_
   rotate_left
   ·intro w'
    go_simp
    with_reducible rfl
   rotate_left
   ·simp only [Act.put, zq1, zq2, zq3, i64_w, i32_w]
    rfl
   refine pure_ (i := 7) (N := some 23) (v := ?_) (a' := ?_) (ab 17 187) rfl rfl (by kernel_rfl) (fun _ _ _ h => h) (Or.inl ⟨by rfl, ?_⟩) ?_ ?_
   rotate_left
   ·intro w'
    go_simp
    with_reducible rfl
   rotate_left
   ·simp only [Act.put, zq1, zq2, zq3, i64_w, i32_w]
    rfl
   refine pure_ (i := 8) (N := some 24) (v := ?_) (a' := ?_) (ab 17 443) rfl rfl (by kernel_rfl) (fun _ _ _ h => h) (Or.inl ⟨by rfl, ?_⟩) ?_ ?_
   rotate_left
   ·intro w'
    go_simp
    with_reducible rfl
   rotate_left
   ·simp only [Act.put, zq1, zq2, zq3, i64_w, i32_w]
    rfl
   refine pure_ (i := 11) (N := some 27) (v := ?_) (a' := ?_) (ab 17 2491) rfl rfl (by kernel_rfl) (fun _ _ _ h => h) (Or.inl ⟨by rfl, ?_⟩) ?_ ?_
   rotate_left
   ·intro w'
    go_simp
    with_reducible rfl
   rotate_left
   ·simp only [Act.put, zq1, zq2, zq3, i64_w, i32_w]
    rfl
   refine take_ (i := 2) (N := some 18) (v := ?_) (a' := ?_) (ab 17 2495) rfl rfl (by kernel_rfl) (fun _ _ _ h => h) (Or.inl ⟨by rfl, ?_⟩) hHeld ?_ ?_
   rotate_left
   ·rintro w' ⟨s0, s1⟩
    go_simp
    with_reducible rfl
   rotate_left
   ·simp only [Act.put, zq1, zq2, zq3, i64_w, i32_w]
    rfl
   refine take_ (i := 6) (N := some 22) (v := ?_) (a' := ?_) (ab 17 2559) rfl rfl (by kernel_rfl) (fun _ _ _ h => h) (Or.inl ⟨by rfl, ?_⟩) hHeld ?_ ?_
   rotate_left
   ·rintro w' ⟨s0, s1⟩
    go_simp
    with_reducible rfl
   rotate_left
   ·simp only [Act.put, zq1, zq2, zq3, i64_w, i32_w]
    rfl
   refine take_ (i := 9) (N := some 25) (v := ?_) (a' := ?_) (ab 17 3071) rfl rfl (by kernel_rfl) (fun _ _ _ h => h) (Or.inl ⟨by rfl, ?_⟩) hHeld ?_ ?_
   rotate_left
   ·rintro w' ⟨s0, s1⟩
    go_simp
    with_reducible rfl
   rotate_left
   ·simp only [Act.put, zq1, zq2, zq3, i64_w, i32_w]
    rfl
   refine pure_ (i := 10) (N := some 26) (v := ?_) (a' := ?_) (ab 17 4095) rfl rfl (by kernel_rfl) (fun _ _ _ h => h) (Or.inl ⟨by rfl, ?_⟩) ?_ ?_
   rotate_left
   ·intro w'
    go_simp
    with_reducible rfl
   rotate_left
   ·simp only [Act.put, zq1, zq2, zq3, i64_w, i32_w]
    rfl
   refine pure_ (i := 12) (N := some 28) (v := ?_) (a' := ?_) (ab 17 8191) rfl rfl (by kernel_rfl) (fun _ _ _ h => h) (Or.inl ⟨by rfl, ?_⟩) ?_ ?_
   rotate_left
   ·intro w'
    go_simp
    with_reducible rfl
   rotate_left
   ·simp only [Act.put, zq1, zq2, zq3, i64_w, i32_w]
    rfl
   refine pure_ (i := 13) (N := some 29) (v := ?_) (a' := ?_) (ab 17 16383) rfl rfl (by kernel_rfl) (fun _ _ _ h => h) (Or.inl ⟨by rfl, ?_⟩) ?_ ?_
   rotate_left
   ·intro w'
    go_simp
    with_reducible rfl
   rotate_left
   ·simp only [Act.put, zq1, zq2, zq3, i64_w, i32_w]
    rfl
   refine pure_ (i := 14) (N := some 30) (v := ?_) (a' := ?_) (ab 17 32767) rfl rfl (by kernel_rfl) (fun _ _ _ h => h) (Or.inl ⟨by rfl, ?_⟩) ?_ ?_
   rotate_left
   ·intro w'
    go_simp
    with_reducible rfl
   rotate_left
   ·simp only [Act.put, zq1, zq2, zq3, i64_w, i32_w]
    rfl
   refine pure_ (i := 15) (N := some 31) (v := ?_) (a' := ?_) (ab 17 65535) rfl rfl (by kernel_rfl) (fun _ _ _ h => h) (Or.inl ⟨by rfl, ?_⟩) ?_ ?_
   rotate_left
   ·intro w'
    go_simp
    with_reducible rfl
   rotate_left
   ·simp only [Act.put, zq1, zq2, zq3, i64_w, i32_w]
    rfl
   refine pure_ (i := 16) (N := some 2) (v := ?_) (a' := ?_) (ab 17 131071) rfl rfl (by kernel_rfl) (fun _ _ _ h => h) (Or.inl ⟨by rfl, ?_⟩) ?_ ?_
   rotate_left
   ·intro w'
    go_simp
    with_reducible rfl
   rotate_left
   ·simp only [Act.put, zq1, zq2, zq3, i64_w, i32_w]
    rfl
   refine done_ (by kernel_rfl) ?_

   go_wp2
   go_ret
   exact ⟨rfl, HB.out⟩

/-! ### trig_Sin: function 40 -/
def trig_Sin.f (a0 : Int) : Option (Int) := if (wrap64 (Int.tdiv (Go.bits .and .i64 a0 65535) 16384)) = 0 then ((trig_first.f (Int.tmod (Go.bits .and .i64 a0 65535) 16384)).bind fun t325 => (some t325)) else (if (wrap64 (Int.tdiv (Go.bits .and .i64 a0 65535) 16384)) = 1 then ((trig_first.f (wrap64 (16384 - (Int.tmod (Go.bits .and .i64 a0 65535) 16384)))).bind fun t326 => (some t326)) else (if (wrap64 (Int.tdiv (Go.bits .and .i64 a0 65535) 16384)) = 2 then ((trig_first.f (Int.tmod (Go.bits .and .i64 a0 65535) 16384)).bind fun t327 => (some (wrap64 (-t327)))) else ((trig_first.f (wrap64 (16384 - (Int.tmod (Go.bits .and .i64 a0 65535) 16384)))).bind fun t328 => (some (wrap64 (-t328))))))
set_option maxHeartbeats 8000000 in
set_option maxRecDepth 100000 in
theorem trig_Sin.calls (a0 : Int) (r : Int) (w : World) (h : trig_Sin.f a0 = some r) :
  Calls Try.prog 40 #[.int .i64 a0] w fun e w' => e = .returned (.int .i64 r) ∧ Below w.heap.size w w' := by
 have HB := Aside0.mk (Below.refl w.heap.size w)
 have H : (if (wrap64 (Int.tdiv (Go.bits .and .i64 a0 65535) 16384)) = 0 then ((trig_first.f (Int.tmod (Go.bits .and .i64 a0 65535) 16384)).bind fun t325 => (some t325)) else (if (wrap64 (Int.tdiv (Go.bits .and .i64 a0 65535) 16384)) = 1 then ((trig_first.f (wrap64 (16384 - (Int.tmod (Go.bits .and .i64 a0 65535) 16384)))).bind fun t326 => (some t326)) else (if (wrap64 (Int.tdiv (Go.bits .and .i64 a0 65535) 16384)) = 2 then ((trig_first.f (Int.tmod (Go.bits .and .i64 a0 65535) 16384)).bind fun t327 => (some (wrap64 (-t327)))) else ((trig_first.f (wrap64 (16384 - (Int.tmod (Go.bits .and .i64 a0 65535) 16384)))).bind fun t328 => (some (wrap64 (-t328))))))) = some r := h
 clear h
 by_cases c2 : (wrap64 (Int.tdiv (Go.bits .and .i64 a0 65535) 16384)) = 0
 ·rw [if_pos c2] at H
  have c2b0 : ((wrap64 (Int.tdiv (Go.bits .and .i64 a0 65535) 16384)) == 0) = true := beq_iff_eq.mpr c2
  have c2b1 : ((wrap64 (Int.tdiv (Go.bits .and .i64 a0 65535) 16384)) != 0) = false := bne_eq_false_iff_eq.mpr c2
  clear c2
  replace H := Option.bind_eq_some_iff.mp H
  obtain ⟨t325, A30, H⟩ := H
  replace H : (some t325) = some r := H
  have A3 := Aside0.mk A30
  clear A30
  obtain rfl := Option.some.inj H
  go_enter Try.func40, Try.ntmps40
  go_wp2_with (first | ((with_reducible refine gate_callee (f := 46) rfl ?_); refine goesL_ (some 13) rfl rfl Try.func46 (by kernel_rfl) rfl #[.int .i64 (Int.tmod (Go.bits .and .i64 a0 65535) 16384)] rfl (by (try simp only [zm1, zm2, zm3]); first | done | rfl) ?_; (with_reducible refine (trig_first.calls (Int.tmod (Go.bits .and .i64 a0 65535) 16384) t325 _ A3.out).mono ?_); rintro e w4 ⟨rfl, hb⟩; refine ⟨_, rfl, ?_⟩; have n0_ := Aside0.mk (below_step (by repeat (first | (with_reducible first | exact HB.out | apply below_alloc | apply pw_below_drewN | apply below_drew1) | exact HB.out)) hb); clear HB; have HB := n0_; clear n0_; (try clear hb); (try clear hb2); (try clear hk); (try clear hi)))
  go_ret
  exact ⟨by first | rfl | (simp [errW_none, errW_some] <;> rfl) | (simp [*, errW_none, errW_some] <;> rfl), by repeat (first | (with_reducible first | exact HB.out | apply below_alloc | apply pw_below_drewN | apply below_drew1) | exact HB.out)⟩
 ·rw [if_neg c2] at H
  have c2b0 : ((wrap64 (Int.tdiv (Go.bits .and .i64 a0 65535) 16384)) == 0) = false := beq_eq_false_iff_ne.mpr c2
  have c2b1 : ((wrap64 (Int.tdiv (Go.bits .and .i64 a0 65535) 16384)) != 0) = true := bne_iff_ne.mpr c2
  by_cases c5 : (wrap64 (Int.tdiv (Go.bits .and .i64 a0 65535) 16384)) = 1
  ·rw [if_pos c5] at H
   have c5b0 : ((wrap64 (Int.tdiv (Go.bits .and .i64 a0 65535) 16384)) == 1) = true := beq_iff_eq.mpr c5
   have c5b1 : ((wrap64 (Int.tdiv (Go.bits .and .i64 a0 65535) 16384)) != 1) = false := bne_eq_false_iff_eq.mpr c5
   clear c5
   replace H := Option.bind_eq_some_iff.mp H
   obtain ⟨t326, A60, H⟩ := H
   replace H : (some t326) = some r := H
   have A6 := Aside0.mk A60
   clear A60
   obtain rfl := Option.some.inj H
   go_enter Try.func40, Try.ntmps40
   go_wp2_with (first | ((with_reducible refine gate_callee (f := 46) rfl ?_); refine goesL_ (some 18) rfl rfl Try.func46 (by kernel_rfl) rfl #[.int .i64 (wrap64 (16384 - (Int.tmod (Go.bits .and .i64 a0 65535) 16384)))] rfl (by (try simp only [List.map_toArray, List.map_cons, List.map_nil]); first | done | rfl | (simp only [List.length_drop, List.length_take]; rfl) | (rw [show wrap64 (16384 - (Int.tmod (Go.bits .and .i64 a0 65535) 16384)) = 16384 - (Int.tmod (Go.bits .and .i64 a0 65535) 16384) from by unfold wrap64; omega]; rfl)) ?_; (with_reducible refine (trig_first.calls (wrap64 (16384 - (Int.tmod (Go.bits .and .i64 a0 65535) 16384))) t326 _ A6.out).mono ?_); rintro e w7 ⟨rfl, hb⟩; refine ⟨_, rfl, ?_⟩; have n0_ := Aside0.mk (below_step (by repeat (first | (with_reducible first | exact HB.out | apply below_alloc | apply pw_below_drewN | apply below_drew1) | exact HB.out)) hb); clear HB; have HB := n0_; clear n0_; (try clear hb); (try clear hb2); (try clear hk); (try clear hi)))
   go_ret
   exact ⟨by first | rfl | (simp [errW_none, errW_some] <;> rfl) | (simp [*, errW_none, errW_some] <;> rfl), by repeat (first | (with_reducible first | exact HB.out | apply below_alloc | apply pw_below_drewN | apply below_drew1) | exact HB.out)⟩
  ·rw [if_neg c5] at H
   have c5b0 : ((wrap64 (Int.tdiv (Go.bits .and .i64 a0 65535) 16384)) == 1) = false := beq_eq_false_iff_ne.mpr c5
   have c5b1 : ((wrap64 (Int.tdiv (Go.bits .and .i64 a0 65535) 16384)) != 1) = true := bne_iff_ne.mpr c5
   by_cases c8 : (wrap64 (Int.tdiv (Go.bits .and .i64 a0 65535) 16384)) = 2
   ·rw [if_pos c8] at H
    have c8b0 : ((wrap64 (Int.tdiv (Go.bits .and .i64 a0 65535) 16384)) == 2) = true := beq_iff_eq.mpr c8
    have c8b1 : ((wrap64 (Int.tdiv (Go.bits .and .i64 a0 65535) 16384)) != 2) = false := bne_eq_false_iff_eq.mpr c8
    clear c8
    replace H := Option.bind_eq_some_iff.mp H
    obtain ⟨t327, A90, H⟩ := H
    replace H : (some (wrap64 (-t327))) = some r := H
    have A9 := Aside0.mk A90
    clear A90
    obtain rfl := Option.some.inj H
    go_enter Try.func40, Try.ntmps40
    go_wp2_with (first | ((with_reducible refine gate_callee (f := 46) rfl ?_); refine goesL_ (some 22) rfl rfl Try.func46 (by kernel_rfl) rfl #[.int .i64 (Int.tmod (Go.bits .and .i64 a0 65535) 16384)] rfl (by (try simp only [zm1, zm2, zm3]); first | done | rfl) ?_; (with_reducible refine (trig_first.calls (Int.tmod (Go.bits .and .i64 a0 65535) 16384) t327 _ A9.out).mono ?_); rintro e w10 ⟨rfl, hb⟩; refine ⟨_, rfl, ?_⟩; have n0_ := Aside0.mk (below_step (by repeat (first | (with_reducible first | exact HB.out | apply below_alloc | apply pw_below_drewN | apply below_drew1) | exact HB.out)) hb); clear HB; have HB := n0_; clear n0_; (try clear hb); (try clear hb2); (try clear hk); (try clear hi)))
    go_ret
    exact ⟨by first | rfl | (simp [errW_none, errW_some] <;> rfl) | (simp [*, errW_none, errW_some] <;> rfl), by repeat (first | (with_reducible first | exact HB.out | apply below_alloc | apply pw_below_drewN | apply below_drew1) | exact HB.out)⟩
   ·rw [if_neg c8] at H
    have c8b0 : ((wrap64 (Int.tdiv (Go.bits .and .i64 a0 65535) 16384)) == 2) = false := beq_eq_false_iff_ne.mpr c8
    have c8b1 : ((wrap64 (Int.tdiv (Go.bits .and .i64 a0 65535) 16384)) != 2) = true := bne_iff_ne.mpr c8
    replace H := Option.bind_eq_some_iff.mp H
    obtain ⟨t328, A110, H⟩ := H
    replace H : (some (wrap64 (-t328))) = some r := H
    have A11 := Aside0.mk A110
    clear A110
    obtain rfl := Option.some.inj H
    go_enter Try.func40, Try.ntmps40
    go_wp2_with (first | ((with_reducible refine gate_callee (f := 46) rfl ?_); refine goesL_ (some 26) rfl rfl Try.func46 (by kernel_rfl) rfl #[.int .i64 (wrap64 (16384 - (Int.tmod (Go.bits .and .i64 a0 65535) 16384)))] rfl (by (try simp only [List.map_toArray, List.map_cons, List.map_nil]); first | done | rfl | (simp only [List.length_drop, List.length_take]; rfl) | (rw [show wrap64 (16384 - (Int.tmod (Go.bits .and .i64 a0 65535) 16384)) = 16384 - (Int.tmod (Go.bits .and .i64 a0 65535) 16384) from by unfold wrap64; omega]; rfl)) ?_; (with_reducible refine (trig_first.calls (wrap64 (16384 - (Int.tmod (Go.bits .and .i64 a0 65535) 16384))) t328 _ A11.out).mono ?_); rintro e w12 ⟨rfl, hb⟩; refine ⟨_, rfl, ?_⟩; have n0_ := Aside0.mk (below_step (by repeat (first | (with_reducible first | exact HB.out | apply below_alloc | apply pw_below_drewN | apply below_drew1) | exact HB.out)) hb); clear HB; have HB := n0_; clear n0_; (try clear hb); (try clear hb2); (try clear hk); (try clear hi)))
    go_ret
    exact ⟨by first | rfl | (simp [errW_none, errW_some] <;> rfl) | (simp [*, errW_none, errW_some] <;> rfl), by repeat (first | (with_reducible first | exact HB.out | apply below_alloc | apply pw_below_drewN | apply below_drew1) | exact HB.out)⟩

/-! ### trig_Cos: function 41 -/
def trig_Cos.f (a0 : Int) : Option (Int) := (trig_Sin.f (wrap64 ((Go.bits .and .i64 a0 65535) + 16384))).bind fun t329 => (some t329)
set_option maxHeartbeats 8000000 in
set_option maxRecDepth 100000 in
theorem trig_Cos.calls (a0 : Int) (r : Int) (w : World) (h : trig_Cos.f a0 = some r) :
  Calls Try.prog 41 #[.int .i64 a0] w fun e w' => e = .returned (.int .i64 r) ∧ Below w.heap.size w w' := by
 have HB := Aside0.mk (Below.refl w.heap.size w)
 have H : ((trig_Sin.f (wrap64 ((Go.bits .and .i64 a0 65535) + 16384))).bind fun t329 => (some t329)) = some r := h
 clear h
 replace H := Option.bind_eq_some_iff.mp H
 obtain ⟨t329, A20, H⟩ := H
 replace H : (some t329) = some r := H
 have A2 := Aside0.mk A20
 clear A20
 obtain rfl := Option.some.inj H
 go_enter Try.func41, Try.ntmps41
 go_wp2_with (first | ((with_reducible refine gate_callee (f := 40) rfl ?_); refine goesL_ (some 6) rfl rfl Try.func40 (by kernel_rfl) rfl #[.int .i64 (wrap64 ((Go.bits .and .i64 a0 65535) + 16384))] rfl (by (try simp only [List.map_toArray, List.map_cons, List.map_nil]); first | done | rfl | (simp only [List.length_drop, List.length_take]; rfl) | (rw [show wrap64 ((Go.bits .and .i64 a0 65535) + 16384) = (Go.bits .and .i64 a0 65535) + 16384 from by unfold wrap64; omega]; rfl)) ?_; (with_reducible refine (trig_Sin.calls (wrap64 ((Go.bits .and .i64 a0 65535) + 16384)) t329 _ A2.out).mono ?_); rintro e w3 ⟨rfl, hb⟩; refine ⟨_, rfl, ?_⟩; have n0_ := Aside0.mk (below_step (by repeat (first | (with_reducible first | exact HB.out | apply below_alloc | apply pw_below_drewN | apply below_drew1) | exact HB.out)) hb); clear HB; have HB := n0_; clear n0_; (try clear hb); (try clear hb2); (try clear hk); (try clear hi)))
 go_ret
 exact ⟨by first | rfl | (simp [errW_none, errW_some] <;> rfl) | (simp [*, errW_none, errW_some] <;> rfl), by repeat (first | (with_reducible first | exact HB.out | apply below_alloc | apply pw_below_drewN | apply below_drew1) | exact HB.out)⟩

end Go.Proofs.Ytfallkiaojefnaa.PBonesBlend
