-- Printed by a program: the print with changes of this session (wip/printpatch.py).
import Derived.Test.YtfallkiaojefnaaPBonesLongx0
import Derived.Test.YtfallkiaojefnaaPBonesLongx11
import Derived.Test.YtfallkiaojefnaaPBonesLongx12
import Derived.Test.YtfallkiaojefnaaPBonesLongx13
import Derived.Test.YtfallkiaojefnaaPBonesLongx14
namespace Go.Proofs.Ytfallkiaojefnaa.PBonesLong
open Go.Proofs.Ytfallkiaojefnaa.Fnv Go.Proofs.Ytfallkiaojefnaa.Ary Go.Proofs.Ytfallkiaojefnaa.Ext
open Go.RowKit Go.Proofs.YtfallkiaojefnaaW.PrintWords Go.Proofs.YtfallkiaojefnaaW.PrintLast Go.Proofs.YtfallkiaojefnaaW.PrintMore
attribute [local go_sem] max2_int min2_int max_two min_two max_three min_three max_four min_four   -- for this text's walks alone
set_option linter.unusedVariables false
set_option linter.unusedSimpArgs false

/-! ### tourkeep5_BonesLong: function 6 -/
mutual
def tourkeep5_BonesLong.j0 : Nat → List (S35) → List (S39) → Bool → Option (Bool)
 | 0, _, _, _ => none
 | k + 1, x5, x6, x35 => if x35 = true then (none) else (tourkeep5_BonesLong.l0 k x6 x5 (x5.length : Int) 0)
def tourkeep5_BonesLong.l0 : Nat → List (S39) → List (S35) → Int → Int → Option (Bool)
 | 0, _, _, _, _ => none
 | k + 1, x6, x36, x37, x38 => if x38 < x37 then (if 0 ≤ x38 then (if x38 < (x36.length : Int) then (if ((rd_T35 x36 x38).f0) < 0 then (tourkeep5_BonesLong.l0 k x6 x36 x37 (wrap64 (x38 + 1))) else (tourkeep5_BonesLong.l1 k x6 x38 x36 x37 x38 0 ((rd_T35 x36 x38).f0) ((rd_T35 x36 x38).f1.f0) ((rd_T35 x36 x38).f1.f1) ((rd_T35 x36 x38).f1.f2) 0 0 0)) else (none)) else (none)) else (some true)
def tourkeep5_BonesLong.l1 : Nat → List (S39) → Int → List (S35) → Int → Int → Int → Int → Int → Int → Int → Int → Int → Int → Option (Bool)
 | 0, _, _, _, _, _, _, _, _, _, _, _, _, _ => none
 | k + 1, x6, x8, x36, x37, x38, x46, x336000, x336001, x336002, x336003, x337000, x337001, x337002 => if x46 < 3 then (if 0 ≤ x8 then (if x8 < (x6.length : Int) then (if x46 = 0 then (if 0 ≤ x336000 then (if x336000 < (x6.length : Int) then (tourkeep5_BonesLong.l1 k x6 x8 x36 x37 x38 (wrap64 (x46 + 1)) x336000 x336001 x336002 x336003 (wrap64 (((rd_T39 x6 x8).f0.f0) - ((rd_T39 x6 x336000).f0.f0))) x337001 x337002) else (none)) else (none)) else (if x46 = 1 then (if 0 ≤ x336000 then (if x336000 < (x6.length : Int) then (tourkeep5_BonesLong.l1 k x6 x8 x36 x37 x38 (wrap64 (x46 + 1)) x336000 x336001 x336002 x336003 x337000 (wrap64 (((rd_T39 x6 x8).f0.f1) - ((rd_T39 x6 x336000).f0.f1))) x337002) else (none)) else (none)) else (if x46 = 2 then (if 0 ≤ x336000 then (if x336000 < (x6.length : Int) then (tourkeep5_BonesLong.l1 k x6 x8 x36 x37 x38 (wrap64 (x46 + 1)) x336000 x336001 x336002 x336003 x337000 x337001 (wrap64 (((rd_T39 x6 x8).f0.f2) - ((rd_T39 x6 x336000).f0.f2)))) else (none)) else (none)) else (none)))) else (none)) else (none)) else ((tourkeep5_far.f k x337000 x337001 x337002).bind fun t341 => ((tourkeep5_far.f k x336001 x336002 x336003).bind fun t342 => (if (wrap64 (t341 - t342)) > 400 then (none) else (if (wrap64 (t342 - t341)) > 400 then (none) else (tourkeep5_BonesLong.l0 k x6 x36 x37 (wrap64 (x38 + 1)))))))
end
def tourkeep5_BonesLong.f (k : Nat) (l0 : List Int) (l1 : List Int) : Option (Bool) := (tourkeep5_stands.f k).bind fun t323 => (if t323 = true then ((tourref5_Skeleton.f k l0).bind fun t324 => ((tourref5_Pose.f k l1 (t324.length : Int)).bind fun t327 => ((bones_Places.f k t324 t327).bind fun bt330 => (if bt330.2 = 0 then (tourkeep5_BonesLong.j0 k t324 bt330.1 ((bt330.1.length : Int) != (t324.length : Int))) else (tourkeep5_BonesLong.j0 k t324 bt330.1 true))))) else (none))
theorem tourkeep5_BonesLong.mono_l : ∀ k, (∀ y0 y1 y2, LeO (tourkeep5_BonesLong.j0 k y0 y1 y2) (tourkeep5_BonesLong.j0 (k + 1) y0 y1 y2)) ∧ (∀ y0 y1 y2 y3, LeO (tourkeep5_BonesLong.l0 k y0 y1 y2 y3) (tourkeep5_BonesLong.l0 (k + 1) y0 y1 y2 y3)) ∧ (∀ y0 y1 y2 y3 y4 y5 y6 y7 y8 y9 y10 y11 y12, LeO (tourkeep5_BonesLong.l1 k y0 y1 y2 y3 y4 y5 y6 y7 y8 y9 y10 y11 y12) (tourkeep5_BonesLong.l1 (k + 1) y0 y1 y2 y3 y4 y5 y6 y7 y8 y9 y10 y11 y12))
 | 0 => ⟨fun _ _ _ r h => by simp [tourkeep5_BonesLong.j0] at h, fun _ _ _ _ r h => by simp [tourkeep5_BonesLong.l0] at h, fun _ _ _ _ _ _ _ _ _ _ _ _ _ r h => by simp [tourkeep5_BonesLong.l1] at h⟩
 | k + 1 => by
  obtain ⟨ih0, ih1, ih2⟩ := tourkeep5_BonesLong.mono_l k
  refine ⟨?_, ?_, ?_⟩
  ·intro y0 y1 y2
   unfold tourkeep5_BonesLong.j0
   repeat' first
   | (with_reducible exact ih0 _ _ _)
   | (with_reducible exact ih1 _ _ _ _)
   | (with_reducible exact ih2 _ _ _ _ _ _ _ _ _ _ _ _ _)
   | (with_reducible exact bones_Places.mono _ _ _)
   | (with_reducible exact tourkeep5_far.mono _ _ _ _)
   | (with_reducible exact tourkeep5_stands.mono _)
   | (with_reducible exact tourref5_Pose.mono _ _ _)
   | (with_reducible exact tourref5_Skeleton.mono _ _)
   | (with_reducible exact LeO.refl _)
   | (with_reducible exact LeO.none _)
   | (with_reducible refine LeO.ite ?_ ?_)
   | (with_reducible refine LeO.bind ?_ (fun _ => ?_))
   | exact ih0 _ _ _
   | exact ih1 _ _ _ _
   | exact ih2 _ _ _ _ _ _ _ _ _ _ _ _ _
   | exact bones_Places.mono _ _ _
   | exact tourkeep5_far.mono _ _ _ _
   | exact tourkeep5_stands.mono _
   | exact tourref5_Pose.mono _ _ _
   | exact tourref5_Skeleton.mono _ _
   | exact LeO.none _
   | refine LeO.ite ?_ ?_
   | refine LeO.bind ?_ (fun _ => ?_)
  ·intro y0 y1 y2 y3
   unfold tourkeep5_BonesLong.l0
   repeat' first
   | (with_reducible exact ih0 _ _ _)
   | (with_reducible exact ih1 _ _ _ _)
   | (with_reducible exact ih2 _ _ _ _ _ _ _ _ _ _ _ _ _)
   | (with_reducible exact bones_Places.mono _ _ _)
   | (with_reducible exact tourkeep5_far.mono _ _ _ _)
   | (with_reducible exact tourkeep5_stands.mono _)
   | (with_reducible exact tourref5_Pose.mono _ _ _)
   | (with_reducible exact tourref5_Skeleton.mono _ _)
   | (with_reducible exact LeO.refl _)
   | (with_reducible exact LeO.none _)
   | (with_reducible refine LeO.ite ?_ ?_)
   | (with_reducible refine LeO.bind ?_ (fun _ => ?_))
   | exact ih0 _ _ _
   | exact ih1 _ _ _ _
   | exact ih2 _ _ _ _ _ _ _ _ _ _ _ _ _
   | exact bones_Places.mono _ _ _
   | exact tourkeep5_far.mono _ _ _ _
   | exact tourkeep5_stands.mono _
   | exact tourref5_Pose.mono _ _ _
   | exact tourref5_Skeleton.mono _ _
   | exact LeO.none _
   | refine LeO.ite ?_ ?_
   | refine LeO.bind ?_ (fun _ => ?_)
  ·intro y0 y1 y2 y3 y4 y5 y6 y7 y8 y9 y10 y11 y12
   unfold tourkeep5_BonesLong.l1
   repeat' first
   | (with_reducible exact ih0 _ _ _)
   | (with_reducible exact ih1 _ _ _ _)
   | (with_reducible exact ih2 _ _ _ _ _ _ _ _ _ _ _ _ _)
   | (with_reducible exact bones_Places.mono _ _ _)
   | (with_reducible exact tourkeep5_far.mono _ _ _ _)
   | (with_reducible exact tourkeep5_stands.mono _)
   | (with_reducible exact tourref5_Pose.mono _ _ _)
   | (with_reducible exact tourref5_Skeleton.mono _ _)
   | (with_reducible exact LeO.refl _)
   | (with_reducible exact LeO.none _)
   | (with_reducible refine LeO.ite ?_ ?_)
   | (with_reducible refine LeO.bind ?_ (fun _ => ?_))
   | exact ih0 _ _ _
   | exact ih1 _ _ _ _
   | exact ih2 _ _ _ _ _ _ _ _ _ _ _ _ _
   | exact bones_Places.mono _ _ _
   | exact tourkeep5_far.mono _ _ _ _
   | exact tourkeep5_stands.mono _
   | exact tourref5_Pose.mono _ _ _
   | exact tourref5_Skeleton.mono _ _
   | exact LeO.none _
   | refine LeO.ite ?_ ?_
   | refine LeO.bind ?_ (fun _ => ?_)
theorem tourkeep5_BonesLong.mono : ∀ a0 a1 k, LeO (tourkeep5_BonesLong.f k a0 a1) (tourkeep5_BonesLong.f (k + 1) a0 a1) := by
 intro a0 a1 k
 obtain ⟨ih0, ih1, ih2⟩ := tourkeep5_BonesLong.mono_l k
 unfold tourkeep5_BonesLong.f
 repeat' first
   | (with_reducible exact ih0 _ _ _)
   | (with_reducible exact ih1 _ _ _ _)
   | (with_reducible exact ih2 _ _ _ _ _ _ _ _ _ _ _ _ _)
   | (with_reducible exact bones_Places.mono _ _ _)
   | (with_reducible exact tourkeep5_far.mono _ _ _ _)
   | (with_reducible exact tourkeep5_stands.mono _)
   | (with_reducible exact tourref5_Pose.mono _ _ _)
   | (with_reducible exact tourref5_Skeleton.mono _ _)
   | (with_reducible exact LeO.refl _)
   | (with_reducible exact LeO.none _)
   | (with_reducible refine LeO.ite ?_ ?_)
   | (with_reducible refine LeO.bind ?_ (fun _ => ?_))
   | exact ih0 _ _ _
   | exact ih1 _ _ _ _
   | exact ih2 _ _ _ _ _ _ _ _ _ _ _ _ _
   | exact bones_Places.mono _ _ _
   | exact tourkeep5_far.mono _ _ _ _
   | exact tourkeep5_stands.mono _
   | exact tourref5_Pose.mono _ _ _
   | exact tourref5_Skeleton.mono _ _
   | exact LeO.none _
   | refine LeO.ite ?_ ?_
   | refine LeO.bind ?_ (fun _ => ?_)
def tourkeep5_BonesLong.T15 : Bool × List (List Nat × List Nat) := (true, [([], []), ([], []), ([], []), ([], []), ([1, 2], [1, 2]), ([4], [4]), ([5, 3], [3, 5]), ([6], [6]), ([], []), ([], []), ([9], [9]), ([], []), ([8, 10], [8, 10]), ([12], [12]), ([13, 11], [11, 13]), ([14], [14]), ([7, 15], [7, 15]), ([0, 0, 1, 2, 3, 4, 5, 6, 7, 8, 9, 10, 11, 12, 13, 14, 15, 16], [0]), ([17, 16, 0, 1, 2, 3, 4, 5, 6, 7, 8, 9, 10, 11, 12, 13, 14, 15, 16], [16, 17])])
def tourkeep5_BonesLong.B15 : List Nat := [0, 0, 0, 0, 6, 22, 62, 126, 0, 0, 512, 0, 1792, 5888, 16128, 32512, 65534, 131071, 262143]
theorem tourkeep5_BonesLong.tab15 : rtab .any (opsOf Try.f6 15) = tourkeep5_BonesLong.T15 := by kernel_rfl
theorem tourkeep5_BonesLong.bits15 : waitsOk tourkeep5_BonesLong.T15.2 tourkeep5_BonesLong.B15 = true := by kernel_rfl
set_option maxHeartbeats 8000000 in
set_option maxRecDepth 100000 in
theorem tourkeep5_BonesLong.calls (k : Nat) (A0 : Option Addr) (c0 : Nat) (l0 : List Int) (A1 : Option Addr) (c1 : Nat) (l1 : List Int) (r : Bool) (w : World) (hr0 : Kd.C (Kd.int .i64) w A0 l0.length l0) (hc0 : l0.length ≤ c0) (hr1 : Kd.C (Kd.int .i64) w A1 l1.length l1) (hc1 : l1.length ≤ c1) (h : tourkeep5_BonesLong.f k l0 l1 = some r) :
  Calls Try.prog 6 #[.slice A0 l0.length c0, .slice A1 l1.length c1] w fun e w' => e = .returned (.bool r) ∧ Below w.heap.size w w' := by
 have hu35 := Try.underlying35
 have hu33 := Try.underlying33
 have HR0 := Aside0.mk hr0
 have HC0 := Aside0.mk hc0
 clear hr0 hc0
 have HR1 := Aside0.mk hr1
 have HC1 := Aside0.mk hc1
 clear hr1 hc1
 have HB := Aside0.mk (Below.refl w.heap.size w)
 have H : ((tourkeep5_stands.f k).bind fun t323 => (if t323 = true then ((tourref5_Skeleton.f k l0).bind fun t324 => ((tourref5_Pose.f k l1 (t324.length : Int)).bind fun t327 => ((bones_Places.f k t324 t327).bind fun bt330 => (if bt330.2 = 0 then (tourkeep5_BonesLong.j0 k t324 bt330.1 ((bt330.1.length : Int) != (t324.length : Int))) else (tourkeep5_BonesLong.j0 k t324 bt330.1 true))))) else (none))) = some r := h
 clear h
 replace H := Option.bind_eq_some_iff.mp H
 obtain ⟨t323, A30, H⟩ := H
 replace H : (if t323 = true then ((tourref5_Skeleton.f k l0).bind fun t324 => ((tourref5_Pose.f k l1 (t324.length : Int)).bind fun t327 => ((bones_Places.f k t324 t327).bind fun bt330 => (if bt330.2 = 0 then (tourkeep5_BonesLong.j0 k t324 bt330.1 ((bt330.1.length : Int) != (t324.length : Int))) else (tourkeep5_BonesLong.j0 k t324 bt330.1 true))))) else (none)) = some r := H
 have A3 := Aside0.mk A30
 clear A30
 by_cases c4 : t323 = true
 ·subst c4
  have H1 : ((tourref5_Skeleton.f k l0).bind fun t324 => ((tourref5_Pose.f k l1 (t324.length : Int)).bind fun t327 => ((bones_Places.f k t324 t327).bind fun bt330 => (if bt330.2 = 0 then (tourkeep5_BonesLong.j0 k t324 bt330.1 ((bt330.1.length : Int) != (t324.length : Int))) else (tourkeep5_BonesLong.j0 k t324 bt330.1 true))))) = some r := by rw [if_pos rfl] at H; exact H
  clear H
  have H := H1
  clear H1
  replace H := Option.bind_eq_some_iff.mp H
  obtain ⟨t324, A50, H⟩ := H
  replace H : ((tourref5_Pose.f k l1 (t324.length : Int)).bind fun t327 => ((bones_Places.f k t324 t327).bind fun bt330 => (if bt330.2 = 0 then (tourkeep5_BonesLong.j0 k t324 bt330.1 ((bt330.1.length : Int) != (t324.length : Int))) else (tourkeep5_BonesLong.j0 k t324 bt330.1 true)))) = some r := H
  have A5 := Aside0.mk A50
  clear A50
  replace H := Option.bind_eq_some_iff.mp H
  obtain ⟨t327, A60, H⟩ := H
  replace H : ((bones_Places.f k t324 t327).bind fun bt330 => (if bt330.2 = 0 then (tourkeep5_BonesLong.j0 k t324 bt330.1 ((bt330.1.length : Int) != (t324.length : Int))) else (tourkeep5_BonesLong.j0 k t324 bt330.1 true))) = some r := H
  have A6 := Aside0.mk A60
  clear A60
  replace H := Option.bind_eq_some_iff.mp H
  obtain ⟨⟨t330, t331⟩, A70, H⟩ := H
  replace H : (if t331 = 0 then (tourkeep5_BonesLong.j0 k t324 t330 ((t330.length : Int) != (t324.length : Int))) else (tourkeep5_BonesLong.j0 k t324 t330 true)) = some r := H
  have A7 := Aside0.mk A70
  clear A70
  have HC8 := Aside0.mk H
  clear H
  go_enter Try.func6, Try.ntmps6
  go_upto_region 5 with (first | ((with_reducible refine gate_callee (f := 8) rfl ?_); refine goesL_ (some 14) rfl rfl Try.func8 (by kernel_rfl) rfl #[] rfl (by (try simp only [zm1, zm2, zm3]); first | done | rfl) ?_; (with_reducible refine (tourkeep5_stands.calls k  true _ A3.out).mono ?_); rintro e w9 ⟨rfl, hb⟩; refine ⟨_, rfl, ?_⟩; have n0_ := Aside0.mk (below_step (by repeat (first | (with_reducible first | exact HB.out | apply below_alloc | apply pw_below_drewN | apply below_drew1) | exact HB.out)) hb); clear HB; have HB := n0_; clear n0_; (try clear hb); (try clear hb2); (try clear hk); (try clear hi)) | ((with_reducible refine gate_callee (f := 9) rfl ?_); refine goesL_ (some 17) rfl rfl Try.func9 (by kernel_rfl) rfl #[.slice A0 l0.length c0] rfl (by (try simp only [zm1, zm2, zm3]); first | done | rfl) ?_; (with_reducible refine (tourref5_Skeleton.calls k _ _ l0 t324 _ ?side1 ?side2 A5.out).mono ?_); (case side1 => repeat (first | exact (Kd.C_below HR0.out HB.out) | (with_reducible refine Kd.C_alloc ?_ _) | (with_reducible refine Kd.C_drewN ?_ _) | (with_reducible refine Kd.C_drew ?_))); (case side2 => exact HC0.out); rintro e w10 ⟨v325, rfl, ho0, hb⟩; refine ⟨_, rfl, ?_⟩; have n0_ := Aside0.mk (Kd.R_lower ho0 (below_size (by repeat (first | (with_reducible first | exact HB.out | apply below_alloc | apply pw_below_drewN | apply below_drew1) | exact HB.out)))); have n1_ := Aside0.mk (below_step (by repeat (first | (with_reducible first | exact HB.out | apply below_alloc | apply pw_below_drewN | apply below_drew1) | exact HB.out)) hb); clear HB; have HO326 := n0_; have HB := n1_; clear n0_ n1_; (try clear hb); (try clear hb2); (try clear hk); (try clear hi); (try clear ho0); obtain ⟨Ao11, co11, eo11⟩ := Kd.R_slice HO326.out; subst eo11) | ((with_reducible refine gate_callee (f := 19) rfl ?_); refine goesL_ (some 23) rfl rfl Try.func19 (by kernel_rfl) rfl #[.slice A1 l1.length c1, .int .i64 (t324.length : Int)] rfl (by (try simp only [zm1, zm2, zm3]); first | done | rfl) ?_; (with_reducible refine (tourref5_Pose.calls k _ _ l1 (t324.length : Int) t327 _ ?side1 ?side2 A6.out).mono ?_); (case side1 => repeat (first | exact (Kd.C_below HR1.out HB.out) | (with_reducible refine Kd.C_alloc ?_ _) | (with_reducible refine Kd.C_drewN ?_ _) | (with_reducible refine Kd.C_drew ?_))); (case side2 => exact HC1.out); rintro e w12 ⟨v328, rfl, ho0, hb⟩; refine ⟨_, rfl, ?_⟩; have n0_ := Aside0.mk (Kd.R_below (by (with_reducible repeat (first | apply Kd.R_alloc | apply Kd.R_drewN | apply Kd.R_drew)); exact HO326.out) hb); have n1_ := Aside0.mk (Kd.R_lower ho0 (below_size (by repeat (first | (with_reducible first | exact HB.out | apply below_alloc | apply pw_below_drewN | apply below_drew1) | exact HB.out)))); have n2_ := Aside0.mk (below_step (by repeat (first | (with_reducible first | exact HB.out | apply below_alloc | apply pw_below_drewN | apply below_drew1) | exact HB.out)) hb); clear HO326; clear HB; have HO326 := n0_; have HO329 := n1_; have HB := n2_; clear n0_ n1_ n2_; (try clear hb); (try clear hb2); (try clear hk); (try clear hi); (try clear ho0); obtain ⟨Ao13, co13, eo13⟩ := Kd.R_slice HO329.out; subst eo13) | ((with_reducible refine gate_callee (f := 10) rfl ?_); refine goesL_ (some 24) rfl rfl Try.func10 (by kernel_rfl) rfl #[.slice Ao11 t324.length co11, .slice Ao13 t327.length co13] rfl (by (try simp only [zm1, zm2, zm3]); first | done | rfl) ?_; (with_reducible refine (bones_Places.calls k _ _ t324 _ _ t327 t330 t331 _ ?side1 ?side2 ?side3 ?side4 A7.out).mono ?_); (case side1 => repeat (first | exact (Kd.R_reads' HO326.out).2.2 | (with_reducible refine Kd.C_alloc ?_ _) | (with_reducible refine Kd.C_drewN ?_ _) | (with_reducible refine Kd.C_drew ?_))); (case side2 => exact (Kd.R_reads' HO326.out).2.1); (case side3 => repeat (first | exact (Kd.R_reads' HO329.out).2.2 | (with_reducible refine Kd.C_alloc ?_ _) | (with_reducible refine Kd.C_drewN ?_ _) | (with_reducible refine Kd.C_drew ?_))); (case side4 => exact (Kd.R_reads' HO329.out).2.1); rintro e w14 ⟨v332, rfl, ho0, hb⟩; refine ⟨_, rfl, ?_⟩; have n0_ := Aside0.mk (Kd.R_below (by (with_reducible repeat (first | apply Kd.R_alloc | apply Kd.R_drewN | apply Kd.R_drew)); exact HO326.out) hb); have n1_ := Aside0.mk (Kd.R_below (by (with_reducible repeat (first | apply Kd.R_alloc | apply Kd.R_drewN | apply Kd.R_drew)); exact HO329.out) hb); have n2_ := Aside0.mk (Kd.R_lower ho0 (below_size (by repeat (first | (with_reducible first | exact HB.out | apply below_alloc | apply pw_below_drewN | apply below_drew1) | exact HB.out)))); have n3_ := Aside0.mk (below_step (by repeat (first | (with_reducible first | exact HB.out | apply below_alloc | apply pw_below_drewN | apply below_drew1) | exact HB.out)) hb); clear HO326; clear HO329; clear HB; have HO326 := n0_; have HO329 := n1_; have HO333 := n2_; have HB := n3_; clear n0_ n1_ n2_ n3_; (try clear hb); (try clear hb2); (try clear hk); (try clear hi); (try clear ho0)))
  (try simp only [Act.put, zq1, zq2, zq3])
  go_cut [35] (fun v35 wc => ∃ (kq : Nat) (x35_7 : Bool), v35 = .bool x35_7 ∧ Aside0 (tourkeep5_BonesLong.j0 kq t324 t330 x35_7 = some r) ∧ Aside0 (kq ≤ k) ∧ Aside0 (Kd.R k35 35 wc w.heap.size (fun _ => True) (.slice Ao11 t324.length co11) t324) ∧ Aside0 (Kd.R k39 39 wc w.heap.size (fun _ => True) v332 t330) ∧ Aside0 (Below w.heap.size w wc))
  case first =>
   have H := HC8.out
   clear HC8
   by_cases c15 : t331 = 0
   ·rw [if_pos c15] at H
    have c15b0 : (t331 == 0) = true := beq_iff_eq.mpr c15
    have c15b1 : (t331 != 0) = false := bne_eq_false_iff_eq.mpr c15
    clear c15
    (first | rw [c15b0] | (simp only [i64_w, i32_w]; rw [c15b0]) | skip)
    have H' := Aside0.mk H
    clear H
    obtain ⟨Ao16, co16, eo16⟩ := Kd.R_slice HO333.out
    subst eo16
    go_wp2
    go_meet
    case rel => exact ⟨_, (((t330.length : Int) != (t324.length : Int))), (by first | rfl | (simp; done) | (simp [*]; done) | (simp; decide +kernel)), H', ⟨by first | omega | exact Nat.le_refl _⟩, ⟨by (with_reducible repeat (first | apply Kd.R_alloc | apply Kd.R_drewN | apply Kd.R_drew)); exact HO326.out⟩, ⟨by (with_reducible repeat (first | apply Kd.R_alloc | apply Kd.R_drewN | apply Kd.R_drew)); exact HO333.out⟩, ⟨by repeat (first | (with_reducible first | exact HB.out | apply below_alloc | apply pw_below_drewN | apply below_drew1) | exact HB.out)⟩⟩
   ·rw [if_neg c15] at H
    have c15b0 : (t331 == 0) = false := beq_eq_false_iff_ne.mpr c15
    have c15b1 : (t331 != 0) = true := bne_iff_ne.mpr c15
    (first | rw [c15b0] | (simp only [i64_w, i32_w]; rw [c15b0]) | skip)
    have H' := Aside0.mk H
    clear H
    go_wp2
    go_meet
    case rel => exact ⟨_, (true), (by first | rfl | (simp; done) | (simp [*]; done) | (simp; decide +kernel)), H', ⟨by first | omega | exact Nat.le_refl _⟩, ⟨by (with_reducible repeat (first | apply Kd.R_alloc | apply Kd.R_drewN | apply Kd.R_drew)); exact HO326.out⟩, ⟨by (with_reducible repeat (first | apply Kd.R_alloc | apply Kd.R_drewN | apply Kd.R_drew)); exact HO333.out⟩, ⟨by repeat (first | (with_reducible first | exact HB.out | apply below_alloc | apply pw_below_drewN | apply below_drew1) | exact HB.out)⟩⟩
  case rest =>
   clear HC8
   try clear c1; try clear p2; try clear c4; try clear p5; try clear c6; try clear c8; try clear c9; try clear c10
   try clear c15; try clear c15b0; try clear c15b1
   obtain ⟨kq, x35_7, rfl, HA, HJ7, HO_5, HO_6, HB⟩ := hcut
   cases kq with
   | zero => exact absurd HA.out (by simp [tourkeep5_BonesLong.j0])
   | succ kj7 =>
    have H := HA.out
    clear HA
    simp only [tourkeep5_BonesLong.j0] at H
    by_cases c17 : x35_7 = true
    ·subst c17
     have H1 : (none) = some r := by rw [if_pos rfl] at H; exact H
     clear H
     have H := H1
     clear H1
     exact absurd H (by simp)
    ·replace c17 := Bool.eq_false_iff.mpr c17
     subst c17
     have H1 : (tourkeep5_BonesLong.l0 kj7 t330 t324 (t324.length : Int) 0) = some r := by rw [if_neg (show ¬ (false = true) by decide)] at H; exact H
     clear H
     have H := H1
     clear H1
     have H' := Aside0.mk H
     clear H
     go_wp2
     go_loopg [38] kj7 (fun kq v38 w' => ∃ (x38_2 : Int), v38 = .int .i64 x38_2 ∧ Aside0 (tourkeep5_BonesLong.l0 kq t330 t324 (t324.length : Int) x38_2 = some r) ∧ Aside0 (kq ≤ kj7) ∧ Aside0 (Kd.R k39 39 w' w.heap.size (fun _ => True) v332 t330) ∧ Aside0 (Kd.R k35 35 w' w.heap.size (fun _ => True) (.slice Ao11 t324.length co11) t324) ∧ Aside0 (Below w.heap.size w w'))
     case atStart => exact ⟨(0), (by first | rfl | (simp; done) | (simp [*]; done) | (simp; decide +kernel)), H', ⟨Nat.le_refl _⟩, ⟨by (with_reducible repeat (first | apply Kd.R_alloc | apply Kd.R_drewN | apply Kd.R_drew)); exact HO_6.out⟩, ⟨by (with_reducible repeat (first | apply Kd.R_alloc | apply Kd.R_drewN | apply Kd.R_drew)); exact HO_5.out⟩, ⟨by repeat (first | (with_reducible first | exact HB.out | apply below_alloc | apply pw_below_drewN | apply below_drew1) | exact HB.out)⟩⟩
     case round =>
      clear H'
      try clear c1; try clear p2; try clear c4; try clear p5; try clear c6; try clear c8; try clear c9; try clear c10
      try clear c15; try clear c15b0; try clear c15b1; try clear c17; try clear p2; try clear p5
      obtain ⟨x38_2, rfl, HA, HK2, HO_6, HO_36, HB⟩ := hrel
      cases gk with
      | zero => exact absurd HA.out (by simp [tourkeep5_BonesLong.l0])
      | succ k2 =>
       have H := HA.out
       clear HA
       simp only [tourkeep5_BonesLong.l0] at H
       by_cases c18 : x38_2 < (t324.length : Int)
       ·rw [if_pos c18] at H
        have c18b0 : decide (x38_2 < (t324.length : Int)) = true := decide_eq_true c18
        clear c18
        by_cases c19 : 0 ≤ x38_2
        ·rw [if_pos c19] at H
         have c19b0 : decide (0 ≤ x38_2) = true := decide_eq_true c19
         clear c19
         by_cases c20 : x38_2 < (t324.length : Int)
         ·rw [if_pos c20] at H
          have c20b0 : decide (x38_2 < (t324.length : Int)) = true := decide_eq_true c20
          clear c20
          by_cases c21 : ((rd_T35 t324 x38_2).f0) < 0
          ·rw [if_pos c21] at H
           have c21b0 : decide (((rd_T35 t324 x38_2).f0) < 0) = true := decide_eq_true c21
           clear c21
           have H' := Aside0.mk H
           clear H
           have p334 : 0 ≤ (x38_2 : Int) := of_decide_eq_true (by first | (with_reducible assumption) | assumption)
           have q334 : x38_2 < (t324.length : Int) := of_decide_eq_true (by first | (with_reducible assumption) | assumption)
           obtain ⟨ad334, e334, hx334_0, hx334_1, hx334_2, hx334_3⟩ := at_T35 (Kd.R_reads' HO_36.out).2.2 x38_2 p334 q334
           cases e334
           replace p334 := eq_true p334
           replace q334 := eq_true q334
           go_wp2_with (first | ((with_reducible refine gate_dst (N := 9) rfl ?_); (try (refine gate_guard (by rfl) ?_; dsimp only)); refine box_event ?hg (N := 9) ?hd (cs := #[.int .i64 0, .int .i64 0, .int .i64 0, .int .i64 0]) (t := 35) ?hr ?_; (case hd => rfl); (case hg => rfl); (case hr => first | (go_simp; done) | (go_simp; rfl)); intro gb335 hg w22 hbox hb; have n0_ := Aside0.mk (Kd.R_below (by (with_reducible repeat (first | apply Kd.R_alloc | apply Kd.R_drewN | apply Kd.R_drew)); exact HO_6.out) hb); have n1_ := Aside0.mk (Kd.R_below (Kd.R_elderB (by (with_reducible repeat (first | apply Kd.R_alloc | apply Kd.R_drewN | apply Kd.R_drew)); exact HO_36.out) gb335 (Nat.le_of_eq hg.symm)) hb); have n2_ := Aside0.mk (below_step (by repeat (first | (with_reducible first | exact HB.out | apply below_alloc | apply pw_below_drewN | apply below_drew1) | exact HB.out)) hb); have n3_ := Aside0.mk (hbox); have n4_ := Aside0.mk ((by rw [hg]; exact (below_size (by repeat (first | (with_reducible first | exact HB.out | apply below_alloc | apply pw_below_drewN | apply below_drew1) | exact HB.out))) : w.heap.size ≤ gb335)); have n5_ := Aside0.mk ((by rw [hg]; exact (below_size (by repeat (first | (with_reducible first | exact HB.out | apply below_alloc | apply pw_below_drewN | apply below_drew1) | exact HB.out))) : w.heap.size ≤ gb335)); clear HO_6; clear HO_36; clear HB; have HO_6 := n0_; have HO_36 := n1_; have HB := n2_; have BK335 := n3_; have GW335 := n4_; have GE335 := n5_; clear n0_ n1_ n2_ n3_ n4_ n5_; clear hb hbox hg; obtain ⟨hcz23_0, hcz23_1, hcz23_2, hcz23_3⟩ := blk4 BK335.out; obtain ⟨hfz23_0, hfz23_1, hfz23_2, hfz23_3⟩ := frz4 BK335.out))
           go_roundg k2
           case measure => have := HJ7.out; have := HK2.out; omega
           case rel => exact ⟨(wrap64 (x38_2 + 1)), (by first | rfl | (simp; done) | (simp [*]; done) | (simp; decide +kernel)), H', ⟨by have := HJ7.out; have := HK2.out; omega⟩, ⟨by (with_reducible repeat (first | apply Kd.R_alloc | apply Kd.R_drewN | apply Kd.R_drew)); exact Kd.R_mono (Kd.R_far (p := ⟨gb335, 3, none⟩) (Kd.R_far (p := ⟨gb335, 2, none⟩) (Kd.R_far (p := ⟨gb335, 1, none⟩) (Kd.R_far (p := ⟨gb335, 0, none⟩) (Kd.R_types HO_6.out BK335.out (by decide)) (fun _ hk => hk.2) (.int .i64 ((rd_T35 t324 x38_2).f0))) (fun _ hk => hk.2) (.int .i64 ((rd_T35 t324 x38_2).f1.f0))) (fun _ hk => hk.2) (.int .i64 ((rd_T35 t324 x38_2).f1.f1))) (fun _ hk => hk.2) (.int .i64 ((rd_T35 t324 x38_2).f1.f2))) (fun _ hk => trivial)⟩, ⟨by (with_reducible repeat (first | apply Kd.R_alloc | apply Kd.R_drewN | apply Kd.R_drew)); exact Kd.R_mono (Kd.R_far (p := ⟨gb335, 3, none⟩) (Kd.R_far (p := ⟨gb335, 2, none⟩) (Kd.R_far (p := ⟨gb335, 1, none⟩) (Kd.R_far (p := ⟨gb335, 0, none⟩) (Kd.R_mono HO_36.out (fun k_ hk => (⟨hk, hk.2⟩ : _ ∧ k_ ≠ gb335))) (fun _ hk => hk.2) (.int .i64 ((rd_T35 t324 x38_2).f0))) (fun _ hk => hk.2) (.int .i64 ((rd_T35 t324 x38_2).f1.f0))) (fun _ hk => hk.2) (.int .i64 ((rd_T35 t324 x38_2).f1.f1))) (fun _ hk => hk.2) (.int .i64 ((rd_T35 t324 x38_2).f1.f2))) (fun _ hk => trivial)⟩, ⟨by repeat (first | (with_reducible first | exact HB.out | apply below_alloc | apply pw_below_drewN | apply below_drew1 | refine below_set ?_ GE335.out) | exact HB.out)⟩⟩
          ·rw [if_neg c21] at H
           have c21b0 : decide (((rd_T35 t324 x38_2).f0) < 0) = false := decide_eq_false c21
           clear c21
           have H' := Aside0.mk H
           clear H
           have p334 : 0 ≤ (x38_2 : Int) := of_decide_eq_true (by first | (with_reducible assumption) | assumption)
           have q334 : x38_2 < (t324.length : Int) := of_decide_eq_true (by first | (with_reducible assumption) | assumption)
           obtain ⟨ad334, e334, hx334_0, hx334_1, hx334_2, hx334_3⟩ := at_T35 (Kd.R_reads' HO_36.out).2.2 x38_2 p334 q334
           cases e334
           replace p334 := eq_true p334
           replace q334 := eq_true q334
           go_wp2_with (first | ((with_reducible refine gate_dst (N := 9) rfl ?_); (try (refine gate_guard (by rfl) ?_; dsimp only)); refine box_event ?hg (N := 9) ?hd (cs := #[.int .i64 0, .int .i64 0, .int .i64 0, .int .i64 0]) (t := 35) ?hr ?_; (case hd => rfl); (case hg => rfl); (case hr => first | (go_simp; done) | (go_simp; rfl)); intro gb335 hg w24 hbox hb; have n0_ := Aside0.mk (Kd.R_below (by (with_reducible repeat (first | apply Kd.R_alloc | apply Kd.R_drewN | apply Kd.R_drew)); exact HO_6.out) hb); have n1_ := Aside0.mk (Kd.R_below (Kd.R_elderB (by (with_reducible repeat (first | apply Kd.R_alloc | apply Kd.R_drewN | apply Kd.R_drew)); exact HO_36.out) gb335 (Nat.le_of_eq hg.symm)) hb); have n2_ := Aside0.mk (below_step (by repeat (first | (with_reducible first | exact HB.out | apply below_alloc | apply pw_below_drewN | apply below_drew1) | exact HB.out)) hb); have n3_ := Aside0.mk (hbox); have n4_ := Aside0.mk ((by rw [hg]; exact (below_size (by repeat (first | (with_reducible first | exact HB.out | apply below_alloc | apply pw_below_drewN | apply below_drew1) | exact HB.out))) : w.heap.size ≤ gb335)); have n5_ := Aside0.mk ((by rw [hg]; exact (below_size (by repeat (first | (with_reducible first | exact HB.out | apply below_alloc | apply pw_below_drewN | apply below_drew1) | exact HB.out))) : w.heap.size ≤ gb335)); clear HO_6; clear HO_36; clear HB; have HO_6 := n0_; have HO_36 := n1_; have HB := n2_; have BK335 := n3_; have GW335 := n4_; have GE335 := n5_; clear n0_ n1_ n2_ n3_ n4_ n5_; clear hb hbox hg; obtain ⟨hcz25_0, hcz25_1, hcz25_2, hcz25_3⟩ := blk4 BK335.out; obtain ⟨hfz25_0, hfz25_1, hfz25_2, hfz25_3⟩ := frz4 BK335.out) | ((with_reducible refine gate_dst (N := 10) rfl ?_); (try (refine gate_guard (by rfl) ?_; dsimp only)); refine box_event ?hg (N := 10) ?hd (cs := #[.int .i64 0, .int .i64 0, .int .i64 0]) (t := 33) ?hr ?_; (case hd => rfl); (case hg => rfl); (case hr => first | (go_simp; done) | (go_simp; rfl)); intro gb336 hg w26 hbox hb; have n0_ := Aside0.mk (Kd.R_below (by (with_reducible repeat (first | apply Kd.R_alloc | apply Kd.R_drewN | apply Kd.R_drew)); exact (Kd.R_mono (Kd.R_far (p := ⟨gb335, 3, none⟩) (Kd.R_far (p := ⟨gb335, 2, none⟩) (Kd.R_far (p := ⟨gb335, 1, none⟩) (Kd.R_far (p := ⟨gb335, 0, none⟩) (Kd.R_types HO_6.out BK335.out (by decide)) (fun _ hk => hk.2) (.int .i64 ((rd_T35 t324 x38_2).f0))) (fun _ hk => hk.2) (.int .i64 ((rd_T35 t324 x38_2).f1.f0))) (fun _ hk => hk.2) (.int .i64 ((rd_T35 t324 x38_2).f1.f1))) (fun _ hk => hk.2) (.int .i64 ((rd_T35 t324 x38_2).f1.f2))) (fun _ h_ => h_.1))) hb); have n1_ := Aside0.mk (Kd.R_below (by (with_reducible repeat (first | apply Kd.R_alloc | apply Kd.R_drewN | apply Kd.R_drew)); exact (Kd.R_mono (Kd.R_far (p := ⟨gb335, 3, none⟩) (Kd.R_far (p := ⟨gb335, 2, none⟩) (Kd.R_far (p := ⟨gb335, 1, none⟩) (Kd.R_far (p := ⟨gb335, 0, none⟩) (Kd.R_mono HO_36.out (fun k_ hk => (⟨hk, hk.2⟩ : _ ∧ k_ ≠ gb335))) (fun _ hk => hk.2) (.int .i64 ((rd_T35 t324 x38_2).f0))) (fun _ hk => hk.2) (.int .i64 ((rd_T35 t324 x38_2).f1.f0))) (fun _ hk => hk.2) (.int .i64 ((rd_T35 t324 x38_2).f1.f1))) (fun _ hk => hk.2) (.int .i64 ((rd_T35 t324 x38_2).f1.f2))) (fun _ h_ => h_.1))) hb); have n2_ := Aside0.mk (blk_below (g := gb335) (o := .cells #[.int .i64 ((rd_T35 t324 x38_2).f0), .int .i64 ((rd_T35 t324 x38_2).f1.f0), .int .i64 ((rd_T35 t324 x38_2).f1.f1), .int .i64 ((rd_T35 t324 x38_2).f1.f2)] 35 (0, 0)) (by (with_reducible repeat (first | refine blk_drewN ?_ _ | refine blk_drew ?_ | refine blk_alloc ?_ _)); refine blk_put (cs := #[.int .i64 ((rd_T35 t324 x38_2).f0), .int .i64 ((rd_T35 t324 x38_2).f1.f0), .int .i64 ((rd_T35 t324 x38_2).f1.f1), .int .i64 0]) ?_ 3 _ rfl; refine blk_put (cs := #[.int .i64 ((rd_T35 t324 x38_2).f0), .int .i64 ((rd_T35 t324 x38_2).f1.f0), .int .i64 0, .int .i64 0]) ?_ 2 _ rfl; refine blk_put (cs := #[.int .i64 ((rd_T35 t324 x38_2).f0), .int .i64 0, .int .i64 0, .int .i64 0]) ?_ 1 _ rfl; refine blk_put (cs := #[.int .i64 0, .int .i64 0, .int .i64 0, .int .i64 0]) ?_ 0 _ rfl; exact BK335.out) hb); have n3_ := Aside0.mk (below_step (by repeat (first | (with_reducible first | exact HB.out | apply below_alloc | apply pw_below_drewN | apply below_drew1 | refine below_set ?_ GE335.out) | exact HB.out)) hb); have n4_ := Aside0.mk (hbox); have n5_ := Aside0.mk ((by rw [hg]; exact (below_size (by repeat (first | (with_reducible first | exact HB.out | apply below_alloc | apply pw_below_drewN | apply below_drew1 | refine below_set ?_ GE335.out) | exact HB.out))) : w.heap.size ≤ gb336)); have n6_ := Aside0.mk ((by rw [hg]; exact (below_size (by repeat (first | (with_reducible first | exact HB.out | apply below_alloc | apply pw_below_drewN | apply below_drew1 | refine below_set ?_ GE335.out) | exact HB.out))) : w.heap.size ≤ gb336)); have n7_ := Aside0.mk ((by rw [hg]; exact Nat.ne_of_lt (blk_lt (g := gb335) (o := .cells #[.int .i64 ((rd_T35 t324 x38_2).f0), .int .i64 ((rd_T35 t324 x38_2).f1.f0), .int .i64 ((rd_T35 t324 x38_2).f1.f1), .int .i64 ((rd_T35 t324 x38_2).f1.f2)] 35 (0, 0)) (by (with_reducible repeat (first | refine blk_drewN ?_ _ | refine blk_drew ?_ | refine blk_alloc ?_ _)); refine blk_put (cs := #[.int .i64 ((rd_T35 t324 x38_2).f0), .int .i64 ((rd_T35 t324 x38_2).f1.f0), .int .i64 ((rd_T35 t324 x38_2).f1.f1), .int .i64 0]) ?_ 3 _ rfl; refine blk_put (cs := #[.int .i64 ((rd_T35 t324 x38_2).f0), .int .i64 ((rd_T35 t324 x38_2).f1.f0), .int .i64 0, .int .i64 0]) ?_ 2 _ rfl; refine blk_put (cs := #[.int .i64 ((rd_T35 t324 x38_2).f0), .int .i64 0, .int .i64 0, .int .i64 0]) ?_ 1 _ rfl; refine blk_put (cs := #[.int .i64 0, .int .i64 0, .int .i64 0, .int .i64 0]) ?_ 0 _ rfl; exact BK335.out)) : gb335 ≠ gb336)); have n8_ := Aside0.mk ((by rw [hg]; exact Nat.ne_of_gt (blk_lt (g := gb335) (o := .cells #[.int .i64 ((rd_T35 t324 x38_2).f0), .int .i64 ((rd_T35 t324 x38_2).f1.f0), .int .i64 ((rd_T35 t324 x38_2).f1.f1), .int .i64 ((rd_T35 t324 x38_2).f1.f2)] 35 (0, 0)) (by (with_reducible repeat (first | refine blk_drewN ?_ _ | refine blk_drew ?_ | refine blk_alloc ?_ _)); refine blk_put (cs := #[.int .i64 ((rd_T35 t324 x38_2).f0), .int .i64 ((rd_T35 t324 x38_2).f1.f0), .int .i64 ((rd_T35 t324 x38_2).f1.f1), .int .i64 0]) ?_ 3 _ rfl; refine blk_put (cs := #[.int .i64 ((rd_T35 t324 x38_2).f0), .int .i64 ((rd_T35 t324 x38_2).f1.f0), .int .i64 0, .int .i64 0]) ?_ 2 _ rfl; refine blk_put (cs := #[.int .i64 ((rd_T35 t324 x38_2).f0), .int .i64 0, .int .i64 0, .int .i64 0]) ?_ 1 _ rfl; refine blk_put (cs := #[.int .i64 0, .int .i64 0, .int .i64 0, .int .i64 0]) ?_ 0 _ rfl; exact BK335.out)) : gb336 ≠ gb335)); clear HO_6; clear HO_36; clear BK335; clear HB; have HO_6 := n0_; have HO_36 := n1_; have BK335 := n2_; have HB := n3_; have BK336 := n4_; have GW336 := n5_; have GE336 := n6_; have NB335_336 := n7_; have NB336_335 := n8_; clear n0_ n1_ n2_ n3_ n4_ n5_ n6_ n7_ n8_; clear hb hbox hg))
           go_loopg [46] k2 (fun kq v46 w' => ∃ (x46_3 : Int) (x337000_3 : Int) (x337001_3 : Int) (x337002_3 : Int), v46 = .int .i64 x46_3 ∧ Aside0 (tourkeep5_BonesLong.l1 kq t330 x38_2 t324 (t324.length : Int) x38_2 x46_3 ((rd_T35 t324 x38_2).f0) ((rd_T35 t324 x38_2).f1.f0) ((rd_T35 t324 x38_2).f1.f1) ((rd_T35 t324 x38_2).f1.f2) x337000_3 x337001_3 x337002_3 = some r) ∧ Aside0 (kq ≤ k2) ∧ Aside0 (Kd.R k39 39 w' w.heap.size (fun _ => True) v332 t330) ∧ Aside0 (Kd.R k35 35 w' w.heap.size (fun k_ => k_ ≠ gb335) (.slice (some ad334) t324.length co11) t324) ∧ Aside0 (w'.heap[gb335]? = some (.cells #[.int .i64 ((rd_T35 t324 x38_2).f0), .int .i64 ((rd_T35 t324 x38_2).f1.f0), .int .i64 ((rd_T35 t324 x38_2).f1.f1), .int .i64 ((rd_T35 t324 x38_2).f1.f2)] 35 (0, 0))) ∧ Aside0 (w'.heap[gb336]? = some (.cells #[.int .i64 x337000_3, .int .i64 x337001_3, .int .i64 x337002_3] 33 (0, 0))) ∧ Aside0 (Below w.heap.size w w'))
           case atStart => exact ⟨(0), (0), (0), (0), (by first | rfl | (simp; done) | (simp [*]; done) | (simp; decide +kernel)), H', ⟨Nat.le_refl _⟩, ⟨by (with_reducible repeat (first | apply Kd.R_alloc | apply Kd.R_drewN | apply Kd.R_drew)); exact HO_6.out⟩, ⟨by (with_reducible repeat (first | apply Kd.R_alloc | apply Kd.R_drewN | apply Kd.R_drew)); exact Kd.R_mono HO_36.out (fun _ hk => hk.2)⟩, ⟨BK335.out⟩, ⟨BK336.out⟩, ⟨by repeat (first | (with_reducible first | exact HB.out | apply below_alloc | apply pw_below_drewN | apply below_drew1 | refine below_set ?_ GE335.out | refine below_set ?_ GE336.out) | exact HB.out)⟩⟩
           case round =>
            clear H'
            try clear c1; try clear c2; try clear p2; try clear p3; try clear q3; try clear hx3; try clear c4; try clear p5
            try clear c6; try clear p6; try clear c8; try clear c9; try clear c10; try clear c15; try clear c15b0; try clear c15b1
            try clear c17; try clear c18; try clear c18b0; try clear c19; try clear c19b0; try clear c20; try clear c20b0; try clear c21
            try clear c21b0; try clear hcz23_0; try clear hcz23_1; try clear hcz23_2; try clear hcz23_3; try clear hcz25_0; try clear hcz25_1; try clear hcz25_2
            try clear hcz25_3; try clear hfz23_0; try clear hfz23_1; try clear hfz23_2; try clear hfz23_3; try clear hfz25_0; try clear hfz25_1; try clear hfz25_2
            try clear hfz25_3; try clear hx334_0; try clear hx334_1; try clear hx334_2; try clear hx334_3; try clear p2; try clear p334; try clear p5
            try clear q334
            obtain ⟨x46_3, x337000_3, x337001_3, x337002_3, rfl, HA, HK3, HO_6, HO_36, BK335, BK336, HB⟩ := hrel
            cases gk with
            | zero => exact absurd HA.out (by simp [tourkeep5_BonesLong.l1])
            | succ k3 =>
             have H := HA.out
             clear HA
             simp only [tourkeep5_BonesLong.l1] at H
             by_cases c27 : x46_3 < 3
             ·rw [if_pos c27] at H
              have c27b0 : decide (x46_3 < 3) = true := decide_eq_true c27
              clear c27
              by_cases c28 : 0 ≤ x38_2
              ·rw [if_pos c28] at H
               have c28b0 : decide (0 ≤ x38_2) = true := decide_eq_true c28
               clear c28
               by_cases c29 : x38_2 < (t330.length : Int)
               ·rw [if_pos c29] at H
                have c29b0 : decide (x38_2 < (t330.length : Int)) = true := decide_eq_true c29
                clear c29
                by_cases c30 : x46_3 = 0
                ·subst c30
                 have H1 : (if 0 ≤ ((rd_T35 t324 x38_2).f0) then (if ((rd_T35 t324 x38_2).f0) < (t330.length : Int) then (tourkeep5_BonesLong.l1 k3 t330 x38_2 t324 (t324.length : Int) x38_2 (wrap64 (0 + 1)) ((rd_T35 t324 x38_2).f0) ((rd_T35 t324 x38_2).f1.f0) ((rd_T35 t324 x38_2).f1.f1) ((rd_T35 t324 x38_2).f1.f2) (wrap64 (((rd_T39 t330 x38_2).f0.f0) - ((rd_T39 t330 ((rd_T35 t324 x38_2).f0)).f0.f0))) x337001_3 x337002_3) else (none)) else (none)) = some r := by rw [if_pos rfl] at H; exact H
                 clear H
                 have H := H1
                 clear H1
                 by_cases c31 : 0 ≤ ((rd_T35 t324 x38_2).f0)
                 ·rw [if_pos c31] at H
                  have c31b0 : decide (0 ≤ ((rd_T35 t324 x38_2).f0)) = true := decide_eq_true c31
                  clear c31
                  by_cases c32 : ((rd_T35 t324 x38_2).f0) < (t330.length : Int)
                  ·rw [if_pos c32] at H
                   have c32b0 : decide (((rd_T35 t324 x38_2).f0) < (t330.length : Int)) = true := decide_eq_true c32
                   clear c32
                   have H' := Aside0.mk H
                   clear H
                   try go_wp2
                   have n0_ := Aside0.mk (Kd.R_drew HO_6.out)
                   have n1_ := Aside0.mk (Kd.R_drew HO_36.out)
                   have n2_ := Aside0.mk (blk_drew BK335.out)
                   have n3_ := Aside0.mk (blk_drew BK336.out)
                   have n4_ := Aside0.mk (below_drew1 HB.out)
                   clear HO_6
                   clear HO_36
                   clear BK335
                   clear BK336
                   clear HB
                   have HO_6 := n0_
                   have HO_36 := n1_
                   have BK335 := n2_
                   have BK336 := n3_
                   have HB := n4_
                   clear n0_ n1_ n2_ n3_ n4_
                   obtain ⟨Ao34, co34, eo34⟩ := Kd.R_slice HO_6.out
                   (first | subst eo34 | (injection eo34 with f1_ f2_ f3_; have f4_ := f1_.symm; have f5_ := f3_.symm; clear f1_ f2_ f3_; subst f4_; subst f5_))
                   have p337 : 0 ≤ (x38_2 : Int) := of_decide_eq_true (by first | (with_reducible assumption) | assumption)
                   have q337 : x38_2 < (t330.length : Int) := of_decide_eq_true (by first | (with_reducible assumption) | assumption)
                   obtain ⟨ad337, e337, hx337_0, hx337_1, hx337_2, hx337_3, hx337_4, hx337_5, hx337_6⟩ := at_T39 (Kd.R_reads' HO_6.out).2.2 x38_2 p337 q337
                   cases e337
                   replace p337 := eq_true p337
                   replace q337 := eq_true q337
                   have p338 : 0 ≤ (((rd_T35 t324 x38_2).f0) : Int) := of_decide_eq_true (by first | (with_reducible assumption) | assumption)
                   have q338 : ((rd_T35 t324 x38_2).f0) < (t330.length : Int) := of_decide_eq_true (by first | (with_reducible assumption) | assumption)
                   obtain ⟨ad338, e338, hx338_0, hx338_1, hx338_2, hx338_3, hx338_4, hx338_5, hx338_6⟩ := at_T39 (Kd.R_reads' HO_6.out).2.2 ((rd_T35 t324 x38_2).f0) p338 q338
                   obtain rfl : ad337 = ad338 := (by injection e338)
                   replace p338 := eq_true p338
                   replace q338 := eq_true q338
                   refine start_ (n := 19) (S := fun w' => w'.cell? ⟨gb335, 0, none⟩ = some (.int .i64 ((rd_T35 t324 x38_2).f0)) ∧ w'.cell? ⟨gb335, 1, none⟩ = some (.int .i64 ((rd_T35 t324 x38_2).f1.f0)) ∧ w'.cell? ⟨gb335, 2, none⟩ = some (.int .i64 ((rd_T35 t324 x38_2).f1.f1)) ∧ w'.cell? ⟨gb335, 3, none⟩ = some (.int .i64 ((rd_T35 t324 x38_2).f1.f2)) ∧ w'.cell? (ad337.add ((x38_2).toNat * 7)) = some (.int .i64 ((rd_T39 t330 x38_2).f0.f0)) ∧ w'.cell? ⟨(ad337.add ((x38_2).toNat * 7)).block, (ad337.add ((x38_2).toNat * 7)).off + 1, none⟩ = some (.int .i64 ((rd_T39 t330 x38_2).f0.f1)) ∧ w'.cell? ⟨(ad337.add ((x38_2).toNat * 7)).block, (ad337.add ((x38_2).toNat * 7)).off + 2, none⟩ = some (.int .i64 ((rd_T39 t330 x38_2).f0.f2)) ∧ w'.cell? ⟨(ad337.add ((x38_2).toNat * 7)).block, (ad337.add ((x38_2).toNat * 7)).off + 3, none⟩ = some (.int .i64 ((rd_T39 t330 x38_2).f1.f0)) ∧ w'.cell? ⟨(ad337.add ((x38_2).toNat * 7)).block, (ad337.add ((x38_2).toNat * 7)).off + 4, none⟩ = some (.int .i64 ((rd_T39 t330 x38_2).f1.f1)) ∧ w'.cell? ⟨(ad337.add ((x38_2).toNat * 7)).block, (ad337.add ((x38_2).toNat * 7)).off + 5, none⟩ = some (.int .i64 ((rd_T39 t330 x38_2).f1.f2)) ∧ w'.cell? ⟨(ad337.add ((x38_2).toNat * 7)).block, (ad337.add ((x38_2).toNat * 7)).off + 6, none⟩ = some (.int .i64 ((rd_T39 t330 x38_2).f1.f3)) ∧ w'.cell? (ad337.add ((((rd_T35 t324 x38_2).f0)).toNat * 7)) = some (.int .i64 ((rd_T39 t330 ((rd_T35 t324 x38_2).f0)).f0.f0)) ∧ w'.cell? ⟨(ad337.add ((((rd_T35 t324 x38_2).f0)).toNat * 7)).block, (ad337.add ((((rd_T35 t324 x38_2).f0)).toNat * 7)).off + 1, none⟩ = some (.int .i64 ((rd_T39 t330 ((rd_T35 t324 x38_2).f0)).f0.f1)) ∧ w'.cell? ⟨(ad337.add ((((rd_T35 t324 x38_2).f0)).toNat * 7)).block, (ad337.add ((((rd_T35 t324 x38_2).f0)).toNat * 7)).off + 2, none⟩ = some (.int .i64 ((rd_T39 t330 ((rd_T35 t324 x38_2).f0)).f0.f2)) ∧ w'.cell? ⟨(ad337.add ((((rd_T35 t324 x38_2).f0)).toNat * 7)).block, (ad337.add ((((rd_T35 t324 x38_2).f0)).toNat * 7)).off + 3, none⟩ = some (.int .i64 ((rd_T39 t330 ((rd_T35 t324 x38_2).f0)).f1.f0)) ∧ w'.cell? ⟨(ad337.add ((((rd_T35 t324 x38_2).f0)).toNat * 7)).block, (ad337.add ((((rd_T35 t324 x38_2).f0)).toNat * 7)).off + 4, none⟩ = some (.int .i64 ((rd_T39 t330 ((rd_T35 t324 x38_2).f0)).f1.f1)) ∧ w'.cell? ⟨(ad337.add ((((rd_T35 t324 x38_2).f0)).toNat * 7)).block, (ad337.add ((((rd_T35 t324 x38_2).f0)).toNat * 7)).off + 5, none⟩ = some (.int .i64 ((rd_T39 t330 ((rd_T35 t324 x38_2).f0)).f1.f2)) ∧ w'.cell? ⟨(ad337.add ((((rd_T35 t324 x38_2).f0)).toNat * 7)).block, (ad337.add ((((rd_T35 t324 x38_2).f0)).toNat * 7)).off + 6, none⟩ = some (.int .i64 ((rd_T39 t330 ((rd_T35 t324 x38_2).f0)).f1.f3))) (ds := []) (ab 19 0) (by kernel_rfl) rfl rfl ⟨(blk_cell BK335.out 0).trans rfl, (blk_cell BK335.out 1).trans rfl, (blk_cell BK335.out 2).trans rfl, (blk_cell BK335.out 3).trans rfl, hx337_0, hx337_1, hx337_2, hx337_3, hx337_4, hx337_5, hx337_6, hx338_0, hx338_1, hx338_2, hx338_3, hx338_4, hx338_5, hx338_6⟩ (fun hHeld => ?_); refine with_tabW tourkeep5_BonesLong.tab15 tourkeep5_BonesLong.bits15 (fun HT_ HW_ => ?_)
                   generalize wr.drew = w33 at HO_6 HO_36 BK335 BK336 HB hx337_0 hx337_1 hx337_2 hx337_3 hx337_4 hx337_5 hx337_6 hx338_0 hx338_1 hx338_2 hx338_3 hx338_4 hx338_5 hx338_6 hHeld ⊢
                   refine pure_ (i := 0) (N := some 49) (v := ?_) (a' := ?_) (ab 19 1) rfl rfl (any_of HT_.out (by kernel_rfl)) (fun _ _ _ h => h) (Or.inl ⟨by rfl, ?_⟩) ?_ ?_
                   rotate_left
                   ·intro w'
                    go_simp
                    with_reducible rfl
                   rotate_left
                   ·simp only [Act.put, zq1, zq2, zq3, i64_w, i32_w]
                    rfl
                   refine pure_ (i := 1) (N := some 50) (v := ?_) (a' := ?_) (ab 19 3) rfl rfl (any_of HT_.out (by kernel_rfl)) (fun _ _ _ h => h) (Or.inl ⟨by rfl, ?_⟩) ?_ ?_
                   rotate_left
                   ·intro w'
                    go_simp
                    with_reducible rfl
                   rotate_left
                   ·simp only [Act.put, zq1, zq2, zq3, i64_w, i32_w]
                    rfl
                   refine pure_ (i := 2) (N := some 51) (v := ?_) (a' := ?_) (ab 19 7) rfl rfl (any_of HT_.out (by kernel_rfl)) (fun _ _ _ h => h) (Or.inl ⟨by rfl, ?_⟩) ?_ ?_
                   rotate_left
                   ·intro w'
                    go_simp
                    with_reducible rfl
                   rotate_left
                   ·simp only [Act.put, zq1, zq2, zq3, i64_w, i32_w]
                    rfl
                   refine pure_ (i := 3) (N := some 52) (v := ?_) (a' := ?_) (ab 19 15) rfl rfl (any_of HT_.out (by kernel_rfl)) (fun _ _ _ h => h) (Or.inl ⟨by rfl, ?_⟩) ?_ ?_
                   rotate_left
                   ·intro w'
                    go_simp
                    with_reducible rfl
                   rotate_left
                   ·simp only [Act.put, zq1, zq2, zq3, i64_w, i32_w]
                    rfl
                   refine pure_ (i := 4) (N := some 53) (v := ?_) (a' := ?_) (ab 19 31) rfl rfl (any_of HT_.out (by kernel_rfl)) (fun _ _ _ h => h) (Or.inl ⟨by rfl, ?_⟩) ?_ ?_
                   rotate_left
                   ·intro w'
                    go_simp
                    with_reducible rfl
                   rotate_left
                   ·simp only [Act.put, zq1, zq2, zq3, i64_w, i32_w]
                    rfl
                   refine pure_ (i := 5) (N := some 54) (v := ?_) (a' := ?_) (ab 19 63) rfl rfl (any_of HT_.out (by kernel_rfl)) (fun _ _ _ h => h) (Or.inl ⟨by rfl, ?_⟩) ?_ ?_
                   rotate_left
                   ·intro w'
                    go_simp
                    with_reducible rfl
                   rotate_left
                   ·simp only [Act.put, zq1, zq2, zq3, i64_w, i32_w]
                    rfl
                   refine pure_ (i := 6) (N := some 55) (v := ?_) (a' := ?_) (ab 19 127) rfl rfl (any_of HT_.out (by kernel_rfl)) (fun _ _ _ h => h) (Or.inl ⟨by rfl, ?_⟩) ?_ ?_
                   rotate_left
                   ·intro w'
                    go_simp
                    with_reducible rfl
                   rotate_left
                   ·simp only [Act.put, zq1, zq2, zq3, i64_w, i32_w]
                    rfl
                   refine pure_ (i := 8) (N := some 57) (v := ?_) (a' := ?_) (ab 19 383) rfl rfl (any_of HT_.out (by kernel_rfl)) (fun _ _ _ h => h) (Or.inl ⟨by rfl, ?_⟩) ?_ ?_
                   rotate_left
                   ·intro w'
                    go_simp
                    with_reducible rfl
                   rotate_left
                   ·simp only [Act.put, zq1, zq2, zq3, i64_w, i32_w]
                    rfl
                   refine pure_ (i := 9) (N := some 58) (v := ?_) (a' := ?_) (ab 19 895) rfl rfl (any_of HT_.out (by kernel_rfl)) (fun _ _ _ h => h) (Or.inl ⟨by rfl, ?_⟩) ?_ ?_
                   rotate_left
                   ·intro w'
                    go_simp
                    with_reducible rfl
                   rotate_left
                   ·simp only [Act.put, zq1, zq2, zq3, i64_w, i32_w]
                    rfl
                   refine pure_ (i := 11) (N := some 60) (v := ?_) (a' := ?_) (ab 19 2943) rfl rfl (any_of HT_.out (by kernel_rfl)) (fun _ _ _ h => h) (Or.inl ⟨by rfl, ?_⟩) ?_ ?_
                   rotate_left
                   ·intro w'
                    go_simp
                    with_reducible rfl
                   rotate_left
                   ·simp only [Act.put, zq1, zq2, zq3, i64_w, i32_w]
                    rfl
                   refine take_ (i := 7) (N := some 56) (v := ?_) (a' := ?_) (ab 19 3071) rfl rfl (take_ofW HT_.out HW_.out (by kernel_rfl)) (fun _ _ _ h => h) (Or.inl ⟨by rfl, ?_⟩) hHeld ?_ ?_
                   rotate_left
                   ·rintro w' ⟨s0, s1, s2, s3, s4, s5, s6, s7, s8, s9, s10, s11, s12, s13, s14, s15, s16, s17⟩
                    go_simp
                    with_reducible rfl
                   rotate_left
                   ·simp only [Act.put, zq1, zq2, zq3, i64_w, i32_w]
                    rfl
                   refine take_ (i := 10) (N := some 59) (v := ?_) (a' := ?_) (ab 19 4095) rfl rfl (take_ofW HT_.out HW_.out (by kernel_rfl)) (fun _ _ _ h => h) (Or.inl ⟨by rfl, ?_⟩) hHeld ?_ ?_
                   rotate_left
                   ·rintro w' ⟨s0, s1, s2, s3, s4, s5, s6, s7, s8, s9, s10, s11, s12, s13, s14, s15, s16, s17⟩
                    go_simp
                    with_reducible rfl
                   rotate_left
                   ·simp only [Act.put, zq1, zq2, zq3, i64_w, i32_w]
                    rfl
                   refine pure_ (i := 12) (N := some 61) (v := ?_) (a' := ?_) (ab 19 8191) rfl rfl (any_of HT_.out (by kernel_rfl)) (fun _ _ _ h => h) (Or.inl ⟨by rfl, ?_⟩) ?_ ?_
                   rotate_left
                   ·intro w'
                    go_simp
                    with_reducible rfl
                   rotate_left
                   ·simp only [Act.put, zq1, zq2, zq3, i64_w, i32_w]
                    rfl
                   refine pure_ (i := 13) (N := some 62) (v := ?_) (a' := ?_) (ab 19 16383) rfl rfl (any_of HT_.out (by kernel_rfl)) (fun _ _ _ h => h) (Or.inl ⟨by rfl, ?_⟩) ?_ ?_
                   rotate_left
                   ·intro w'
                    go_simp
                    with_reducible rfl
                   rotate_left
                   ·simp only [Act.put, zq1, zq2, zq3, i64_w, i32_w]
                    rfl
                   refine pure_ (i := 14) (N := some 63) (v := ?_) (a' := ?_) (ab 19 32767) rfl rfl (any_of HT_.out (by kernel_rfl)) (fun _ _ _ h => h) (Or.inl ⟨by rfl, ?_⟩) ?_ ?_
                   rotate_left
                   ·intro w'
                    go_simp
                    with_reducible rfl
                   rotate_left
                   ·simp only [Act.put, zq1, zq2, zq3, i64_w, i32_w]
                    rfl
                   refine take_ (i := 15) (N := some 64) (v := ?_) (a' := ?_) (ab 19 65535) rfl rfl (take_ofW HT_.out HW_.out (by kernel_rfl)) (fun _ _ _ h => h) (Or.inl ⟨by rfl, ?_⟩) hHeld ?_ ?_
                   rotate_left
                   ·rintro w' ⟨s0, s1, s2, s3, s4, s5, s6, s7, s8, s9, s10, s11, s12, s13, s14, s15, s16, s17⟩
                    go_simp
                    with_reducible rfl
                   rotate_left
                   ·simp only [Act.put, zq1, zq2, zq3, i64_w, i32_w]
                    rfl
                   refine pure_ (i := 16) (N := some 65) (v := ?_) (a' := ?_) (ab 19 131071) rfl rfl (any_of HT_.out (by kernel_rfl)) (fun _ _ _ h => h) (Or.inl ⟨by rfl, ?_⟩) ?_ ?_
                   rotate_left
                   ·intro w'
                    go_simp
                    with_reducible rfl
                   rotate_left
                   ·simp only [Act.put, zq1, zq2, zq3, i64_w, i32_w]
                    rfl
                   refine pure_ (i := 17) (N := some 66) (v := ?_) (a' := ?_) (ab 19 262143) rfl rfl (any_of HT_.out (by kernel_rfl)) (fun _ _ _ h => h) (Or.inl ⟨by rfl, ?_⟩) ?_ ?_
                   rotate_left
                   ·intro w'
                    go_simp
                    with_reducible rfl
                   rotate_left
                   ·simp only [Act.put, zq1, zq2, zq3, i64_w, i32_w]
                    rfl
                   refine one_ (i := 18) (N := none) (ab 19 524287) rfl rfl (one_of HT_.out (by kernel_rfl)) (by decide) (fun K hK => ?_)
                   have hs35 : w33.cell? ⟨gb336, 0, none⟩ = some (.int .i64 x337000_3) := (blk_cell BK336.out 0).trans rfl
                   have hfs35 := blk_frozen BK336.out 0
                   have hns35_0 := NB335_336.out
                   have hms35_0 := NB336_335.out
                   refine skip_ (w1 := ?_) (by rfl) rfl ?_ ?_
                   rotate_left
                   ·go_simp
                    rfl
                   refine hK.out _ _ ⟨(cf NB335_336.out (hHeld.1)), (cf NB335_336.out (hHeld.2.1)), (cf NB335_336.out (hHeld.2.2.1)), (cf NB335_336.out (hHeld.2.2.2.1)), (cf (by first | exact (Kd.own_blk (Kd.R_ne HO_6.out BK336.out (by decide)) :) | (show (Addr.add _ _).block ≠ _; rw [add_block]; exact (Kd.own_blk (Kd.R_ne HO_6.out BK336.out (by decide)) :))) (hHeld.2.2.2.2.1)), (cf (by first | exact (Kd.own_blk (Kd.R_ne HO_6.out BK336.out (by decide)) :) | (show (Addr.add _ _).block ≠ _; rw [add_block]; exact (Kd.own_blk (Kd.R_ne HO_6.out BK336.out (by decide)) :))) (hHeld.2.2.2.2.2.1)), (cf (by first | exact (Kd.own_blk (Kd.R_ne HO_6.out BK336.out (by decide)) :) | (show (Addr.add _ _).block ≠ _; rw [add_block]; exact (Kd.own_blk (Kd.R_ne HO_6.out BK336.out (by decide)) :))) (hHeld.2.2.2.2.2.2.1)), (cf (by first | exact (Kd.own_blk (Kd.R_ne HO_6.out BK336.out (by decide)) :) | (show (Addr.add _ _).block ≠ _; rw [add_block]; exact (Kd.own_blk (Kd.R_ne HO_6.out BK336.out (by decide)) :))) (hHeld.2.2.2.2.2.2.2.1)), (cf (by first | exact (Kd.own_blk (Kd.R_ne HO_6.out BK336.out (by decide)) :) | (show (Addr.add _ _).block ≠ _; rw [add_block]; exact (Kd.own_blk (Kd.R_ne HO_6.out BK336.out (by decide)) :))) (hHeld.2.2.2.2.2.2.2.2.1)), (cf (by first | exact (Kd.own_blk (Kd.R_ne HO_6.out BK336.out (by decide)) :) | (show (Addr.add _ _).block ≠ _; rw [add_block]; exact (Kd.own_blk (Kd.R_ne HO_6.out BK336.out (by decide)) :))) (hHeld.2.2.2.2.2.2.2.2.2.1)), (cf (by first | exact (Kd.own_blk (Kd.R_ne HO_6.out BK336.out (by decide)) :) | (show (Addr.add _ _).block ≠ _; rw [add_block]; exact (Kd.own_blk (Kd.R_ne HO_6.out BK336.out (by decide)) :))) (hHeld.2.2.2.2.2.2.2.2.2.2.1)), (cf (by first | exact (Kd.own_blk (Kd.R_ne HO_6.out BK336.out (by decide)) :) | (show (Addr.add _ _).block ≠ _; rw [add_block]; exact (Kd.own_blk (Kd.R_ne HO_6.out BK336.out (by decide)) :))) (hHeld.2.2.2.2.2.2.2.2.2.2.2.1)), (cf (by first | exact (Kd.own_blk (Kd.R_ne HO_6.out BK336.out (by decide)) :) | (show (Addr.add _ _).block ≠ _; rw [add_block]; exact (Kd.own_blk (Kd.R_ne HO_6.out BK336.out (by decide)) :))) (hHeld.2.2.2.2.2.2.2.2.2.2.2.2.1)), (cf (by first | exact (Kd.own_blk (Kd.R_ne HO_6.out BK336.out (by decide)) :) | (show (Addr.add _ _).block ≠ _; rw [add_block]; exact (Kd.own_blk (Kd.R_ne HO_6.out BK336.out (by decide)) :))) (hHeld.2.2.2.2.2.2.2.2.2.2.2.2.2.1)), (cf (by first | exact (Kd.own_blk (Kd.R_ne HO_6.out BK336.out (by decide)) :) | (show (Addr.add _ _).block ≠ _; rw [add_block]; exact (Kd.own_blk (Kd.R_ne HO_6.out BK336.out (by decide)) :))) (hHeld.2.2.2.2.2.2.2.2.2.2.2.2.2.2.1)), (cf (by first | exact (Kd.own_blk (Kd.R_ne HO_6.out BK336.out (by decide)) :) | (show (Addr.add _ _).block ≠ _; rw [add_block]; exact (Kd.own_blk (Kd.R_ne HO_6.out BK336.out (by decide)) :))) (hHeld.2.2.2.2.2.2.2.2.2.2.2.2.2.2.2.1)), (cf (by first | exact (Kd.own_blk (Kd.R_ne HO_6.out BK336.out (by decide)) :) | (show (Addr.add _ _).block ≠ _; rw [add_block]; exact (Kd.own_blk (Kd.R_ne HO_6.out BK336.out (by decide)) :))) (hHeld.2.2.2.2.2.2.2.2.2.2.2.2.2.2.2.2.1)), (cf (by first | exact (Kd.own_blk (Kd.R_ne HO_6.out BK336.out (by decide)) :) | (show (Addr.add _ _).block ≠ _; rw [add_block]; exact (Kd.own_blk (Kd.R_ne HO_6.out BK336.out (by decide)) :))) (hHeld.2.2.2.2.2.2.2.2.2.2.2.2.2.2.2.2.2))⟩ (fun hHeld => ?_)
                   clear hK K
                   refine done_ (done_of HT_.out (by kernel_rfl)) ?_
                   try go_wp2
                   go_roundg k3
                   case measure => have := HJ7.out; have := HK2.out; have := HK3.out; omega
                   case rel => exact ⟨(wrap64 (0 + 1)), (wrap64 (((rd_T39 t330 x38_2).f0.f0) - ((rd_T39 t330 ((rd_T35 t324 x38_2).f0)).f0.f0))), (x337001_3), (x337002_3), (by first | rfl | (simp; done) | (simp [*]; done) | (simp; decide +kernel)), H', ⟨by have := HJ7.out; have := HK2.out; have := HK3.out; omega⟩, ⟨by (with_reducible repeat (first | apply Kd.R_alloc | apply Kd.R_drewN | apply Kd.R_drew)); exact Kd.R_mono (Kd.R_far (p := ⟨gb336, 0, none⟩) (Kd.R_types HO_6.out BK336.out (by decide)) (fun _ hk => hk.2) (.int .i64 (wrap64 (((rd_T39 t330 x38_2).f0.f0) - ((rd_T39 t330 ((rd_T35 t324 x38_2).f0)).f0.f0))))) (fun _ hk => trivial)⟩, ⟨by (with_reducible repeat (first | apply Kd.R_alloc | apply Kd.R_drewN | apply Kd.R_drew)); exact Kd.R_mono (Kd.R_far (p := ⟨gb336, 0, none⟩) (Kd.R_types HO_36.out BK336.out (by decide)) (fun _ hk => hk.2) (.int .i64 (wrap64 (((rd_T39 t330 x38_2).f0.f0) - ((rd_T39 t330 ((rd_T35 t324 x38_2).f0)).f0.f0))))) (fun _ hk => hk.1)⟩, ⟨by (with_reducible repeat (first | refine blk_drewN ?_ _ | refine blk_drew ?_ | refine blk_alloc ?_ _)); refine blk_far ?_ NB335_336.out _; exact BK335.out⟩, ⟨by (with_reducible repeat (first | refine blk_drewN ?_ _ | refine blk_drew ?_ | refine blk_alloc ?_ _)); refine blk_put (cs := #[.int .i64 x337000_3, .int .i64 x337001_3, .int .i64 x337002_3]) ?_ 0 _ rfl; exact BK336.out⟩, ⟨by repeat (first | (with_reducible first | exact HB.out | apply below_alloc | apply pw_below_drewN | apply below_drew1 | refine below_set ?_ GE335.out | refine below_set ?_ GE336.out) | exact HB.out)⟩⟩
                  ·rw [if_neg c32] at H
                   exact absurd H (by simp)
                 ·rw [if_neg c31] at H
                  exact absurd H (by simp)
                ·rw [if_neg c30] at H
                 by_cases c36 : x46_3 = 1
                 ·subst c36
                  have H1 : (if 0 ≤ ((rd_T35 t324 x38_2).f0) then (if ((rd_T35 t324 x38_2).f0) < (t330.length : Int) then (tourkeep5_BonesLong.l1 k3 t330 x38_2 t324 (t324.length : Int) x38_2 (wrap64 (1 + 1)) ((rd_T35 t324 x38_2).f0) ((rd_T35 t324 x38_2).f1.f0) ((rd_T35 t324 x38_2).f1.f1) ((rd_T35 t324 x38_2).f1.f2) x337000_3 (wrap64 (((rd_T39 t330 x38_2).f0.f1) - ((rd_T39 t330 ((rd_T35 t324 x38_2).f0)).f0.f1))) x337002_3) else (none)) else (none)) = some r := by rw [if_pos rfl] at H; exact H
                  clear H
                  have H := H1
                  clear H1
                  by_cases c37 : 0 ≤ ((rd_T35 t324 x38_2).f0)
                  ·rw [if_pos c37] at H
                   have c37b0 : decide (0 ≤ ((rd_T35 t324 x38_2).f0)) = true := decide_eq_true c37
                   clear c37
                   by_cases c38 : ((rd_T35 t324 x38_2).f0) < (t330.length : Int)
                   ·rw [if_pos c38] at H
                    have c38b0 : decide (((rd_T35 t324 x38_2).f0) < (t330.length : Int)) = true := decide_eq_true c38
                    clear c38
                    have H' := Aside0.mk H
                    clear H
                    try go_wp2
                    have n0_ := Aside0.mk (Kd.R_drew HO_6.out)
                    have n1_ := Aside0.mk (Kd.R_drew HO_36.out)
                    have n2_ := Aside0.mk (blk_drew BK335.out)
                    have n3_ := Aside0.mk (blk_drew BK336.out)
                    have n4_ := Aside0.mk (below_drew1 HB.out)
                    clear HO_6
                    clear HO_36
                    clear BK335
                    clear BK336
                    clear HB
                    have HO_6 := n0_
                    have HO_36 := n1_
                    have BK335 := n2_
                    have BK336 := n3_
                    have HB := n4_
                    clear n0_ n1_ n2_ n3_ n4_
                    obtain ⟨Ao40, co40, eo40⟩ := Kd.R_slice HO_6.out
                    (first | subst eo40 | (injection eo40 with f1_ f2_ f3_; have f4_ := f1_.symm; have f5_ := f3_.symm; clear f1_ f2_ f3_; subst f4_; subst f5_))
                    have p337 : 0 ≤ (x38_2 : Int) := of_decide_eq_true (by first | (with_reducible assumption) | assumption)
                    have q337 : x38_2 < (t330.length : Int) := of_decide_eq_true (by first | (with_reducible assumption) | assumption)
                    obtain ⟨ad337, e337, hx337_0, hx337_1, hx337_2, hx337_3, hx337_4, hx337_5, hx337_6⟩ := at_T39 (Kd.R_reads' HO_6.out).2.2 x38_2 p337 q337
                    cases e337
                    replace p337 := eq_true p337
                    replace q337 := eq_true q337
                    have p339 : 0 ≤ (((rd_T35 t324 x38_2).f0) : Int) := of_decide_eq_true (by first | (with_reducible assumption) | assumption)
                    have q339 : ((rd_T35 t324 x38_2).f0) < (t330.length : Int) := of_decide_eq_true (by first | (with_reducible assumption) | assumption)
                    obtain ⟨ad339, e339, hx339_0, hx339_1, hx339_2, hx339_3, hx339_4, hx339_5, hx339_6⟩ := at_T39 (Kd.R_reads' HO_6.out).2.2 ((rd_T35 t324 x38_2).f0) p339 q339
                    obtain rfl : ad337 = ad339 := (by injection e339)
                    replace p339 := eq_true p339
                    replace q339 := eq_true q339
                    refine start_ (n := 19) (S := fun w' => w'.cell? ⟨gb335, 0, none⟩ = some (.int .i64 ((rd_T35 t324 x38_2).f0)) ∧ w'.cell? ⟨gb335, 1, none⟩ = some (.int .i64 ((rd_T35 t324 x38_2).f1.f0)) ∧ w'.cell? ⟨gb335, 2, none⟩ = some (.int .i64 ((rd_T35 t324 x38_2).f1.f1)) ∧ w'.cell? ⟨gb335, 3, none⟩ = some (.int .i64 ((rd_T35 t324 x38_2).f1.f2)) ∧ w'.cell? (ad337.add ((x38_2).toNat * 7)) = some (.int .i64 ((rd_T39 t330 x38_2).f0.f0)) ∧ w'.cell? ⟨(ad337.add ((x38_2).toNat * 7)).block, (ad337.add ((x38_2).toNat * 7)).off + 1, none⟩ = some (.int .i64 ((rd_T39 t330 x38_2).f0.f1)) ∧ w'.cell? ⟨(ad337.add ((x38_2).toNat * 7)).block, (ad337.add ((x38_2).toNat * 7)).off + 2, none⟩ = some (.int .i64 ((rd_T39 t330 x38_2).f0.f2)) ∧ w'.cell? ⟨(ad337.add ((x38_2).toNat * 7)).block, (ad337.add ((x38_2).toNat * 7)).off + 3, none⟩ = some (.int .i64 ((rd_T39 t330 x38_2).f1.f0)) ∧ w'.cell? ⟨(ad337.add ((x38_2).toNat * 7)).block, (ad337.add ((x38_2).toNat * 7)).off + 4, none⟩ = some (.int .i64 ((rd_T39 t330 x38_2).f1.f1)) ∧ w'.cell? ⟨(ad337.add ((x38_2).toNat * 7)).block, (ad337.add ((x38_2).toNat * 7)).off + 5, none⟩ = some (.int .i64 ((rd_T39 t330 x38_2).f1.f2)) ∧ w'.cell? ⟨(ad337.add ((x38_2).toNat * 7)).block, (ad337.add ((x38_2).toNat * 7)).off + 6, none⟩ = some (.int .i64 ((rd_T39 t330 x38_2).f1.f3)) ∧ w'.cell? (ad337.add ((((rd_T35 t324 x38_2).f0)).toNat * 7)) = some (.int .i64 ((rd_T39 t330 ((rd_T35 t324 x38_2).f0)).f0.f0)) ∧ w'.cell? ⟨(ad337.add ((((rd_T35 t324 x38_2).f0)).toNat * 7)).block, (ad337.add ((((rd_T35 t324 x38_2).f0)).toNat * 7)).off + 1, none⟩ = some (.int .i64 ((rd_T39 t330 ((rd_T35 t324 x38_2).f0)).f0.f1)) ∧ w'.cell? ⟨(ad337.add ((((rd_T35 t324 x38_2).f0)).toNat * 7)).block, (ad337.add ((((rd_T35 t324 x38_2).f0)).toNat * 7)).off + 2, none⟩ = some (.int .i64 ((rd_T39 t330 ((rd_T35 t324 x38_2).f0)).f0.f2)) ∧ w'.cell? ⟨(ad337.add ((((rd_T35 t324 x38_2).f0)).toNat * 7)).block, (ad337.add ((((rd_T35 t324 x38_2).f0)).toNat * 7)).off + 3, none⟩ = some (.int .i64 ((rd_T39 t330 ((rd_T35 t324 x38_2).f0)).f1.f0)) ∧ w'.cell? ⟨(ad337.add ((((rd_T35 t324 x38_2).f0)).toNat * 7)).block, (ad337.add ((((rd_T35 t324 x38_2).f0)).toNat * 7)).off + 4, none⟩ = some (.int .i64 ((rd_T39 t330 ((rd_T35 t324 x38_2).f0)).f1.f1)) ∧ w'.cell? ⟨(ad337.add ((((rd_T35 t324 x38_2).f0)).toNat * 7)).block, (ad337.add ((((rd_T35 t324 x38_2).f0)).toNat * 7)).off + 5, none⟩ = some (.int .i64 ((rd_T39 t330 ((rd_T35 t324 x38_2).f0)).f1.f2)) ∧ w'.cell? ⟨(ad337.add ((((rd_T35 t324 x38_2).f0)).toNat * 7)).block, (ad337.add ((((rd_T35 t324 x38_2).f0)).toNat * 7)).off + 6, none⟩ = some (.int .i64 ((rd_T39 t330 ((rd_T35 t324 x38_2).f0)).f1.f3))) (ds := []) (ab 19 0) (by kernel_rfl) rfl rfl ⟨(blk_cell BK335.out 0).trans rfl, (blk_cell BK335.out 1).trans rfl, (blk_cell BK335.out 2).trans rfl, (blk_cell BK335.out 3).trans rfl, hx337_0, hx337_1, hx337_2, hx337_3, hx337_4, hx337_5, hx337_6, hx339_0, hx339_1, hx339_2, hx339_3, hx339_4, hx339_5, hx339_6⟩ (fun hHeld => ?_); refine with_tabW tourkeep5_BonesLong.tab15 tourkeep5_BonesLong.bits15 (fun HT_ HW_ => ?_)
                    generalize wr.drew = w39 at HO_6 HO_36 BK335 BK336 HB hx337_0 hx337_1 hx337_2 hx337_3 hx337_4 hx337_5 hx337_6 hx339_0 hx339_1 hx339_2 hx339_3 hx339_4 hx339_5 hx339_6 hHeld ⊢
                    refine pure_ (i := 0) (N := some 49) (v := ?_) (a' := ?_) (ab 19 1) rfl rfl (any_of HT_.out (by kernel_rfl)) (fun _ _ _ h => h) (Or.inl ⟨by rfl, ?_⟩) ?_ ?_
                    rotate_left
                    ·intro w'
                     go_simp
                     with_reducible rfl
                    rotate_left
                    ·simp only [Act.put, zq1, zq2, zq3, i64_w, i32_w]
                     rfl
                    refine pure_ (i := 1) (N := some 50) (v := ?_) (a' := ?_) (ab 19 3) rfl rfl (any_of HT_.out (by kernel_rfl)) (fun _ _ _ h => h) (Or.inl ⟨by rfl, ?_⟩) ?_ ?_
                    rotate_left
                    ·intro w'
                     go_simp
                     with_reducible rfl
                    rotate_left
                    ·simp only [Act.put, zq1, zq2, zq3, i64_w, i32_w]
                     rfl
                    refine pure_ (i := 2) (N := some 51) (v := ?_) (a' := ?_) (ab 19 7) rfl rfl (any_of HT_.out (by kernel_rfl)) (fun _ _ _ h => h) (Or.inl ⟨by rfl, ?_⟩) ?_ ?_
                    rotate_left
                    ·intro w'
                     go_simp
                     with_reducible rfl
                    rotate_left
                    ·simp only [Act.put, zq1, zq2, zq3, i64_w, i32_w]
                     rfl
                    refine pure_ (i := 3) (N := some 52) (v := ?_) (a' := ?_) (ab 19 15) rfl rfl (any_of HT_.out (by kernel_rfl)) (fun _ _ _ h => h) (Or.inl ⟨by rfl, ?_⟩) ?_ ?_
                    rotate_left
                    ·intro w'
                     go_simp
                     with_reducible rfl
                    rotate_left
                    ·simp only [Act.put, zq1, zq2, zq3, i64_w, i32_w]
                     rfl
                    refine pure_ (i := 4) (N := some 53) (v := ?_) (a' := ?_) (ab 19 31) rfl rfl (any_of HT_.out (by kernel_rfl)) (fun _ _ _ h => h) (Or.inl ⟨by rfl, ?_⟩) ?_ ?_
                    rotate_left
                    ·intro w'
                     go_simp
                     with_reducible rfl
                    rotate_left
                    ·simp only [Act.put, zq1, zq2, zq3, i64_w, i32_w]
                     rfl
                    refine pure_ (i := 5) (N := some 54) (v := ?_) (a' := ?_) (ab 19 63) rfl rfl (any_of HT_.out (by kernel_rfl)) (fun _ _ _ h => h) (Or.inl ⟨by rfl, ?_⟩) ?_ ?_
                    rotate_left
                    ·intro w'
                     go_simp
                     with_reducible rfl
                    rotate_left
                    ·simp only [Act.put, zq1, zq2, zq3, i64_w, i32_w]
                     rfl
                    refine pure_ (i := 6) (N := some 55) (v := ?_) (a' := ?_) (ab 19 127) rfl rfl (any_of HT_.out (by kernel_rfl)) (fun _ _ _ h => h) (Or.inl ⟨by rfl, ?_⟩) ?_ ?_
                    rotate_left
                    ·intro w'
                     go_simp
                     with_reducible rfl
                    rotate_left
                    ·simp only [Act.put, zq1, zq2, zq3, i64_w, i32_w]
                     rfl
                    refine pure_ (i := 8) (N := some 57) (v := ?_) (a' := ?_) (ab 19 383) rfl rfl (any_of HT_.out (by kernel_rfl)) (fun _ _ _ h => h) (Or.inl ⟨by rfl, ?_⟩) ?_ ?_
                    rotate_left
                    ·intro w'
                     go_simp
                     with_reducible rfl
                    rotate_left
                    ·simp only [Act.put, zq1, zq2, zq3, i64_w, i32_w]
                     rfl
                    refine pure_ (i := 9) (N := some 58) (v := ?_) (a' := ?_) (ab 19 895) rfl rfl (any_of HT_.out (by kernel_rfl)) (fun _ _ _ h => h) (Or.inl ⟨by rfl, ?_⟩) ?_ ?_
                    rotate_left
                    ·intro w'
                     go_simp
                     with_reducible rfl
                    rotate_left
                    ·simp only [Act.put, zq1, zq2, zq3, i64_w, i32_w]
                     rfl
                    refine pure_ (i := 11) (N := some 60) (v := ?_) (a' := ?_) (ab 19 2943) rfl rfl (any_of HT_.out (by kernel_rfl)) (fun _ _ _ h => h) (Or.inl ⟨by rfl, ?_⟩) ?_ ?_
                    rotate_left
                    ·intro w'
                     go_simp
                     with_reducible rfl
                    rotate_left
                    ·simp only [Act.put, zq1, zq2, zq3, i64_w, i32_w]
                     rfl
                    refine take_ (i := 7) (N := some 56) (v := ?_) (a' := ?_) (ab 19 3071) rfl rfl (take_ofW HT_.out HW_.out (by kernel_rfl)) (fun _ _ _ h => h) (Or.inl ⟨by rfl, ?_⟩) hHeld ?_ ?_
                    rotate_left
                    ·rintro w' ⟨s0, s1, s2, s3, s4, s5, s6, s7, s8, s9, s10, s11, s12, s13, s14, s15, s16, s17⟩
                     go_simp
                     with_reducible rfl
                    rotate_left
                    ·simp only [Act.put, zq1, zq2, zq3, i64_w, i32_w]
                     rfl
                    refine take_ (i := 10) (N := some 59) (v := ?_) (a' := ?_) (ab 19 4095) rfl rfl (take_ofW HT_.out HW_.out (by kernel_rfl)) (fun _ _ _ h => h) (Or.inl ⟨by rfl, ?_⟩) hHeld ?_ ?_
                    rotate_left
                    ·rintro w' ⟨s0, s1, s2, s3, s4, s5, s6, s7, s8, s9, s10, s11, s12, s13, s14, s15, s16, s17⟩
                     go_simp
                     with_reducible rfl
                    rotate_left
                    ·simp only [Act.put, zq1, zq2, zq3, i64_w, i32_w]
                     rfl
                    refine pure_ (i := 12) (N := some 61) (v := ?_) (a' := ?_) (ab 19 8191) rfl rfl (any_of HT_.out (by kernel_rfl)) (fun _ _ _ h => h) (Or.inl ⟨by rfl, ?_⟩) ?_ ?_
                    rotate_left
                    ·intro w'
                     go_simp
                     with_reducible rfl
                    rotate_left
                    ·simp only [Act.put, zq1, zq2, zq3, i64_w, i32_w]
                     rfl
                    refine pure_ (i := 13) (N := some 62) (v := ?_) (a' := ?_) (ab 19 16383) rfl rfl (any_of HT_.out (by kernel_rfl)) (fun _ _ _ h => h) (Or.inl ⟨by rfl, ?_⟩) ?_ ?_
                    rotate_left
                    ·intro w'
                     go_simp
                     with_reducible rfl
                    rotate_left
                    ·simp only [Act.put, zq1, zq2, zq3, i64_w, i32_w]
                     rfl
                    refine pure_ (i := 14) (N := some 63) (v := ?_) (a' := ?_) (ab 19 32767) rfl rfl (any_of HT_.out (by kernel_rfl)) (fun _ _ _ h => h) (Or.inl ⟨by rfl, ?_⟩) ?_ ?_
                    rotate_left
                    ·intro w'
                     go_simp
                     with_reducible rfl
                    rotate_left
                    ·simp only [Act.put, zq1, zq2, zq3, i64_w, i32_w]
                     rfl
                    refine take_ (i := 15) (N := some 64) (v := ?_) (a' := ?_) (ab 19 65535) rfl rfl (take_ofW HT_.out HW_.out (by kernel_rfl)) (fun _ _ _ h => h) (Or.inl ⟨by rfl, ?_⟩) hHeld ?_ ?_
                    rotate_left
                    ·rintro w' ⟨s0, s1, s2, s3, s4, s5, s6, s7, s8, s9, s10, s11, s12, s13, s14, s15, s16, s17⟩
                     go_simp
                     with_reducible rfl
                    rotate_left
                    ·simp only [Act.put, zq1, zq2, zq3, i64_w, i32_w]
                     rfl
                    refine pure_ (i := 16) (N := some 65) (v := ?_) (a' := ?_) (ab 19 131071) rfl rfl (any_of HT_.out (by kernel_rfl)) (fun _ _ _ h => h) (Or.inl ⟨by rfl, ?_⟩) ?_ ?_
                    rotate_left
                    ·intro w'
                     go_simp
                     with_reducible rfl
                    rotate_left
                    ·simp only [Act.put, zq1, zq2, zq3, i64_w, i32_w]
                     rfl
                    refine pure_ (i := 17) (N := some 66) (v := ?_) (a' := ?_) (ab 19 262143) rfl rfl (any_of HT_.out (by kernel_rfl)) (fun _ _ _ h => h) (Or.inl ⟨by rfl, ?_⟩) ?_ ?_
                    rotate_left
                    ·intro w'
                     go_simp
                     with_reducible rfl
                    rotate_left
                    ·simp only [Act.put, zq1, zq2, zq3, i64_w, i32_w]
                     rfl
                    refine one_ (i := 18) (N := none) (ab 19 524287) rfl rfl (one_of HT_.out (by kernel_rfl)) (by decide) (fun K hK => ?_)
                    have hs41 : w39.cell? ⟨gb336, 1, none⟩ = some (.int .i64 x337001_3) := (blk_cell BK336.out 1).trans rfl
                    have hfs41 := blk_frozen BK336.out 1
                    have hns41_0 := NB335_336.out
                    have hms41_0 := NB336_335.out
                    refine skip_ (w1 := ?_) (by rfl) rfl ?_ ?_
                    rotate_left
                    ·go_simp
                     rfl
                    refine hK.out _ _ ⟨(cf NB335_336.out (hHeld.1)), (cf NB335_336.out (hHeld.2.1)), (cf NB335_336.out (hHeld.2.2.1)), (cf NB335_336.out (hHeld.2.2.2.1)), (cf (by first | exact (Kd.own_blk (Kd.R_ne HO_6.out BK336.out (by decide)) :) | (show (Addr.add _ _).block ≠ _; rw [add_block]; exact (Kd.own_blk (Kd.R_ne HO_6.out BK336.out (by decide)) :))) (hHeld.2.2.2.2.1)), (cf (by first | exact (Kd.own_blk (Kd.R_ne HO_6.out BK336.out (by decide)) :) | (show (Addr.add _ _).block ≠ _; rw [add_block]; exact (Kd.own_blk (Kd.R_ne HO_6.out BK336.out (by decide)) :))) (hHeld.2.2.2.2.2.1)), (cf (by first | exact (Kd.own_blk (Kd.R_ne HO_6.out BK336.out (by decide)) :) | (show (Addr.add _ _).block ≠ _; rw [add_block]; exact (Kd.own_blk (Kd.R_ne HO_6.out BK336.out (by decide)) :))) (hHeld.2.2.2.2.2.2.1)), (cf (by first | exact (Kd.own_blk (Kd.R_ne HO_6.out BK336.out (by decide)) :) | (show (Addr.add _ _).block ≠ _; rw [add_block]; exact (Kd.own_blk (Kd.R_ne HO_6.out BK336.out (by decide)) :))) (hHeld.2.2.2.2.2.2.2.1)), (cf (by first | exact (Kd.own_blk (Kd.R_ne HO_6.out BK336.out (by decide)) :) | (show (Addr.add _ _).block ≠ _; rw [add_block]; exact (Kd.own_blk (Kd.R_ne HO_6.out BK336.out (by decide)) :))) (hHeld.2.2.2.2.2.2.2.2.1)), (cf (by first | exact (Kd.own_blk (Kd.R_ne HO_6.out BK336.out (by decide)) :) | (show (Addr.add _ _).block ≠ _; rw [add_block]; exact (Kd.own_blk (Kd.R_ne HO_6.out BK336.out (by decide)) :))) (hHeld.2.2.2.2.2.2.2.2.2.1)), (cf (by first | exact (Kd.own_blk (Kd.R_ne HO_6.out BK336.out (by decide)) :) | (show (Addr.add _ _).block ≠ _; rw [add_block]; exact (Kd.own_blk (Kd.R_ne HO_6.out BK336.out (by decide)) :))) (hHeld.2.2.2.2.2.2.2.2.2.2.1)), (cf (by first | exact (Kd.own_blk (Kd.R_ne HO_6.out BK336.out (by decide)) :) | (show (Addr.add _ _).block ≠ _; rw [add_block]; exact (Kd.own_blk (Kd.R_ne HO_6.out BK336.out (by decide)) :))) (hHeld.2.2.2.2.2.2.2.2.2.2.2.1)), (cf (by first | exact (Kd.own_blk (Kd.R_ne HO_6.out BK336.out (by decide)) :) | (show (Addr.add _ _).block ≠ _; rw [add_block]; exact (Kd.own_blk (Kd.R_ne HO_6.out BK336.out (by decide)) :))) (hHeld.2.2.2.2.2.2.2.2.2.2.2.2.1)), (cf (by first | exact (Kd.own_blk (Kd.R_ne HO_6.out BK336.out (by decide)) :) | (show (Addr.add _ _).block ≠ _; rw [add_block]; exact (Kd.own_blk (Kd.R_ne HO_6.out BK336.out (by decide)) :))) (hHeld.2.2.2.2.2.2.2.2.2.2.2.2.2.1)), (cf (by first | exact (Kd.own_blk (Kd.R_ne HO_6.out BK336.out (by decide)) :) | (show (Addr.add _ _).block ≠ _; rw [add_block]; exact (Kd.own_blk (Kd.R_ne HO_6.out BK336.out (by decide)) :))) (hHeld.2.2.2.2.2.2.2.2.2.2.2.2.2.2.1)), (cf (by first | exact (Kd.own_blk (Kd.R_ne HO_6.out BK336.out (by decide)) :) | (show (Addr.add _ _).block ≠ _; rw [add_block]; exact (Kd.own_blk (Kd.R_ne HO_6.out BK336.out (by decide)) :))) (hHeld.2.2.2.2.2.2.2.2.2.2.2.2.2.2.2.1)), (cf (by first | exact (Kd.own_blk (Kd.R_ne HO_6.out BK336.out (by decide)) :) | (show (Addr.add _ _).block ≠ _; rw [add_block]; exact (Kd.own_blk (Kd.R_ne HO_6.out BK336.out (by decide)) :))) (hHeld.2.2.2.2.2.2.2.2.2.2.2.2.2.2.2.2.1)), (cf (by first | exact (Kd.own_blk (Kd.R_ne HO_6.out BK336.out (by decide)) :) | (show (Addr.add _ _).block ≠ _; rw [add_block]; exact (Kd.own_blk (Kd.R_ne HO_6.out BK336.out (by decide)) :))) (hHeld.2.2.2.2.2.2.2.2.2.2.2.2.2.2.2.2.2))⟩ (fun hHeld => ?_)
                    clear hK K
                    refine done_ (done_of HT_.out (by kernel_rfl)) ?_
                    try go_wp2
                    go_roundg k3
                    case measure => have := HJ7.out; have := HK2.out; have := HK3.out; omega
                    case rel => exact ⟨(wrap64 (1 + 1)), (x337000_3), (wrap64 (((rd_T39 t330 x38_2).f0.f1) - ((rd_T39 t330 ((rd_T35 t324 x38_2).f0)).f0.f1))), (x337002_3), (by first | rfl | (simp; done) | (simp [*]; done) | (simp; decide +kernel)), H', ⟨by have := HJ7.out; have := HK2.out; have := HK3.out; omega⟩, ⟨by (with_reducible repeat (first | apply Kd.R_alloc | apply Kd.R_drewN | apply Kd.R_drew)); exact Kd.R_mono (Kd.R_far (p := ⟨gb336, 1, none⟩) (Kd.R_types HO_6.out BK336.out (by decide)) (fun _ hk => hk.2) (.int .i64 (wrap64 (((rd_T39 t330 x38_2).f0.f1) - ((rd_T39 t330 ((rd_T35 t324 x38_2).f0)).f0.f1))))) (fun _ hk => trivial)⟩, ⟨by (with_reducible repeat (first | apply Kd.R_alloc | apply Kd.R_drewN | apply Kd.R_drew)); exact Kd.R_mono (Kd.R_far (p := ⟨gb336, 1, none⟩) (Kd.R_types HO_36.out BK336.out (by decide)) (fun _ hk => hk.2) (.int .i64 (wrap64 (((rd_T39 t330 x38_2).f0.f1) - ((rd_T39 t330 ((rd_T35 t324 x38_2).f0)).f0.f1))))) (fun _ hk => hk.1)⟩, ⟨by (with_reducible repeat (first | refine blk_drewN ?_ _ | refine blk_drew ?_ | refine blk_alloc ?_ _)); refine blk_far ?_ NB335_336.out _; exact BK335.out⟩, ⟨by (with_reducible repeat (first | refine blk_drewN ?_ _ | refine blk_drew ?_ | refine blk_alloc ?_ _)); refine blk_put (cs := #[.int .i64 x337000_3, .int .i64 x337001_3, .int .i64 x337002_3]) ?_ 1 _ rfl; exact BK336.out⟩, ⟨by repeat (first | (with_reducible first | exact HB.out | apply below_alloc | apply pw_below_drewN | apply below_drew1 | refine below_set ?_ GE335.out | refine below_set ?_ GE336.out) | exact HB.out)⟩⟩
                   ·rw [if_neg c38] at H
                    exact absurd H (by simp)
                  ·rw [if_neg c37] at H
                   exact absurd H (by simp)
                 ·rw [if_neg c36] at H
                  by_cases c42 : x46_3 = 2
                  ·subst c42
                   have H1 : (if 0 ≤ ((rd_T35 t324 x38_2).f0) then (if ((rd_T35 t324 x38_2).f0) < (t330.length : Int) then (tourkeep5_BonesLong.l1 k3 t330 x38_2 t324 (t324.length : Int) x38_2 (wrap64 (2 + 1)) ((rd_T35 t324 x38_2).f0) ((rd_T35 t324 x38_2).f1.f0) ((rd_T35 t324 x38_2).f1.f1) ((rd_T35 t324 x38_2).f1.f2) x337000_3 x337001_3 (wrap64 (((rd_T39 t330 x38_2).f0.f2) - ((rd_T39 t330 ((rd_T35 t324 x38_2).f0)).f0.f2)))) else (none)) else (none)) = some r := by rw [if_pos rfl] at H; exact H
                   clear H
                   have H := H1
                   clear H1
                   by_cases c43 : 0 ≤ ((rd_T35 t324 x38_2).f0)
                   ·rw [if_pos c43] at H
                    have c43b0 : decide (0 ≤ ((rd_T35 t324 x38_2).f0)) = true := decide_eq_true c43
                    clear c43
                    by_cases c44 : ((rd_T35 t324 x38_2).f0) < (t330.length : Int)
                    ·rw [if_pos c44] at H
                     have c44b0 : decide (((rd_T35 t324 x38_2).f0) < (t330.length : Int)) = true := decide_eq_true c44
                     clear c44
                     have H' := Aside0.mk H
                     clear H
                     try go_wp2
                     have n0_ := Aside0.mk (Kd.R_drew HO_6.out)
                     have n1_ := Aside0.mk (Kd.R_drew HO_36.out)
                     have n2_ := Aside0.mk (blk_drew BK335.out)
                     have n3_ := Aside0.mk (blk_drew BK336.out)
                     have n4_ := Aside0.mk (below_drew1 HB.out)
                     clear HO_6
                     clear HO_36
                     clear BK335
                     clear BK336
                     clear HB
                     have HO_6 := n0_
                     have HO_36 := n1_
                     have BK335 := n2_
                     have BK336 := n3_
                     have HB := n4_
                     clear n0_ n1_ n2_ n3_ n4_
                     obtain ⟨Ao46, co46, eo46⟩ := Kd.R_slice HO_6.out
                     (first | subst eo46 | (injection eo46 with f1_ f2_ f3_; have f4_ := f1_.symm; have f5_ := f3_.symm; clear f1_ f2_ f3_; subst f4_; subst f5_))
                     have p337 : 0 ≤ (x38_2 : Int) := of_decide_eq_true (by first | (with_reducible assumption) | assumption)
                     have q337 : x38_2 < (t330.length : Int) := of_decide_eq_true (by first | (with_reducible assumption) | assumption)
                     obtain ⟨ad337, e337, hx337_0, hx337_1, hx337_2, hx337_3, hx337_4, hx337_5, hx337_6⟩ := at_T39 (Kd.R_reads' HO_6.out).2.2 x38_2 p337 q337
                     cases e337
                     replace p337 := eq_true p337
                     replace q337 := eq_true q337
                     have p340 : 0 ≤ (((rd_T35 t324 x38_2).f0) : Int) := of_decide_eq_true (by first | (with_reducible assumption) | assumption)
                     have q340 : ((rd_T35 t324 x38_2).f0) < (t330.length : Int) := of_decide_eq_true (by first | (with_reducible assumption) | assumption)
                     obtain ⟨ad340, e340, hx340_0, hx340_1, hx340_2, hx340_3, hx340_4, hx340_5, hx340_6⟩ := at_T39 (Kd.R_reads' HO_6.out).2.2 ((rd_T35 t324 x38_2).f0) p340 q340
                     obtain rfl : ad337 = ad340 := (by injection e340)
                     replace p340 := eq_true p340
                     replace q340 := eq_true q340
                     refine start_ (n := 19) (S := fun w' => w'.cell? ⟨gb335, 0, none⟩ = some (.int .i64 ((rd_T35 t324 x38_2).f0)) ∧ w'.cell? ⟨gb335, 1, none⟩ = some (.int .i64 ((rd_T35 t324 x38_2).f1.f0)) ∧ w'.cell? ⟨gb335, 2, none⟩ = some (.int .i64 ((rd_T35 t324 x38_2).f1.f1)) ∧ w'.cell? ⟨gb335, 3, none⟩ = some (.int .i64 ((rd_T35 t324 x38_2).f1.f2)) ∧ w'.cell? (ad337.add ((x38_2).toNat * 7)) = some (.int .i64 ((rd_T39 t330 x38_2).f0.f0)) ∧ w'.cell? ⟨(ad337.add ((x38_2).toNat * 7)).block, (ad337.add ((x38_2).toNat * 7)).off + 1, none⟩ = some (.int .i64 ((rd_T39 t330 x38_2).f0.f1)) ∧ w'.cell? ⟨(ad337.add ((x38_2).toNat * 7)).block, (ad337.add ((x38_2).toNat * 7)).off + 2, none⟩ = some (.int .i64 ((rd_T39 t330 x38_2).f0.f2)) ∧ w'.cell? ⟨(ad337.add ((x38_2).toNat * 7)).block, (ad337.add ((x38_2).toNat * 7)).off + 3, none⟩ = some (.int .i64 ((rd_T39 t330 x38_2).f1.f0)) ∧ w'.cell? ⟨(ad337.add ((x38_2).toNat * 7)).block, (ad337.add ((x38_2).toNat * 7)).off + 4, none⟩ = some (.int .i64 ((rd_T39 t330 x38_2).f1.f1)) ∧ w'.cell? ⟨(ad337.add ((x38_2).toNat * 7)).block, (ad337.add ((x38_2).toNat * 7)).off + 5, none⟩ = some (.int .i64 ((rd_T39 t330 x38_2).f1.f2)) ∧ w'.cell? ⟨(ad337.add ((x38_2).toNat * 7)).block, (ad337.add ((x38_2).toNat * 7)).off + 6, none⟩ = some (.int .i64 ((rd_T39 t330 x38_2).f1.f3)) ∧ w'.cell? (ad337.add ((((rd_T35 t324 x38_2).f0)).toNat * 7)) = some (.int .i64 ((rd_T39 t330 ((rd_T35 t324 x38_2).f0)).f0.f0)) ∧ w'.cell? ⟨(ad337.add ((((rd_T35 t324 x38_2).f0)).toNat * 7)).block, (ad337.add ((((rd_T35 t324 x38_2).f0)).toNat * 7)).off + 1, none⟩ = some (.int .i64 ((rd_T39 t330 ((rd_T35 t324 x38_2).f0)).f0.f1)) ∧ w'.cell? ⟨(ad337.add ((((rd_T35 t324 x38_2).f0)).toNat * 7)).block, (ad337.add ((((rd_T35 t324 x38_2).f0)).toNat * 7)).off + 2, none⟩ = some (.int .i64 ((rd_T39 t330 ((rd_T35 t324 x38_2).f0)).f0.f2)) ∧ w'.cell? ⟨(ad337.add ((((rd_T35 t324 x38_2).f0)).toNat * 7)).block, (ad337.add ((((rd_T35 t324 x38_2).f0)).toNat * 7)).off + 3, none⟩ = some (.int .i64 ((rd_T39 t330 ((rd_T35 t324 x38_2).f0)).f1.f0)) ∧ w'.cell? ⟨(ad337.add ((((rd_T35 t324 x38_2).f0)).toNat * 7)).block, (ad337.add ((((rd_T35 t324 x38_2).f0)).toNat * 7)).off + 4, none⟩ = some (.int .i64 ((rd_T39 t330 ((rd_T35 t324 x38_2).f0)).f1.f1)) ∧ w'.cell? ⟨(ad337.add ((((rd_T35 t324 x38_2).f0)).toNat * 7)).block, (ad337.add ((((rd_T35 t324 x38_2).f0)).toNat * 7)).off + 5, none⟩ = some (.int .i64 ((rd_T39 t330 ((rd_T35 t324 x38_2).f0)).f1.f2)) ∧ w'.cell? ⟨(ad337.add ((((rd_T35 t324 x38_2).f0)).toNat * 7)).block, (ad337.add ((((rd_T35 t324 x38_2).f0)).toNat * 7)).off + 6, none⟩ = some (.int .i64 ((rd_T39 t330 ((rd_T35 t324 x38_2).f0)).f1.f3))) (ds := []) (ab 19 0) (by kernel_rfl) rfl rfl ⟨(blk_cell BK335.out 0).trans rfl, (blk_cell BK335.out 1).trans rfl, (blk_cell BK335.out 2).trans rfl, (blk_cell BK335.out 3).trans rfl, hx337_0, hx337_1, hx337_2, hx337_3, hx337_4, hx337_5, hx337_6, hx340_0, hx340_1, hx340_2, hx340_3, hx340_4, hx340_5, hx340_6⟩ (fun hHeld => ?_); refine with_tabW tourkeep5_BonesLong.tab15 tourkeep5_BonesLong.bits15 (fun HT_ HW_ => ?_)
                     generalize wr.drew = w45 at HO_6 HO_36 BK335 BK336 HB hx337_0 hx337_1 hx337_2 hx337_3 hx337_4 hx337_5 hx337_6 hx340_0 hx340_1 hx340_2 hx340_3 hx340_4 hx340_5 hx340_6 hHeld ⊢
                     refine pure_ (i := 0) (N := some 49) (v := ?_) (a' := ?_) (ab 19 1) rfl rfl (any_of HT_.out (by kernel_rfl)) (fun _ _ _ h => h) (Or.inl ⟨by rfl, ?_⟩) ?_ ?_
                     rotate_left
                     ·intro w'
                      go_simp
                      with_reducible rfl
                     rotate_left
                     ·simp only [Act.put, zq1, zq2, zq3, i64_w, i32_w]
                      rfl
                     refine pure_ (i := 1) (N := some 50) (v := ?_) (a' := ?_) (ab 19 3) rfl rfl (any_of HT_.out (by kernel_rfl)) (fun _ _ _ h => h) (Or.inl ⟨by rfl, ?_⟩) ?_ ?_
                     rotate_left
                     ·intro w'
                      go_simp
                      with_reducible rfl
                     rotate_left
                     ·simp only [Act.put, zq1, zq2, zq3, i64_w, i32_w]
                      rfl
                     refine pure_ (i := 2) (N := some 51) (v := ?_) (a' := ?_) (ab 19 7) rfl rfl (any_of HT_.out (by kernel_rfl)) (fun _ _ _ h => h) (Or.inl ⟨by rfl, ?_⟩) ?_ ?_
                     rotate_left
                     ·intro w'
                      go_simp
                      with_reducible rfl
                     rotate_left
                     ·simp only [Act.put, zq1, zq2, zq3, i64_w, i32_w]
                      rfl
                     refine pure_ (i := 3) (N := some 52) (v := ?_) (a' := ?_) (ab 19 15) rfl rfl (any_of HT_.out (by kernel_rfl)) (fun _ _ _ h => h) (Or.inl ⟨by rfl, ?_⟩) ?_ ?_
                     rotate_left
                     ·intro w'
                      go_simp
                      with_reducible rfl
                     rotate_left
                     ·simp only [Act.put, zq1, zq2, zq3, i64_w, i32_w]
                      rfl
                     refine pure_ (i := 4) (N := some 53) (v := ?_) (a' := ?_) (ab 19 31) rfl rfl (any_of HT_.out (by kernel_rfl)) (fun _ _ _ h => h) (Or.inl ⟨by rfl, ?_⟩) ?_ ?_
                     rotate_left
                     ·intro w'
                      go_simp
                      with_reducible rfl
                     rotate_left
                     ·simp only [Act.put, zq1, zq2, zq3, i64_w, i32_w]
                      rfl
                     refine pure_ (i := 5) (N := some 54) (v := ?_) (a' := ?_) (ab 19 63) rfl rfl (any_of HT_.out (by kernel_rfl)) (fun _ _ _ h => h) (Or.inl ⟨by rfl, ?_⟩) ?_ ?_
                     rotate_left
                     ·intro w'
                      go_simp
                      with_reducible rfl
                     rotate_left
                     ·simp only [Act.put, zq1, zq2, zq3, i64_w, i32_w]
                      rfl
                     refine pure_ (i := 6) (N := some 55) (v := ?_) (a' := ?_) (ab 19 127) rfl rfl (any_of HT_.out (by kernel_rfl)) (fun _ _ _ h => h) (Or.inl ⟨by rfl, ?_⟩) ?_ ?_
                     rotate_left
                     ·intro w'
                      go_simp
                      with_reducible rfl
                     rotate_left
                     ·simp only [Act.put, zq1, zq2, zq3, i64_w, i32_w]
                      rfl
                     refine pure_ (i := 8) (N := some 57) (v := ?_) (a' := ?_) (ab 19 383) rfl rfl (any_of HT_.out (by kernel_rfl)) (fun _ _ _ h => h) (Or.inl ⟨by rfl, ?_⟩) ?_ ?_
                     rotate_left
                     ·intro w'
                      go_simp
                      with_reducible rfl
                     rotate_left
                     ·simp only [Act.put, zq1, zq2, zq3, i64_w, i32_w]
                      rfl
                     refine pure_ (i := 9) (N := some 58) (v := ?_) (a' := ?_) (ab 19 895) rfl rfl (any_of HT_.out (by kernel_rfl)) (fun _ _ _ h => h) (Or.inl ⟨by rfl, ?_⟩) ?_ ?_
                     rotate_left
                     ·intro w'
                      go_simp
                      with_reducible rfl
                     rotate_left
                     ·simp only [Act.put, zq1, zq2, zq3, i64_w, i32_w]
                      rfl
                     refine pure_ (i := 11) (N := some 60) (v := ?_) (a' := ?_) (ab 19 2943) rfl rfl (any_of HT_.out (by kernel_rfl)) (fun _ _ _ h => h) (Or.inl ⟨by rfl, ?_⟩) ?_ ?_
                     rotate_left
                     ·intro w'
                      go_simp
                      with_reducible rfl
                     rotate_left
                     ·simp only [Act.put, zq1, zq2, zq3, i64_w, i32_w]
                      rfl
                     refine take_ (i := 7) (N := some 56) (v := ?_) (a' := ?_) (ab 19 3071) rfl rfl (take_ofW HT_.out HW_.out (by kernel_rfl)) (fun _ _ _ h => h) (Or.inl ⟨by rfl, ?_⟩) hHeld ?_ ?_
                     rotate_left
                     ·rintro w' ⟨s0, s1, s2, s3, s4, s5, s6, s7, s8, s9, s10, s11, s12, s13, s14, s15, s16, s17⟩
                      go_simp
                      with_reducible rfl
                     rotate_left
                     ·simp only [Act.put, zq1, zq2, zq3, i64_w, i32_w]
                      rfl
                     refine take_ (i := 10) (N := some 59) (v := ?_) (a' := ?_) (ab 19 4095) rfl rfl (take_ofW HT_.out HW_.out (by kernel_rfl)) (fun _ _ _ h => h) (Or.inl ⟨by rfl, ?_⟩) hHeld ?_ ?_
                     rotate_left
                     ·rintro w' ⟨s0, s1, s2, s3, s4, s5, s6, s7, s8, s9, s10, s11, s12, s13, s14, s15, s16, s17⟩
                      go_simp
                      with_reducible rfl
                     rotate_left
                     ·simp only [Act.put, zq1, zq2, zq3, i64_w, i32_w]
                      rfl
                     refine pure_ (i := 12) (N := some 61) (v := ?_) (a' := ?_) (ab 19 8191) rfl rfl (any_of HT_.out (by kernel_rfl)) (fun _ _ _ h => h) (Or.inl ⟨by rfl, ?_⟩) ?_ ?_
                     rotate_left
                     ·intro w'
                      go_simp
                      with_reducible rfl
                     rotate_left
                     ·simp only [Act.put, zq1, zq2, zq3, i64_w, i32_w]
                      rfl
                     refine pure_ (i := 13) (N := some 62) (v := ?_) (a' := ?_) (ab 19 16383) rfl rfl (any_of HT_.out (by kernel_rfl)) (fun _ _ _ h => h) (Or.inl ⟨by rfl, ?_⟩) ?_ ?_
                     rotate_left
                     ·intro w'
                      go_simp
                      with_reducible rfl
                     rotate_left
                     ·simp only [Act.put, zq1, zq2, zq3, i64_w, i32_w]
                      rfl
                     refine pure_ (i := 14) (N := some 63) (v := ?_) (a' := ?_) (ab 19 32767) rfl rfl (any_of HT_.out (by kernel_rfl)) (fun _ _ _ h => h) (Or.inl ⟨by rfl, ?_⟩) ?_ ?_
                     rotate_left
                     ·intro w'
                      go_simp
                      with_reducible rfl
                     rotate_left
                     ·simp only [Act.put, zq1, zq2, zq3, i64_w, i32_w]
                      rfl
                     refine take_ (i := 15) (N := some 64) (v := ?_) (a' := ?_) (ab 19 65535) rfl rfl (take_ofW HT_.out HW_.out (by kernel_rfl)) (fun _ _ _ h => h) (Or.inl ⟨by rfl, ?_⟩) hHeld ?_ ?_
                     rotate_left
                     ·rintro w' ⟨s0, s1, s2, s3, s4, s5, s6, s7, s8, s9, s10, s11, s12, s13, s14, s15, s16, s17⟩
                      go_simp
                      with_reducible rfl
                     rotate_left
                     ·simp only [Act.put, zq1, zq2, zq3, i64_w, i32_w]
                      rfl
                     refine pure_ (i := 16) (N := some 65) (v := ?_) (a' := ?_) (ab 19 131071) rfl rfl (any_of HT_.out (by kernel_rfl)) (fun _ _ _ h => h) (Or.inl ⟨by rfl, ?_⟩) ?_ ?_
                     rotate_left
                     ·intro w'
                      go_simp
                      with_reducible rfl
                     rotate_left
                     ·simp only [Act.put, zq1, zq2, zq3, i64_w, i32_w]
                      rfl
                     refine pure_ (i := 17) (N := some 66) (v := ?_) (a' := ?_) (ab 19 262143) rfl rfl (any_of HT_.out (by kernel_rfl)) (fun _ _ _ h => h) (Or.inl ⟨by rfl, ?_⟩) ?_ ?_
                     rotate_left
                     ·intro w'
                      go_simp
                      with_reducible rfl
                     rotate_left
                     ·simp only [Act.put, zq1, zq2, zq3, i64_w, i32_w]
                      rfl
                     refine one_ (i := 18) (N := none) (ab 19 524287) rfl rfl (one_of HT_.out (by kernel_rfl)) (by decide) (fun K hK => ?_)
                     have hs47 : w45.cell? ⟨gb336, 2, none⟩ = some (.int .i64 x337002_3) := (blk_cell BK336.out 2).trans rfl
                     have hfs47 := blk_frozen BK336.out 2
                     have hns47_0 := NB335_336.out
                     have hms47_0 := NB336_335.out
                     refine skip_ (w1 := ?_) (by rfl) rfl ?_ ?_
                     rotate_left
                     ·go_simp
                      rfl
                     refine hK.out _ _ ⟨(cf NB335_336.out (hHeld.1)), (cf NB335_336.out (hHeld.2.1)), (cf NB335_336.out (hHeld.2.2.1)), (cf NB335_336.out (hHeld.2.2.2.1)), (cf (by first | exact (Kd.own_blk (Kd.R_ne HO_6.out BK336.out (by decide)) :) | (show (Addr.add _ _).block ≠ _; rw [add_block]; exact (Kd.own_blk (Kd.R_ne HO_6.out BK336.out (by decide)) :))) (hHeld.2.2.2.2.1)), (cf (by first | exact (Kd.own_blk (Kd.R_ne HO_6.out BK336.out (by decide)) :) | (show (Addr.add _ _).block ≠ _; rw [add_block]; exact (Kd.own_blk (Kd.R_ne HO_6.out BK336.out (by decide)) :))) (hHeld.2.2.2.2.2.1)), (cf (by first | exact (Kd.own_blk (Kd.R_ne HO_6.out BK336.out (by decide)) :) | (show (Addr.add _ _).block ≠ _; rw [add_block]; exact (Kd.own_blk (Kd.R_ne HO_6.out BK336.out (by decide)) :))) (hHeld.2.2.2.2.2.2.1)), (cf (by first | exact (Kd.own_blk (Kd.R_ne HO_6.out BK336.out (by decide)) :) | (show (Addr.add _ _).block ≠ _; rw [add_block]; exact (Kd.own_blk (Kd.R_ne HO_6.out BK336.out (by decide)) :))) (hHeld.2.2.2.2.2.2.2.1)), (cf (by first | exact (Kd.own_blk (Kd.R_ne HO_6.out BK336.out (by decide)) :) | (show (Addr.add _ _).block ≠ _; rw [add_block]; exact (Kd.own_blk (Kd.R_ne HO_6.out BK336.out (by decide)) :))) (hHeld.2.2.2.2.2.2.2.2.1)), (cf (by first | exact (Kd.own_blk (Kd.R_ne HO_6.out BK336.out (by decide)) :) | (show (Addr.add _ _).block ≠ _; rw [add_block]; exact (Kd.own_blk (Kd.R_ne HO_6.out BK336.out (by decide)) :))) (hHeld.2.2.2.2.2.2.2.2.2.1)), (cf (by first | exact (Kd.own_blk (Kd.R_ne HO_6.out BK336.out (by decide)) :) | (show (Addr.add _ _).block ≠ _; rw [add_block]; exact (Kd.own_blk (Kd.R_ne HO_6.out BK336.out (by decide)) :))) (hHeld.2.2.2.2.2.2.2.2.2.2.1)), (cf (by first | exact (Kd.own_blk (Kd.R_ne HO_6.out BK336.out (by decide)) :) | (show (Addr.add _ _).block ≠ _; rw [add_block]; exact (Kd.own_blk (Kd.R_ne HO_6.out BK336.out (by decide)) :))) (hHeld.2.2.2.2.2.2.2.2.2.2.2.1)), (cf (by first | exact (Kd.own_blk (Kd.R_ne HO_6.out BK336.out (by decide)) :) | (show (Addr.add _ _).block ≠ _; rw [add_block]; exact (Kd.own_blk (Kd.R_ne HO_6.out BK336.out (by decide)) :))) (hHeld.2.2.2.2.2.2.2.2.2.2.2.2.1)), (cf (by first | exact (Kd.own_blk (Kd.R_ne HO_6.out BK336.out (by decide)) :) | (show (Addr.add _ _).block ≠ _; rw [add_block]; exact (Kd.own_blk (Kd.R_ne HO_6.out BK336.out (by decide)) :))) (hHeld.2.2.2.2.2.2.2.2.2.2.2.2.2.1)), (cf (by first | exact (Kd.own_blk (Kd.R_ne HO_6.out BK336.out (by decide)) :) | (show (Addr.add _ _).block ≠ _; rw [add_block]; exact (Kd.own_blk (Kd.R_ne HO_6.out BK336.out (by decide)) :))) (hHeld.2.2.2.2.2.2.2.2.2.2.2.2.2.2.1)), (cf (by first | exact (Kd.own_blk (Kd.R_ne HO_6.out BK336.out (by decide)) :) | (show (Addr.add _ _).block ≠ _; rw [add_block]; exact (Kd.own_blk (Kd.R_ne HO_6.out BK336.out (by decide)) :))) (hHeld.2.2.2.2.2.2.2.2.2.2.2.2.2.2.2.1)), (cf (by first | exact (Kd.own_blk (Kd.R_ne HO_6.out BK336.out (by decide)) :) | (show (Addr.add _ _).block ≠ _; rw [add_block]; exact (Kd.own_blk (Kd.R_ne HO_6.out BK336.out (by decide)) :))) (hHeld.2.2.2.2.2.2.2.2.2.2.2.2.2.2.2.2.1)), (cf (by first | exact (Kd.own_blk (Kd.R_ne HO_6.out BK336.out (by decide)) :) | (show (Addr.add _ _).block ≠ _; rw [add_block]; exact (Kd.own_blk (Kd.R_ne HO_6.out BK336.out (by decide)) :))) (hHeld.2.2.2.2.2.2.2.2.2.2.2.2.2.2.2.2.2))⟩ (fun hHeld => ?_)
                     clear hK K
                     refine done_ (done_of HT_.out (by kernel_rfl)) ?_
                     try go_wp2
                     go_roundg k3
                     case measure => have := HJ7.out; have := HK2.out; have := HK3.out; omega
                     case rel => exact ⟨(wrap64 (2 + 1)), (x337000_3), (x337001_3), (wrap64 (((rd_T39 t330 x38_2).f0.f2) - ((rd_T39 t330 ((rd_T35 t324 x38_2).f0)).f0.f2))), (by first | rfl | (simp; done) | (simp [*]; done) | (simp; decide +kernel)), H', ⟨by have := HJ7.out; have := HK2.out; have := HK3.out; omega⟩, ⟨by (with_reducible repeat (first | apply Kd.R_alloc | apply Kd.R_drewN | apply Kd.R_drew)); exact Kd.R_mono (Kd.R_far (p := ⟨gb336, 2, none⟩) (Kd.R_types HO_6.out BK336.out (by decide)) (fun _ hk => hk.2) (.int .i64 (wrap64 (((rd_T39 t330 x38_2).f0.f2) - ((rd_T39 t330 ((rd_T35 t324 x38_2).f0)).f0.f2))))) (fun _ hk => trivial)⟩, ⟨by (with_reducible repeat (first | apply Kd.R_alloc | apply Kd.R_drewN | apply Kd.R_drew)); exact Kd.R_mono (Kd.R_far (p := ⟨gb336, 2, none⟩) (Kd.R_types HO_36.out BK336.out (by decide)) (fun _ hk => hk.2) (.int .i64 (wrap64 (((rd_T39 t330 x38_2).f0.f2) - ((rd_T39 t330 ((rd_T35 t324 x38_2).f0)).f0.f2))))) (fun _ hk => hk.1)⟩, ⟨by (with_reducible repeat (first | refine blk_drewN ?_ _ | refine blk_drew ?_ | refine blk_alloc ?_ _)); refine blk_far ?_ NB335_336.out _; exact BK335.out⟩, ⟨by (with_reducible repeat (first | refine blk_drewN ?_ _ | refine blk_drew ?_ | refine blk_alloc ?_ _)); refine blk_put (cs := #[.int .i64 x337000_3, .int .i64 x337001_3, .int .i64 x337002_3]) ?_ 2 _ rfl; exact BK336.out⟩, ⟨by repeat (first | (with_reducible first | exact HB.out | apply below_alloc | apply pw_below_drewN | apply below_drew1 | refine below_set ?_ GE335.out | refine below_set ?_ GE336.out) | exact HB.out)⟩⟩
                    ·rw [if_neg c44] at H
                     exact absurd H (by simp)
                   ·rw [if_neg c43] at H
                    exact absurd H (by simp)
                  ·rw [if_neg c42] at H
                   exact absurd H (by simp)
               ·rw [if_neg c29] at H
                exact absurd H (by simp)
              ·rw [if_neg c28] at H
               exact absurd H (by simp)
             ·rw [if_neg c27] at H
              have c27b0 : decide (x46_3 < 3) = false := decide_eq_false c27
              clear c27
              replace H := Option.bind_eq_some_iff.mp H
              obtain ⟨t341, A480, H⟩ := H
              replace H : ((tourkeep5_far.f k3 ((rd_T35 t324 x38_2).f1.f0) ((rd_T35 t324 x38_2).f1.f1) ((rd_T35 t324 x38_2).f1.f2)).bind fun t342 => (if (wrap64 (t341 - t342)) > 400 then (none) else (if (wrap64 (t342 - t341)) > 400 then (none) else (tourkeep5_BonesLong.l0 k3 t330 t324 (t324.length : Int) (wrap64 (x38_2 + 1)))))) = some r := H
              have A48 := Aside0.mk A480
              clear A480
              replace H := Option.bind_eq_some_iff.mp H
              obtain ⟨t342, A490, H⟩ := H
              replace H : (if (wrap64 (t341 - t342)) > 400 then (none) else (if (wrap64 (t342 - t341)) > 400 then (none) else (tourkeep5_BonesLong.l0 k3 t330 t324 (t324.length : Int) (wrap64 (x38_2 + 1))))) = some r := H
              have A49 := Aside0.mk A490
              clear A490
              by_cases c50 : (wrap64 (t341 - t342)) > 400
              ·rw [if_pos c50] at H
               exact absurd H (by simp)
              ·rw [if_neg c50] at H
               have c50b0 : decide (400 < (wrap64 (t341 - t342))) = false := decide_eq_false c50
               clear c50
               by_cases c51 : (wrap64 (t342 - t341)) > 400
               ·rw [if_pos c51] at H
                exact absurd H (by simp)
               ·rw [if_neg c51] at H
                have c51b0 : decide (400 < (wrap64 (t342 - t341))) = false := decide_eq_false c51
                clear c51
                have H' := Aside0.mk H
                clear H
                try go_wp2
                have n0_ := Aside0.mk (Kd.R_drew HO_6.out)
                have n1_ := Aside0.mk (Kd.R_drew HO_36.out)
                have n2_ := Aside0.mk (blk_drew BK335.out)
                have n3_ := Aside0.mk (blk_drew BK336.out)
                have n4_ := Aside0.mk (below_drew1 HB.out)
                clear HO_6
                clear HO_36
                clear BK335
                clear BK336
                clear HB
                have HO_6 := n0_
                have HO_36 := n1_
                have BK335 := n2_
                have BK336 := n3_
                have HB := n4_
                clear n0_ n1_ n2_ n3_ n4_
                refine start_ (n := 7) (S := fun w' => w'.cell? ⟨gb336, 0, none⟩ = some (.int .i64 x337000_3) ∧ w'.cell? ⟨gb336, 1, none⟩ = some (.int .i64 x337001_3) ∧ w'.cell? ⟨gb336, 2, none⟩ = some (.int .i64 x337002_3) ∧ w'.cell? ⟨gb335, 0, none⟩ = some (.int .i64 ((rd_T35 t324 x38_2).f0)) ∧ w'.cell? ⟨gb335, 1, none⟩ = some (.int .i64 ((rd_T35 t324 x38_2).f1.f0)) ∧ w'.cell? ⟨gb335, 2, none⟩ = some (.int .i64 ((rd_T35 t324 x38_2).f1.f1)) ∧ w'.cell? ⟨gb335, 3, none⟩ = some (.int .i64 ((rd_T35 t324 x38_2).f1.f2))) (ds := []) #[false, false, false, false, false, false, false] (by kernel_rfl) rfl rfl ⟨(blk_cell BK336.out 0).trans rfl, (blk_cell BK336.out 1).trans rfl, (blk_cell BK336.out 2).trans rfl, (blk_cell BK335.out 0).trans rfl, (blk_cell BK335.out 1).trans rfl, (blk_cell BK335.out 2).trans rfl, (blk_cell BK335.out 3).trans rfl⟩ (fun hHeld => ?_)
                generalize wr.drew = w52 at HO_6 HO_36 BK335 BK336 HB hHeld ⊢
                refine pure_ (i := 2) (N := some 70) (v := ?_) (a' := ?_) #[false, false, true, false, false, false, false] rfl rfl (by kernel_rfl) (fun _ _ _ h => h) (Or.inl ⟨by rfl, ?_⟩) ?_ ?_
                rotate_left
                ·intro w'
                 go_simp
                 with_reducible rfl
                rotate_left
                ·simp only [Act.put, zq1, zq2, zq3, i64_w, i32_w]
                 rfl
                refine take_ (i := 0) (N := some 68) (v := ?_) (a' := ?_) #[true, false, true, false, false, false, false] rfl rfl (by kernel_rfl) (fun _ _ _ h => h) (Or.inl ⟨by rfl, ?_⟩) hHeld ?_ ?_
                rotate_left
                ·rintro w' ⟨s0, s1, s2, s3, s4, s5, s6⟩
                 go_simp
                 with_reducible rfl
                rotate_left
                ·simp only [Act.put, zq1, zq2, zq3, i64_w, i32_w]
                 rfl
                refine take_ (i := 3) (N := some 71) (v := ?_) (a' := ?_) #[true, false, true, true, false, false, false] rfl rfl (by kernel_rfl) (fun _ _ _ h => h) (Or.inl ⟨by rfl, ?_⟩) hHeld ?_ ?_
                rotate_left
                ·rintro w' ⟨s0, s1, s2, s3, s4, s5, s6⟩
                 go_simp
                 with_reducible rfl
                rotate_left
                ·simp only [Act.put, zq1, zq2, zq3, i64_w, i32_w]
                 rfl
                refine one_ (i := 1) (N := some 69) #[true, true, true, true, false, false, false] rfl rfl (by kernel_rfl) (by decide) (fun K hK => ?_)
                refine goes_ Try.func20 (by kernel_rfl) rfl #[.agg #[.int .i64 x337000_3, .int .i64 x337001_3, .int .i64 x337002_3]] (by rfl) rfl rfl (by (try simp only [zm1, zm2, zm3]); first | done | rfl) ?_
                with_reducible refine (tourkeep5_far.calls k3 x337000_3 x337001_3 x337002_3 t341 _ A48.out).mono ?_
                rintro e w53 ⟨rfl, hb⟩
                refine ⟨_, rfl, ?_⟩
                have n0_ := Aside0.mk (Kd.R_below (by (with_reducible repeat (first | apply Kd.R_alloc | apply Kd.R_drewN | apply Kd.R_drew)); exact HO_6.out) hb)
                have n1_ := Aside0.mk (Kd.R_below (by (with_reducible repeat (first | apply Kd.R_alloc | apply Kd.R_drewN | apply Kd.R_drew)); exact HO_36.out) hb)
                have n2_ := Aside0.mk (bb hb BK335.out)
                have n3_ := Aside0.mk (bb hb BK336.out)
                have n4_ := Aside0.mk (below_step (by repeat (first | (with_reducible first | exact HB.out | apply below_alloc | apply pw_below_drewN | apply below_drew1 | refine below_set ?_ GE335.out | refine below_set ?_ GE336.out) | exact HB.out)) hb)
                clear HO_6
                clear HO_36
                clear BK335
                clear BK336
                clear HB
                have HO_6 := n0_
                have HO_36 := n1_
                have BK335 := n2_
                have BK336 := n3_
                have HB := n4_
                clear n0_ n1_ n2_ n3_ n4_
                (try clear hb)
                (try clear hb2)
                (try clear hk)
                (try clear hi)
                refine hK.out _ _ ⟨(blk_cell BK336.out 0).trans rfl, (blk_cell BK336.out 1).trans rfl, (blk_cell BK336.out 2).trans rfl, (blk_cell BK335.out 0).trans rfl, (blk_cell BK335.out 1).trans rfl, (blk_cell BK335.out 2).trans rfl, (blk_cell BK335.out 3).trans rfl⟩ (fun hHeld => ?_)
                clear hK K
                refine norm_ (a' := ?_) ?_ ?_
                rotate_left
                ·show Act.put _ (some 69) _ = _
                 simp only [Act.put, zq1, zq2, zq3, i64_w, i32_w]
                 rfl
                refine one_ (i := 4) (N := some 72) #[true, true, true, true, true, false, false] rfl rfl (by kernel_rfl) (by decide) (fun K hK => ?_)
                refine goes_ Try.func20 (by kernel_rfl) rfl #[.agg #[.int .i64 ((rd_T35 t324 x38_2).f1.f0), .int .i64 ((rd_T35 t324 x38_2).f1.f1), .int .i64 ((rd_T35 t324 x38_2).f1.f2)]] (by rfl) rfl rfl (by (try simp only [zm1, zm2, zm3]); first | done | rfl) ?_
                with_reducible refine (tourkeep5_far.calls k3 ((rd_T35 t324 x38_2).f1.f0) ((rd_T35 t324 x38_2).f1.f1) ((rd_T35 t324 x38_2).f1.f2) t342 _ A49.out).mono ?_
                rintro e w54 ⟨rfl, hb⟩
                refine ⟨_, rfl, ?_⟩
                have n0_ := Aside0.mk (Kd.R_below (by (with_reducible repeat (first | apply Kd.R_alloc | apply Kd.R_drewN | apply Kd.R_drew)); exact HO_6.out) hb)
                have n1_ := Aside0.mk (Kd.R_below (by (with_reducible repeat (first | apply Kd.R_alloc | apply Kd.R_drewN | apply Kd.R_drew)); exact HO_36.out) hb)
                have n2_ := Aside0.mk (bb hb BK335.out)
                have n3_ := Aside0.mk (bb hb BK336.out)
                have n4_ := Aside0.mk (below_step (by repeat (first | (with_reducible first | exact HB.out | apply below_alloc | apply pw_below_drewN | apply below_drew1 | refine below_set ?_ GE335.out | refine below_set ?_ GE336.out) | exact HB.out)) hb)
                clear HO_6
                clear HO_36
                clear BK335
                clear BK336
                clear HB
                have HO_6 := n0_
                have HO_36 := n1_
                have BK335 := n2_
                have BK336 := n3_
                have HB := n4_
                clear n0_ n1_ n2_ n3_ n4_
                (try clear hb)
                (try clear hb2)
                (try clear hk)
                (try clear hi)
                refine hK.out _ _ ⟨(blk_cell BK336.out 0).trans rfl, (blk_cell BK336.out 1).trans rfl, (blk_cell BK336.out 2).trans rfl, (blk_cell BK335.out 0).trans rfl, (blk_cell BK335.out 1).trans rfl, (blk_cell BK335.out 2).trans rfl, (blk_cell BK335.out 3).trans rfl⟩ (fun hHeld => ?_)
                clear hK K
                refine norm_ (a' := ?_) ?_ ?_
                rotate_left
                ·show Act.put _ (some 72) _ = _
                 simp only [Act.put, zq1, zq2, zq3, i64_w, i32_w]
                 rfl
                refine pure_ (i := 5) (N := some 12) (v := ?_) (a' := ?_) #[true, true, true, true, true, true, false] rfl rfl (by kernel_rfl) (fun _ _ _ h => h) (Or.inl ⟨by rfl, ?_⟩) ?_ ?_
                rotate_left
                ·intro w'
                 go_simp
                 with_reducible rfl
                rotate_left
                ·simp only [Act.put, zq1, zq2, zq3, i64_w, i32_w]
                 rfl
                refine pure_ (i := 6) (N := some 13) (v := ?_) (a' := ?_) #[true, true, true, true, true, true, true] rfl rfl (by kernel_rfl) (fun _ _ _ h => h) (Or.inl ⟨by rfl, ?_⟩) ?_ ?_
                rotate_left
                ·intro w'
                 go_simp
                 with_reducible rfl
                rotate_left
                ·simp only [Act.put, zq1, zq2, zq3, i64_w, i32_w]
                 rfl
                refine done_ (by kernel_rfl) ?_
                try go_wp2
                go_roundg k3
                case measure => have := HJ7.out; have := HK2.out; have := HK3.out; omega
                case rel => exact ⟨(wrap64 (x38_2 + 1)), (by first | rfl | (simp; done) | (simp [*]; done) | (simp; decide +kernel)), H', ⟨by have := HJ7.out; have := HK2.out; have := HK3.out; omega⟩, ⟨by (with_reducible repeat (first | apply Kd.R_alloc | apply Kd.R_drewN | apply Kd.R_drew)); exact HO_6.out⟩, ⟨by (with_reducible repeat (first | apply Kd.R_alloc | apply Kd.R_drewN | apply Kd.R_drew)); exact Kd.R_mono HO_36.out (fun _ hk => trivial)⟩, ⟨by repeat (first | (with_reducible first | exact HB.out | apply below_alloc | apply pw_below_drewN | apply below_drew1 | refine below_set ?_ GE335.out | refine below_set ?_ GE336.out) | exact HB.out)⟩⟩
         ·rw [if_neg c20] at H
          exact absurd H (by simp)
        ·rw [if_neg c19] at H
         exact absurd H (by simp)
       ·rw [if_neg c18] at H
        have c18b0 : decide (x38_2 < (t324.length : Int)) = false := decide_eq_false c18
        clear c18
        obtain rfl := Option.some.inj H
        go_wp2
        go_ret
        exact ⟨by first | rfl | (simp [errW_none, errW_some] <;> rfl) | (simp [*, errW_none, errW_some] <;> rfl), by repeat (first | (with_reducible first | exact HB.out | apply below_alloc | apply pw_below_drewN | apply below_drew1) | exact HB.out)⟩
 ·replace c4 := Bool.eq_false_iff.mpr c4
  subst c4
  have H1 : (none) = some r := by rw [if_neg (show ¬ (false = true) by decide)] at H; exact H
  clear H
  have H := H1
  clear H1
  exact absurd H (by simp)

/-- THE ONE PURE STATEMENT of tourkeep5_BonesLong: yours. -/
def tourkeep5_BonesLong.Pure : Prop := ∀ (l0 : List Int) (l1 : List Int), l0.length ≤ maxLen → l0.length * 8 ≤ 140737488351232 → (∀ x ∈ l0, (Lit.int .i64 x).wf = true) → l1.length ≤ maxLen → l1.length * 8 ≤ 140737488351232 → (∀ x ∈ l1, (Lit.int .i64 x).wf = true) → ∃ k, tourkeep5_BonesLong.f k l0 l1 = some true
theorem tourkeep5_BonesLong.walk (P : tourkeep5_BonesLong.Pure) (a0 : Option Addr) (len0 cap0 : Nat) (z0 : List Int) (a1 : Option Addr) (len1 cap1 : Nat) (z1 : List Int) (w : World) (w0 : (a0 = none ∧ len0 = 0 ∧ cap0 = 0 ∧ z0 = []) ∨ ∃ x, a0 = some x ∧ len0 ≤ cap0 ∧ cap0 ≤ maxLen ∧ z0.length = cap0 ∧ (∀ i, i < z0.length → w.cell? (x.add i) = some (.int .i64 (z0.getD i 0))) ∧ ∀ n ∈ z0, (Lit.int .i64 n).wf = true) (y0 : len0 * 8 ≤ 140737488351232) (w1 : (a1 = none ∧ len1 = 0 ∧ cap1 = 0 ∧ z1 = []) ∨ ∃ x, a1 = some x ∧ len1 ≤ cap1 ∧ cap1 ≤ maxLen ∧ z1.length = cap1 ∧ (∀ i, i < z1.length → w.cell? (x.add i) = some (.int .i64 (z1.getD i 0))) ∧ ∀ n ∈ z1, (Lit.int .i64 n).wf = true) (y1 : len1 * 8 ≤ 140737488351232) :
  Calls Try.prog 6 #[.slice a0 len0 cap0, .slice a1 len1 cap1] w fun e w' => e = .returned (.bool true) ∧ Below w.heap.size w w' := by
 obtain ⟨l0, rfl, hr0, hm0, hw0, hc0⟩ := ReadsInt.ofRowC w0
 obtain ⟨l1, rfl, hr1, hm1, hw1, hc1⟩ := ReadsInt.ofRowC w1
 obtain ⟨k, h⟩ := P l0 l1 hm0 y0 hw0 hm1 y1 hw1
 refine (tourkeep5_BonesLong.calls k _ _ l0 _ _ l1 true w (Kd.C_of_reads (d := (0 : Int)) (h1 := fun _ => rfl) hr0) hc0 (Kd.C_of_reads (d := (0 : Int)) (h1 := fun _ => rfl) hr1) hc1 h).mono ?_
 rintro e w' ⟨rfl, hd⟩
 exact ⟨rfl, hd⟩

end Go.Proofs.Ytfallkiaojefnaa.PBonesLong
