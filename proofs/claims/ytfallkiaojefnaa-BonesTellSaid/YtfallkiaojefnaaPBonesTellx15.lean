-- Printed by a program: the print with changes of this session (wip/printpatch.py).
import Derived.Test.YtfallkiaojefnaaPBonesTellx0
namespace Go.Proofs.Ytfallkiaojefnaa.PBonesTell
open Go.Proofs.Ytfallkiaojefnaa.Fnv Go.Proofs.Ytfallkiaojefnaa.Ary Go.Proofs.Ytfallkiaojefnaa.Ext
open Go.RowKit Go.Proofs.YtfallkiaojefnaaW.PrintWords Go.Proofs.YtfallkiaojefnaaW.PrintLast Go.Proofs.YtfallkiaojefnaaW.PrintMore
attribute [local go_sem] max2_int min2_int max_two min_two max_three min_three max_four min_four   -- for this text's walks alone
set_option linter.unusedVariables false
set_option linter.unusedSimpArgs false

/-! ### tourref5_BonesFault: function 13 -/
mutual
def tourref5_BonesFault.l0 : Nat → List (S35) → List (List (S37)) → List (S35) → Int → Int → Option (Int)
 | 0, _, _, _, _, _ => none
 | k + 1, x0, x1, x18, x19, x20 => if x20 < x19 then (if 0 ≤ x20 then (if x20 < (x18.length : Int) then (if ((rd_T35 x18 x20).f0) ≥ x20 then (tourref5_BonesFault.j1 k x0 x1 x18 x19 x20 true ((rd_T35 x18 x20).f0) ((rd_T35 x18 x20).f1.f0) ((rd_T35 x18 x20).f1.f1) ((rd_T35 x18 x20).f1.f2)) else (tourref5_BonesFault.j1 k x0 x1 x18 x19 x20 (decide (((rd_T35 x18 x20).f0) < (-1))) ((rd_T35 x18 x20).f0) ((rd_T35 x18 x20).f1.f0) ((rd_T35 x18 x20).f1.f1) ((rd_T35 x18 x20).f1.f2))) else (none)) else (none)) else (tourref5_BonesFault.l2 k x0 x1 (x1.length : Int) 0)
def tourref5_BonesFault.j1 : Nat → List (S35) → List (List (S37)) → List (S35) → Int → Int → Bool → Int → Int → Int → Int → Option (Int)
 | 0, _, _, _, _, _, _, _, _, _, _ => none
 | k + 1, x0, x1, x18, x19, x20, x33, x258000, x258001, x258002, x258003 => if x33 = true then (some 9) else (tourref5_BonesFault.l1 k x0 x1 x18 x19 x20 0 x258001 x258002 x258003)
def tourref5_BonesFault.l1 : Nat → List (S35) → List (List (S37)) → List (S35) → Int → Int → Int → Int → Int → Int → Option (Int)
 | 0, _, _, _, _, _, _, _, _, _ => none
 | k + 1, x0, x1, x18, x19, x20, x36, x100035000, x100035001, x100035002 => if x36 < 3 then (if x36 = 0 then (if x100035000 < (-65536000) then (some 1) else (if x100035000 > 65536000 then (some 1) else (tourref5_BonesFault.l1 k x0 x1 x18 x19 x20 (wrap64 (x36 + 1)) x100035000 x100035001 x100035002))) else (if x36 = 1 then (if x100035001 < (-65536000) then (some 1) else (if x100035001 > 65536000 then (some 1) else (tourref5_BonesFault.l1 k x0 x1 x18 x19 x20 (wrap64 (x36 + 1)) x100035000 x100035001 x100035002))) else (if x36 = 2 then (if x100035002 < (-65536000) then (some 1) else (if x100035002 > 65536000 then (some 1) else (tourref5_BonesFault.l1 k x0 x1 x18 x19 x20 (wrap64 (x36 + 1)) x100035000 x100035001 x100035002))) else (none)))) else (tourref5_BonesFault.l0 k x0 x1 x18 x19 (wrap64 (x20 + 1)))
def tourref5_BonesFault.l2 : Nat → List (S35) → List (List (S37)) → Int → Int → Option (Int)
 | 0, _, _, _, _ => none
 | k + 1, x0, x47, x48, x49 => if x49 < x48 then (if 0 ≤ x49 then (if x49 < (x47.length : Int) then (if ((rd_L5 x47 x49).length : Int) = (x0.length : Int) then (tourref5_BonesFault.l3 k x0 x47 x48 x49 (rd_L5 x47 x49) ((rd_L5 x47 x49).length : Int) 0) else (some 3)) else (none)) else (none)) else (some 0)
def tourref5_BonesFault.l3 : Nat → List (S35) → List (List (S37)) → Int → Int → List (S37) → Int → Int → Option (Int)
 | 0, _, _, _, _, _, _, _ => none
 | k + 1, x0, x47, x48, x49, x58, x59, x60 => if x60 < x59 then (if 0 ≤ x60 then (if x60 < (x58.length : Int) then ((some (([(rd_T37 x58 x60).f0, (rd_T37 x58 x60).f1, (rd_T37 x58 x60).f2, (rd_T37 x58 x60).f3] : List Int) : List Int)).bind fun y261 => (tourref5_BonesFault.l4 k x0 x47 x48 x49 x58 x59 x60 y261 (y261.length : Int) 0)) else (none)) else (none)) else (tourref5_BonesFault.l2 k x0 x47 x48 (wrap64 (x49 + 1)))
def tourref5_BonesFault.l4 : Nat → List (S35) → List (List (S37)) → Int → Int → List (S37) → Int → Int → List Int → Int → Int → Option (Int)
 | 0, _, _, _, _, _, _, _, _, _, _ => none
 | k + 1, x0, x47, x48, x49, x58, x59, x60, x72, x73, x74 => if x74 < x73 then (if 0 ≤ x74 then (if x74 < (x72.length : Int) then (if (rd x72 x74) < (-131072) then (some 1) else (if (rd x72 x74) > 131072 then (some 1) else (tourref5_BonesFault.l4 k x0 x47 x48 x49 x58 x59 x60 x72 x73 (wrap64 (x74 + 1))))) else (none)) else (none)) else (tourref5_BonesFault.l3 k x0 x47 x48 x49 x58 x59 (wrap64 (x60 + 1)))
end
def tourref5_BonesFault.f (k : Nat) (l0 : List (S35)) (l1 : List (List (S37))) : Option (Int) := if (l0.length : Int) > 40 then (some 2) else (tourref5_BonesFault.l0 k l0 l1 l0 (l0.length : Int) 0)
theorem tourref5_BonesFault.mono_l : ∀ k, (∀ y0 y1 y2 y3 y4, LeO (tourref5_BonesFault.l0 k y0 y1 y2 y3 y4) (tourref5_BonesFault.l0 (k + 1) y0 y1 y2 y3 y4)) ∧ (∀ y0 y1 y2 y3 y4 y5 y6 y7 y8 y9, LeO (tourref5_BonesFault.j1 k y0 y1 y2 y3 y4 y5 y6 y7 y8 y9) (tourref5_BonesFault.j1 (k + 1) y0 y1 y2 y3 y4 y5 y6 y7 y8 y9)) ∧ (∀ y0 y1 y2 y3 y4 y5 y6 y7 y8, LeO (tourref5_BonesFault.l1 k y0 y1 y2 y3 y4 y5 y6 y7 y8) (tourref5_BonesFault.l1 (k + 1) y0 y1 y2 y3 y4 y5 y6 y7 y8)) ∧ (∀ y0 y1 y2 y3, LeO (tourref5_BonesFault.l2 k y0 y1 y2 y3) (tourref5_BonesFault.l2 (k + 1) y0 y1 y2 y3)) ∧ (∀ y0 y1 y2 y3 y4 y5 y6, LeO (tourref5_BonesFault.l3 k y0 y1 y2 y3 y4 y5 y6) (tourref5_BonesFault.l3 (k + 1) y0 y1 y2 y3 y4 y5 y6)) ∧ (∀ y0 y1 y2 y3 y4 y5 y6 y7 y8 y9, LeO (tourref5_BonesFault.l4 k y0 y1 y2 y3 y4 y5 y6 y7 y8 y9) (tourref5_BonesFault.l4 (k + 1) y0 y1 y2 y3 y4 y5 y6 y7 y8 y9))
 | 0 => ⟨fun _ _ _ _ _ r h => by simp [tourref5_BonesFault.l0] at h, fun _ _ _ _ _ _ _ _ _ _ r h => by simp [tourref5_BonesFault.j1] at h, fun _ _ _ _ _ _ _ _ _ r h => by simp [tourref5_BonesFault.l1] at h, fun _ _ _ _ r h => by simp [tourref5_BonesFault.l2] at h, fun _ _ _ _ _ _ _ r h => by simp [tourref5_BonesFault.l3] at h, fun _ _ _ _ _ _ _ _ _ _ r h => by simp [tourref5_BonesFault.l4] at h⟩
 | k + 1 => by
  obtain ⟨ih0, ih1, ih2, ih3, ih4, ih5⟩ := tourref5_BonesFault.mono_l k
  refine ⟨?_, ?_, ?_, ?_, ?_, ?_⟩
  ·intro y0 y1 y2 y3 y4
   unfold tourref5_BonesFault.l0
   repeat' first
   | (with_reducible exact ih0 _ _ _ _ _)
   | (with_reducible exact ih1 _ _ _ _ _ _ _ _ _ _)
   | (with_reducible exact ih2 _ _ _ _ _ _ _ _ _)
   | (with_reducible exact ih3 _ _ _ _)
   | (with_reducible exact ih4 _ _ _ _ _ _ _)
   | (with_reducible exact ih5 _ _ _ _ _ _ _ _ _ _)
   | (with_reducible exact LeO.refl _)
   | (with_reducible exact LeO.none _)
   | (with_reducible refine LeO.ite ?_ ?_)
   | (with_reducible refine LeO.bind ?_ (fun _ => ?_))
   | exact ih0 _ _ _ _ _
   | exact ih1 _ _ _ _ _ _ _ _ _ _
   | exact ih2 _ _ _ _ _ _ _ _ _
   | exact ih3 _ _ _ _
   | exact ih4 _ _ _ _ _ _ _
   | exact ih5 _ _ _ _ _ _ _ _ _ _
   | exact LeO.none _
   | refine LeO.ite ?_ ?_
   | refine LeO.bind ?_ (fun _ => ?_)
  ·intro y0 y1 y2 y3 y4 y5 y6 y7 y8 y9
   unfold tourref5_BonesFault.j1
   repeat' first
   | (with_reducible exact ih0 _ _ _ _ _)
   | (with_reducible exact ih1 _ _ _ _ _ _ _ _ _ _)
   | (with_reducible exact ih2 _ _ _ _ _ _ _ _ _)
   | (with_reducible exact ih3 _ _ _ _)
   | (with_reducible exact ih4 _ _ _ _ _ _ _)
   | (with_reducible exact ih5 _ _ _ _ _ _ _ _ _ _)
   | (with_reducible exact LeO.refl _)
   | (with_reducible exact LeO.none _)
   | (with_reducible refine LeO.ite ?_ ?_)
   | (with_reducible refine LeO.bind ?_ (fun _ => ?_))
   | exact ih0 _ _ _ _ _
   | exact ih1 _ _ _ _ _ _ _ _ _ _
   | exact ih2 _ _ _ _ _ _ _ _ _
   | exact ih3 _ _ _ _
   | exact ih4 _ _ _ _ _ _ _
   | exact ih5 _ _ _ _ _ _ _ _ _ _
   | exact LeO.none _
   | refine LeO.ite ?_ ?_
   | refine LeO.bind ?_ (fun _ => ?_)
  ·intro y0 y1 y2 y3 y4 y5 y6 y7 y8
   unfold tourref5_BonesFault.l1
   repeat' first
   | (with_reducible exact ih0 _ _ _ _ _)
   | (with_reducible exact ih1 _ _ _ _ _ _ _ _ _ _)
   | (with_reducible exact ih2 _ _ _ _ _ _ _ _ _)
   | (with_reducible exact ih3 _ _ _ _)
   | (with_reducible exact ih4 _ _ _ _ _ _ _)
   | (with_reducible exact ih5 _ _ _ _ _ _ _ _ _ _)
   | (with_reducible exact LeO.refl _)
   | (with_reducible exact LeO.none _)
   | (with_reducible refine LeO.ite ?_ ?_)
   | (with_reducible refine LeO.bind ?_ (fun _ => ?_))
   | exact ih0 _ _ _ _ _
   | exact ih1 _ _ _ _ _ _ _ _ _ _
   | exact ih2 _ _ _ _ _ _ _ _ _
   | exact ih3 _ _ _ _
   | exact ih4 _ _ _ _ _ _ _
   | exact ih5 _ _ _ _ _ _ _ _ _ _
   | exact LeO.none _
   | refine LeO.ite ?_ ?_
   | refine LeO.bind ?_ (fun _ => ?_)
  ·intro y0 y1 y2 y3
   unfold tourref5_BonesFault.l2
   repeat' first
   | (with_reducible exact ih0 _ _ _ _ _)
   | (with_reducible exact ih1 _ _ _ _ _ _ _ _ _ _)
   | (with_reducible exact ih2 _ _ _ _ _ _ _ _ _)
   | (with_reducible exact ih3 _ _ _ _)
   | (with_reducible exact ih4 _ _ _ _ _ _ _)
   | (with_reducible exact ih5 _ _ _ _ _ _ _ _ _ _)
   | (with_reducible exact LeO.refl _)
   | (with_reducible exact LeO.none _)
   | (with_reducible refine LeO.ite ?_ ?_)
   | (with_reducible refine LeO.bind ?_ (fun _ => ?_))
   | exact ih0 _ _ _ _ _
   | exact ih1 _ _ _ _ _ _ _ _ _ _
   | exact ih2 _ _ _ _ _ _ _ _ _
   | exact ih3 _ _ _ _
   | exact ih4 _ _ _ _ _ _ _
   | exact ih5 _ _ _ _ _ _ _ _ _ _
   | exact LeO.none _
   | refine LeO.ite ?_ ?_
   | refine LeO.bind ?_ (fun _ => ?_)
  ·intro y0 y1 y2 y3 y4 y5 y6
   unfold tourref5_BonesFault.l3
   repeat' first
   | (with_reducible exact ih0 _ _ _ _ _)
   | (with_reducible exact ih1 _ _ _ _ _ _ _ _ _ _)
   | (with_reducible exact ih2 _ _ _ _ _ _ _ _ _)
   | (with_reducible exact ih3 _ _ _ _)
   | (with_reducible exact ih4 _ _ _ _ _ _ _)
   | (with_reducible exact ih5 _ _ _ _ _ _ _ _ _ _)
   | (with_reducible exact LeO.refl _)
   | (with_reducible exact LeO.none _)
   | (with_reducible refine LeO.ite ?_ ?_)
   | (with_reducible refine LeO.bind ?_ (fun _ => ?_))
   | exact ih0 _ _ _ _ _
   | exact ih1 _ _ _ _ _ _ _ _ _ _
   | exact ih2 _ _ _ _ _ _ _ _ _
   | exact ih3 _ _ _ _
   | exact ih4 _ _ _ _ _ _ _
   | exact ih5 _ _ _ _ _ _ _ _ _ _
   | exact LeO.none _
   | refine LeO.ite ?_ ?_
   | refine LeO.bind ?_ (fun _ => ?_)
  ·intro y0 y1 y2 y3 y4 y5 y6 y7 y8 y9
   unfold tourref5_BonesFault.l4
   repeat' first
   | (with_reducible exact ih0 _ _ _ _ _)
   | (with_reducible exact ih1 _ _ _ _ _ _ _ _ _ _)
   | (with_reducible exact ih2 _ _ _ _ _ _ _ _ _)
   | (with_reducible exact ih3 _ _ _ _)
   | (with_reducible exact ih4 _ _ _ _ _ _ _)
   | (with_reducible exact ih5 _ _ _ _ _ _ _ _ _ _)
   | (with_reducible exact LeO.refl _)
   | (with_reducible exact LeO.none _)
   | (with_reducible refine LeO.ite ?_ ?_)
   | (with_reducible refine LeO.bind ?_ (fun _ => ?_))
   | exact ih0 _ _ _ _ _
   | exact ih1 _ _ _ _ _ _ _ _ _ _
   | exact ih2 _ _ _ _ _ _ _ _ _
   | exact ih3 _ _ _ _
   | exact ih4 _ _ _ _ _ _ _
   | exact ih5 _ _ _ _ _ _ _ _ _ _
   | exact LeO.none _
   | refine LeO.ite ?_ ?_
   | refine LeO.bind ?_ (fun _ => ?_)
theorem tourref5_BonesFault.mono : ∀ a0 a1 k, LeO (tourref5_BonesFault.f k a0 a1) (tourref5_BonesFault.f (k + 1) a0 a1) := by
 intro a0 a1 k
 obtain ⟨ih0, ih1, ih2, ih3, ih4, ih5⟩ := tourref5_BonesFault.mono_l k
 unfold tourref5_BonesFault.f
 repeat' first
   | (with_reducible exact ih0 _ _ _ _ _)
   | (with_reducible exact ih1 _ _ _ _ _ _ _ _ _ _)
   | (with_reducible exact ih2 _ _ _ _ _ _ _ _ _)
   | (with_reducible exact ih3 _ _ _ _)
   | (with_reducible exact ih4 _ _ _ _ _ _ _)
   | (with_reducible exact ih5 _ _ _ _ _ _ _ _ _ _)
   | (with_reducible exact LeO.refl _)
   | (with_reducible exact LeO.none _)
   | (with_reducible refine LeO.ite ?_ ?_)
   | (with_reducible refine LeO.bind ?_ (fun _ => ?_))
   | exact ih0 _ _ _ _ _
   | exact ih1 _ _ _ _ _ _ _ _ _ _
   | exact ih2 _ _ _ _ _ _ _ _ _
   | exact ih3 _ _ _ _
   | exact ih4 _ _ _ _ _ _ _
   | exact ih5 _ _ _ _ _ _ _ _ _ _
   | exact LeO.none _
   | refine LeO.ite ?_ ?_
   | refine LeO.bind ?_ (fun _ => ?_)
set_option maxHeartbeats 8000000 in
set_option maxRecDepth 100000 in
theorem tourref5_BonesFault.calls (k : Nat) (A0 : Option Addr) (c0 : Nat) (l0 : List (S35)) (A1 : Option Addr) (c1 : Nat) (l1 : List (List (S37))) (r : Int) (w : World) (hr0 : Kd.C k35 w A0 l0.length l0) (hc0 : l0.length ≤ c0) (hr1 : Kd.C (Kd.slice 37 k37) w A1 l1.length l1) (hc1 : l1.length ≤ c1) (h : tourref5_BonesFault.f k l0 l1 = some r) :
  Calls Try.prog 13 #[.slice A0 l0.length c0, .slice A1 l1.length c1] w fun e w' => e = .returned (.int .i64 r) ∧ Below w.heap.size w w' := by
 have hu35 := Try.underlying35
 have hu33 := Try.underlying33
 have hu37 := Try.underlying37
 have HR0 := Aside0.mk hr0
 have HC0 := Aside0.mk hc0
 clear hr0 hc0
 have HR1 := Aside0.mk hr1
 have HC1 := Aside0.mk hc1
 clear hr1 hc1
 have HB := Aside0.mk (Below.refl w.heap.size w)
 have H : (if (l0.length : Int) > 40 then (some 2) else (tourref5_BonesFault.l0 k l0 l1 l0 (l0.length : Int) 0)) = some r := h
 clear h
 by_cases c3 : (l0.length : Int) > 40
 ·rw [if_pos c3] at H
  have c3b0 : decide (40 < (l0.length : Int)) = true := decide_eq_true c3
  have c3b1 : decide (40 < l0.length) = true := decide_eq_true (by omega)
  clear c3
  obtain rfl := Option.some.inj H
  go_enter Try.func13, Try.ntmps13
  go_wp2
  go_ret
  exact ⟨by first | rfl | (simp [errW_none, errW_some] <;> rfl) | (simp [*, errW_none, errW_some] <;> rfl), by repeat (first | (with_reducible first | exact HB.out | apply below_alloc | apply pw_below_drewN | apply below_drew1) | exact HB.out)⟩
 ·rw [if_neg c3] at H
  have c3b0 : decide (40 < (l0.length : Int)) = false := decide_eq_false c3
  have c3b1 : decide (40 < l0.length) = false := decide_eq_false (by omega)
  clear c3
  have H' := Aside0.mk H
  clear H
  go_enter Try.func13, Try.ntmps13
  go_wp2
  go_loopg [20] k (fun kq v20 w' => ∃ (x20_1 : Int), v20 = .int .i64 x20_1 ∧ Aside0 (tourref5_BonesFault.l0 kq l0 l1 l0 (l0.length : Int) x20_1 = some r) ∧ Aside0 (kq ≤ k) ∧ Aside0 (Below w.heap.size w w'))
  case atStart => exact ⟨(0), (by first | rfl | (simp; done) | (simp [*]; done) | (simp; decide +kernel)), H', ⟨Nat.le_refl _⟩, ⟨by repeat (first | (with_reducible first | exact HB.out | apply below_alloc | apply pw_below_drewN | apply below_drew1) | exact HB.out)⟩⟩
  case round =>
   clear H'
   try clear c1; try clear p2; try clear c3; try clear c3b0; try clear c3b1
   obtain ⟨x20_1, rfl, HA, HK1, HB⟩ := hrel
   cases gk with
   | zero => exact absurd HA.out (by simp [tourref5_BonesFault.l0])
   | succ k1 =>
    have H := HA.out
    clear HA
    simp only [tourref5_BonesFault.l0] at H
    by_cases c4 : x20_1 < (l0.length : Int)
    ·rw [if_pos c4] at H
     have c4b0 : decide (x20_1 < (l0.length : Int)) = true := decide_eq_true c4
     clear c4
     by_cases c5 : 0 ≤ x20_1
     ·rw [if_pos c5] at H
      have c5b0 : decide (0 ≤ x20_1) = true := decide_eq_true c5
      clear c5
      by_cases c6 : x20_1 < (l0.length : Int)
      ·rw [if_pos c6] at H
       have c6b0 : decide (x20_1 < (l0.length : Int)) = true := decide_eq_true c6
       clear c6
       have HC7 := Aside0.mk H
       clear H
       have p256 : 0 ≤ (x20_1 : Int) := of_decide_eq_true (by first | (with_reducible assumption) | assumption)
       have q256 : x20_1 < (l0.length : Int) := of_decide_eq_true (by first | (with_reducible assumption) | assumption)
       obtain ⟨ad256, e256, hx256_0, hx256_1, hx256_2, hx256_3⟩ := at_T35 HR0.out x20_1 p256 q256
       cases e256
       replace hx256_0 := (HB.out.cell (World.block_lt_of_cell? w _ hx256_0)).trans hx256_0
       replace hx256_1 := (HB.out.cell (World.block_lt_of_cell? w _ hx256_1)).trans hx256_1
       replace hx256_2 := (HB.out.cell (World.block_lt_of_cell? w _ hx256_2)).trans hx256_2
       replace hx256_3 := (HB.out.cell (World.block_lt_of_cell? w _ hx256_3)).trans hx256_3
       replace p256 := eq_true p256
       replace q256 := eq_true q256
       go_upto_region 6 with (first | ((with_reducible refine gate_dst (N := 6) rfl ?_); refine box_event ?hg (N := 6) ?hd (cs := #[.int .i64 0, .int .i64 0, .int .i64 0, .int .i64 0]) (t := 35) ?hr ?_; (case hd => rfl); (case hg => rfl); (case hr => first | (go_simp; done) | (go_simp; rfl)); intro gb257 hg w8 hbox hb; have n0_ := Aside0.mk (below_step (by repeat (first | (with_reducible first | exact HB.out | apply below_alloc | apply pw_below_drewN | apply below_drew1) | exact HB.out)) hb); have n1_ := Aside0.mk (hbox); have n2_ := Aside0.mk ((by rw [hg]; exact (below_size (by repeat (first | (with_reducible first | exact HB.out | apply below_alloc | apply pw_below_drewN | apply below_drew1) | exact HB.out))) : w.heap.size ≤ gb257)); have n3_ := Aside0.mk ((by rw [hg]; exact (below_size (by repeat (first | (with_reducible first | exact HB.out | apply below_alloc | apply pw_below_drewN | apply below_drew1) | exact HB.out))) : w.heap.size ≤ gb257)); clear HB; have HB := n0_; have BK257 := n1_; have GW257 := n2_; have GE257 := n3_; clear n0_ n1_ n2_ n3_; clear hb hbox hg; obtain ⟨hcz9_0, hcz9_1, hcz9_2, hcz9_3⟩ := blk4 BK257.out; obtain ⟨hfz9_0, hfz9_1, hfz9_2, hfz9_3⟩ := frz4 BK257.out))
       (try simp only [Act.put, zq1, zq2, zq3])
       go_cut [33] (fun v33 wc => ∃ (kq : Nat) (x33_6 : Bool), v33 = .bool x33_6 ∧ Aside0 (tourref5_BonesFault.j1 kq l0 l1 l0 (l0.length : Int) x20_1 x33_6 ((rd_T35 l0 x20_1).f0) ((rd_T35 l0 x20_1).f1.f0) ((rd_T35 l0 x20_1).f1.f1) ((rd_T35 l0 x20_1).f1.f2) = some r) ∧ Aside0 (kq ≤ k1) ∧ Aside0 (wc.heap[gb257]? = some (.cells #[.int .i64 ((rd_T35 l0 x20_1).f0), .int .i64 ((rd_T35 l0 x20_1).f1.f0), .int .i64 ((rd_T35 l0 x20_1).f1.f1), .int .i64 ((rd_T35 l0 x20_1).f1.f2)] 35 (0, 0))) ∧ Aside0 (Below w.heap.size w wc))
       case first =>
        have H := HC7.out
        clear HC7
        by_cases c10 : ((rd_T35 l0 x20_1).f0) ≥ x20_1
        ·rw [if_pos c10] at H
         have c10b0 : decide (x20_1 ≤ ((rd_T35 l0 x20_1).f0)) = true := decide_eq_true c10
         clear c10
         (first | rw [c10b0] | (simp only [i64_w, i32_w]; rw [c10b0]) | skip)
         have H' := Aside0.mk H
         clear H
         obtain ⟨hcz11_0, hcz11_1, hcz11_2, hcz11_3⟩ := blk4 BK257.out
         obtain ⟨hfz11_0, hfz11_1, hfz11_2, hfz11_3⟩ := frz4 BK257.out
         go_wp2
         go_meet
         case rel => exact ⟨_, (true), (by first | rfl | (simp; done) | (simp [*]; done) | (simp; decide +kernel)), H', ⟨by have := HK1.out; first | omega | exact Nat.le_refl _⟩, ⟨by (with_reducible repeat (first | refine blk_drewN ?_ _ | refine blk_drew ?_ | refine blk_alloc ?_ _)); refine blk_put (cs := #[.int .i64 ((rd_T35 l0 x20_1).f0), .int .i64 ((rd_T35 l0 x20_1).f1.f0), .int .i64 ((rd_T35 l0 x20_1).f1.f1), .int .i64 0]) ?_ 3 _ rfl; refine blk_put (cs := #[.int .i64 ((rd_T35 l0 x20_1).f0), .int .i64 ((rd_T35 l0 x20_1).f1.f0), .int .i64 0, .int .i64 0]) ?_ 2 _ rfl; refine blk_put (cs := #[.int .i64 ((rd_T35 l0 x20_1).f0), .int .i64 0, .int .i64 0, .int .i64 0]) ?_ 1 _ rfl; refine blk_put (cs := #[.int .i64 0, .int .i64 0, .int .i64 0, .int .i64 0]) ?_ 0 _ rfl; exact BK257.out⟩, ⟨by repeat (first | (with_reducible first | exact HB.out | apply below_alloc | apply pw_below_drewN | apply below_drew1 | refine below_set ?_ GE257.out) | exact HB.out)⟩⟩
        ·rw [if_neg c10] at H
         have c10b0 : decide (x20_1 ≤ ((rd_T35 l0 x20_1).f0)) = false := decide_eq_false c10
         clear c10
         (first | rw [c10b0] | (simp only [i64_w, i32_w]; rw [c10b0]) | skip)
         have H' := Aside0.mk H
         clear H
         obtain ⟨hcz12_0, hcz12_1, hcz12_2, hcz12_3⟩ := blk4 BK257.out
         obtain ⟨hfz12_0, hfz12_1, hfz12_2, hfz12_3⟩ := frz4 BK257.out
         go_wp2
         go_meet
         case rel => exact ⟨_, (decide (((rd_T35 l0 x20_1).f0) < (-1))), (by first | rfl | (simp; done) | (simp [*]; done) | (simp; decide +kernel)), H', ⟨by have := HK1.out; first | omega | exact Nat.le_refl _⟩, ⟨by (with_reducible repeat (first | refine blk_drewN ?_ _ | refine blk_drew ?_ | refine blk_alloc ?_ _)); refine blk_put (cs := #[.int .i64 ((rd_T35 l0 x20_1).f0), .int .i64 ((rd_T35 l0 x20_1).f1.f0), .int .i64 ((rd_T35 l0 x20_1).f1.f1), .int .i64 0]) ?_ 3 _ rfl; refine blk_put (cs := #[.int .i64 ((rd_T35 l0 x20_1).f0), .int .i64 ((rd_T35 l0 x20_1).f1.f0), .int .i64 0, .int .i64 0]) ?_ 2 _ rfl; refine blk_put (cs := #[.int .i64 ((rd_T35 l0 x20_1).f0), .int .i64 0, .int .i64 0, .int .i64 0]) ?_ 1 _ rfl; refine blk_put (cs := #[.int .i64 0, .int .i64 0, .int .i64 0, .int .i64 0]) ?_ 0 _ rfl; exact BK257.out⟩, ⟨by repeat (first | (with_reducible first | exact HB.out | apply below_alloc | apply pw_below_drewN | apply below_drew1 | refine below_set ?_ GE257.out) | exact HB.out)⟩⟩
       case rest =>
        clear HC7
        try clear c1; try clear p2; try clear q2; try clear hx2; try clear c3; try clear c3b0; try clear c3b1; try clear c4
        try clear c4b0; try clear c5; try clear c5b0; try clear c6; try clear c6b0; try clear c10; try clear c10b0; try clear hcz11_0
        try clear hcz11_1; try clear hcz11_2; try clear hcz11_3; try clear hcz12_0; try clear hcz12_1; try clear hcz12_2; try clear hcz12_3; try clear hcz9_0
        try clear hcz9_1; try clear hcz9_2; try clear hcz9_3; try clear hfz11_0; try clear hfz11_1; try clear hfz11_2; try clear hfz11_3; try clear hfz12_0
        try clear hfz12_1; try clear hfz12_2; try clear hfz12_3; try clear hfz9_0; try clear hfz9_1; try clear hfz9_2; try clear hfz9_3; try clear hx256_0
        try clear hx256_1; try clear hx256_2; try clear hx256_3; try clear p2; try clear p256; try clear q256
        obtain ⟨kq, x33_6, rfl, HA, HJ6, BK257, HB⟩ := hcut
        cases kq with
        | zero => exact absurd HA.out (by simp [tourref5_BonesFault.j1])
        | succ kj6 =>
         have H := HA.out
         clear HA
         simp only [tourref5_BonesFault.j1] at H
         by_cases c13 : x33_6 = true
         ·subst c13
          have H1 : (some 9) = some r := by rw [if_pos rfl] at H; exact H
          clear H
          have H := H1
          clear H1
          obtain rfl := Option.some.inj H
          go_wp2
          go_ret
          exact ⟨by first | rfl | (simp [errW_none, errW_some] <;> rfl) | (simp [*, errW_none, errW_some] <;> rfl), by repeat (first | (with_reducible first | exact HB.out | apply below_alloc | apply pw_below_drewN | apply below_drew1 | refine below_set ?_ GE257.out) | exact HB.out)⟩
         ·replace c13 := Bool.eq_false_iff.mpr c13
          subst c13
          have H1 : (tourref5_BonesFault.l1 kj6 l0 l1 l0 (l0.length : Int) x20_1 0 ((rd_T35 l0 x20_1).f1.f0) ((rd_T35 l0 x20_1).f1.f1) ((rd_T35 l0 x20_1).f1.f2)) = some r := by rw [if_neg (show ¬ (false = true) by decide)] at H; exact H
          clear H
          have H := H1
          clear H1
          have H' := Aside0.mk H
          clear H
          obtain ⟨hcz14_0, hcz14_1, hcz14_2, hcz14_3⟩ := blk4 BK257.out
          obtain ⟨hfz14_0, hfz14_1, hfz14_2, hfz14_3⟩ := frz4 BK257.out
          go_wp2
          go_loopg [36] kj6 (fun kq v36 w' => ∃ (x36_3 : Int), v36 = .int .i64 x36_3 ∧ Aside0 (tourref5_BonesFault.l1 kq l0 l1 l0 (l0.length : Int) x20_1 x36_3 ((rd_T35 l0 x20_1).f1.f0) ((rd_T35 l0 x20_1).f1.f1) ((rd_T35 l0 x20_1).f1.f2) = some r) ∧ Aside0 (kq ≤ kj6) ∧ Aside0 (w'.heap[gb257]? = some (.cells #[.int .i64 ((rd_T35 l0 x20_1).f0), .int .i64 ((rd_T35 l0 x20_1).f1.f0), .int .i64 ((rd_T35 l0 x20_1).f1.f1), .int .i64 ((rd_T35 l0 x20_1).f1.f2)] 35 (0, 0))) ∧ Aside0 (Below w.heap.size w w'))
          case atStart => exact ⟨(0), (by first | rfl | (simp; done) | (simp [*]; done) | (simp; decide +kernel)), H', ⟨Nat.le_refl _⟩, ⟨BK257.out⟩, ⟨by repeat (first | (with_reducible first | exact HB.out | apply below_alloc | apply pw_below_drewN | apply below_drew1 | refine below_set ?_ GE257.out) | exact HB.out)⟩⟩
          case round =>
           clear H'
           try clear c1; try clear p2; try clear q2; try clear hx2; try clear c3; try clear c3b0; try clear c3b1; try clear c4
           try clear c4b0; try clear c5; try clear c5b0; try clear c6; try clear c6b0; try clear c10; try clear c10b0; try clear c13
           try clear hcz11_0; try clear hcz11_1; try clear hcz11_2; try clear hcz11_3; try clear hcz12_0; try clear hcz12_1; try clear hcz12_2; try clear hcz12_3
           try clear hcz14_0; try clear hcz14_1; try clear hcz14_2; try clear hcz14_3; try clear hcz9_0; try clear hcz9_1; try clear hcz9_2; try clear hcz9_3
           try clear hfz11_0; try clear hfz11_1; try clear hfz11_2; try clear hfz11_3; try clear hfz12_0; try clear hfz12_1; try clear hfz12_2; try clear hfz12_3
           try clear hfz14_0; try clear hfz14_1; try clear hfz14_2; try clear hfz14_3; try clear hfz9_0; try clear hfz9_1; try clear hfz9_2; try clear hfz9_3
           try clear hx256_0; try clear hx256_1; try clear hx256_2; try clear hx256_3; try clear p2; try clear p256; try clear q2; try clear q256
           obtain ⟨x36_3, rfl, HA, HK3, BK257, HB⟩ := hrel
           cases gk with
           | zero => exact absurd HA.out (by simp [tourref5_BonesFault.l1])
           | succ k3 =>
            have H := HA.out
            clear HA
            simp only [tourref5_BonesFault.l1] at H
            by_cases c15 : x36_3 < 3
            ·rw [if_pos c15] at H
             have c15b0 : decide (x36_3 < 3) = true := decide_eq_true c15
             clear c15
             by_cases c16 : x36_3 = 0
             ·subst c16
              have H1 : (if ((rd_T35 l0 x20_1).f1.f0) < (-65536000) then (some 1) else (if ((rd_T35 l0 x20_1).f1.f0) > 65536000 then (some 1) else (tourref5_BonesFault.l1 k3 l0 l1 l0 (l0.length : Int) x20_1 (wrap64 (0 + 1)) ((rd_T35 l0 x20_1).f1.f0) ((rd_T35 l0 x20_1).f1.f1) ((rd_T35 l0 x20_1).f1.f2)))) = some r := by rw [if_pos rfl] at H; exact H
              clear H
              have H := H1
              clear H1
              by_cases c17 : ((rd_T35 l0 x20_1).f1.f0) < (-65536000)
              ·rw [if_pos c17] at H
               have c17b0 : decide (((rd_T35 l0 x20_1).f1.f0) < (-65536000)) = true := decide_eq_true c17
               clear c17
               obtain rfl := Option.some.inj H
               go_wp2
               go_ret
               exact ⟨by first | rfl | (simp [errW_none, errW_some] <;> rfl) | (simp [*, errW_none, errW_some] <;> rfl), by repeat (first | (with_reducible first | exact HB.out | apply below_alloc | apply pw_below_drewN | apply below_drew1 | refine below_set ?_ GE257.out) | exact HB.out)⟩
              ·rw [if_neg c17] at H
               have c17b0 : decide (((rd_T35 l0 x20_1).f1.f0) < (-65536000)) = false := decide_eq_false c17
               clear c17
               by_cases c18 : ((rd_T35 l0 x20_1).f1.f0) > 65536000
               ·rw [if_pos c18] at H
                have c18b0 : decide (65536000 < ((rd_T35 l0 x20_1).f1.f0)) = true := decide_eq_true c18
                clear c18
                obtain rfl := Option.some.inj H
                go_wp2
                go_ret
                exact ⟨by first | rfl | (simp [errW_none, errW_some] <;> rfl) | (simp [*, errW_none, errW_some] <;> rfl), by repeat (first | (with_reducible first | exact HB.out | apply below_alloc | apply pw_below_drewN | apply below_drew1 | refine below_set ?_ GE257.out) | exact HB.out)⟩
               ·rw [if_neg c18] at H
                have c18b0 : decide (65536000 < ((rd_T35 l0 x20_1).f1.f0)) = false := decide_eq_false c18
                clear c18
                have H' := Aside0.mk H
                clear H
                go_wp2
                go_roundg k3
                case measure => have := HK1.out; have := HJ6.out; have := HK3.out; omega
                case rel => exact ⟨(wrap64 (0 + 1)), (by first | rfl | (simp; done) | (simp [*]; done) | (simp; decide +kernel)), H', ⟨by have := HK1.out; have := HJ6.out; have := HK3.out; omega⟩, ⟨BK257.out⟩, ⟨by repeat (first | (with_reducible first | exact HB.out | apply below_alloc | apply pw_below_drewN | apply below_drew1 | refine below_set ?_ GE257.out) | exact HB.out)⟩⟩
             ·rw [if_neg c16] at H
              by_cases c19 : x36_3 = 1
              ·subst c19
               have H1 : (if ((rd_T35 l0 x20_1).f1.f1) < (-65536000) then (some 1) else (if ((rd_T35 l0 x20_1).f1.f1) > 65536000 then (some 1) else (tourref5_BonesFault.l1 k3 l0 l1 l0 (l0.length : Int) x20_1 (wrap64 (1 + 1)) ((rd_T35 l0 x20_1).f1.f0) ((rd_T35 l0 x20_1).f1.f1) ((rd_T35 l0 x20_1).f1.f2)))) = some r := by rw [if_pos rfl] at H; exact H
               clear H
               have H := H1
               clear H1
               by_cases c20 : ((rd_T35 l0 x20_1).f1.f1) < (-65536000)
               ·rw [if_pos c20] at H
                have c20b0 : decide (((rd_T35 l0 x20_1).f1.f1) < (-65536000)) = true := decide_eq_true c20
                clear c20
                obtain rfl := Option.some.inj H
                go_wp2
                go_ret
                exact ⟨by first | rfl | (simp [errW_none, errW_some] <;> rfl) | (simp [*, errW_none, errW_some] <;> rfl), by repeat (first | (with_reducible first | exact HB.out | apply below_alloc | apply pw_below_drewN | apply below_drew1 | refine below_set ?_ GE257.out) | exact HB.out)⟩
               ·rw [if_neg c20] at H
                have c20b0 : decide (((rd_T35 l0 x20_1).f1.f1) < (-65536000)) = false := decide_eq_false c20
                clear c20
                by_cases c21 : ((rd_T35 l0 x20_1).f1.f1) > 65536000
                ·rw [if_pos c21] at H
                 have c21b0 : decide (65536000 < ((rd_T35 l0 x20_1).f1.f1)) = true := decide_eq_true c21
                 clear c21
                 obtain rfl := Option.some.inj H
                 go_wp2
                 go_ret
                 exact ⟨by first | rfl | (simp [errW_none, errW_some] <;> rfl) | (simp [*, errW_none, errW_some] <;> rfl), by repeat (first | (with_reducible first | exact HB.out | apply below_alloc | apply pw_below_drewN | apply below_drew1 | refine below_set ?_ GE257.out) | exact HB.out)⟩
                ·rw [if_neg c21] at H
                 have c21b0 : decide (65536000 < ((rd_T35 l0 x20_1).f1.f1)) = false := decide_eq_false c21
                 clear c21
                 have H' := Aside0.mk H
                 clear H
                 go_wp2
                 go_roundg k3
                 case measure => have := HK1.out; have := HJ6.out; have := HK3.out; omega
                 case rel => exact ⟨(wrap64 (1 + 1)), (by first | rfl | (simp; done) | (simp [*]; done) | (simp; decide +kernel)), H', ⟨by have := HK1.out; have := HJ6.out; have := HK3.out; omega⟩, ⟨BK257.out⟩, ⟨by repeat (first | (with_reducible first | exact HB.out | apply below_alloc | apply pw_below_drewN | apply below_drew1 | refine below_set ?_ GE257.out) | exact HB.out)⟩⟩
              ·rw [if_neg c19] at H
               by_cases c22 : x36_3 = 2
               ·subst c22
                have H1 : (if ((rd_T35 l0 x20_1).f1.f2) < (-65536000) then (some 1) else (if ((rd_T35 l0 x20_1).f1.f2) > 65536000 then (some 1) else (tourref5_BonesFault.l1 k3 l0 l1 l0 (l0.length : Int) x20_1 (wrap64 (2 + 1)) ((rd_T35 l0 x20_1).f1.f0) ((rd_T35 l0 x20_1).f1.f1) ((rd_T35 l0 x20_1).f1.f2)))) = some r := by rw [if_pos rfl] at H; exact H
                clear H
                have H := H1
                clear H1
                by_cases c23 : ((rd_T35 l0 x20_1).f1.f2) < (-65536000)
                ·rw [if_pos c23] at H
                 have c23b0 : decide (((rd_T35 l0 x20_1).f1.f2) < (-65536000)) = true := decide_eq_true c23
                 clear c23
                 obtain rfl := Option.some.inj H
                 go_wp2
                 go_ret
                 exact ⟨by first | rfl | (simp [errW_none, errW_some] <;> rfl) | (simp [*, errW_none, errW_some] <;> rfl), by repeat (first | (with_reducible first | exact HB.out | apply below_alloc | apply pw_below_drewN | apply below_drew1 | refine below_set ?_ GE257.out) | exact HB.out)⟩
                ·rw [if_neg c23] at H
                 have c23b0 : decide (((rd_T35 l0 x20_1).f1.f2) < (-65536000)) = false := decide_eq_false c23
                 clear c23
                 by_cases c24 : ((rd_T35 l0 x20_1).f1.f2) > 65536000
                 ·rw [if_pos c24] at H
                  have c24b0 : decide (65536000 < ((rd_T35 l0 x20_1).f1.f2)) = true := decide_eq_true c24
                  clear c24
                  obtain rfl := Option.some.inj H
                  go_wp2
                  go_ret
                  exact ⟨by first | rfl | (simp [errW_none, errW_some] <;> rfl) | (simp [*, errW_none, errW_some] <;> rfl), by repeat (first | (with_reducible first | exact HB.out | apply below_alloc | apply pw_below_drewN | apply below_drew1 | refine below_set ?_ GE257.out) | exact HB.out)⟩
                 ·rw [if_neg c24] at H
                  have c24b0 : decide (65536000 < ((rd_T35 l0 x20_1).f1.f2)) = false := decide_eq_false c24
                  clear c24
                  have H' := Aside0.mk H
                  clear H
                  go_wp2
                  go_roundg k3
                  case measure => have := HK1.out; have := HJ6.out; have := HK3.out; omega
                  case rel => exact ⟨(wrap64 (2 + 1)), (by first | rfl | (simp; done) | (simp [*]; done) | (simp; decide +kernel)), H', ⟨by have := HK1.out; have := HJ6.out; have := HK3.out; omega⟩, ⟨BK257.out⟩, ⟨by repeat (first | (with_reducible first | exact HB.out | apply below_alloc | apply pw_below_drewN | apply below_drew1 | refine below_set ?_ GE257.out) | exact HB.out)⟩⟩
               ·rw [if_neg c22] at H
                exact absurd H (by simp)
            ·rw [if_neg c15] at H
             have c15b0 : decide (x36_3 < 3) = false := decide_eq_false c15
             clear c15
             have H' := Aside0.mk H
             clear H
             go_wp2
             go_roundg k3
             case measure => have := HK1.out; have := HJ6.out; have := HK3.out; omega
             case rel => exact ⟨(wrap64 (x20_1 + 1)), (by first | rfl | (simp; done) | (simp [*]; done) | (simp; decide +kernel)), H', ⟨by have := HK1.out; have := HJ6.out; have := HK3.out; omega⟩, ⟨by repeat (first | (with_reducible first | exact HB.out | apply below_alloc | apply pw_below_drewN | apply below_drew1 | refine below_set ?_ GE257.out) | exact HB.out)⟩⟩
      ·rw [if_neg c6] at H
       exact absurd H (by simp)
     ·rw [if_neg c5] at H
      exact absurd H (by simp)
    ·rw [if_neg c4] at H
     have c4b0 : decide (x20_1 < (l0.length : Int)) = false := decide_eq_false c4
     clear c4
     have H' := Aside0.mk H
     clear H
     go_wp2
     go_loopg [49] k1 (fun kq v49 w' => ∃ (x49_2 : Int), v49 = .int .i64 x49_2 ∧ Aside0 (tourref5_BonesFault.l2 kq l0 l1 (l1.length : Int) x49_2 = some r) ∧ Aside0 (kq ≤ k1) ∧ Aside0 (Below w.heap.size w w'))
     case atStart => exact ⟨(0), (by first | rfl | (simp; done) | (simp [*]; done) | (simp; decide +kernel)), H', ⟨Nat.le_refl _⟩, ⟨by repeat (first | (with_reducible first | exact HB.out | apply below_alloc | apply pw_below_drewN | apply below_drew1) | exact HB.out)⟩⟩
     case round =>
      clear H'
      try clear c1; try clear c2; try clear p2; try clear q2; try clear hx2; try clear c3; try clear c3b0; try clear c3b1
      try clear c4; try clear c4b0; try clear c5; try clear c5b0; try clear c6; try clear c6b0; try clear p6; try clear c10
      try clear c10b0; try clear c13; try clear c15; try clear c15b0; try clear c16; try clear c17; try clear c17b0; try clear c18
      try clear c18b0; try clear c19; try clear c20; try clear c20b0; try clear c21; try clear c21b0; try clear c22; try clear c23
      try clear c23b0; try clear c24; try clear c24b0; try clear hcz11_0; try clear hcz11_1; try clear hcz11_2; try clear hcz11_3; try clear hcz12_0
      try clear hcz12_1; try clear hcz12_2; try clear hcz12_3; try clear hcz14_0; try clear hcz14_1; try clear hcz14_2; try clear hcz14_3; try clear hcz9_0
      try clear hcz9_1; try clear hcz9_2; try clear hcz9_3; try clear hfz11_0; try clear hfz11_1; try clear hfz11_2; try clear hfz11_3; try clear hfz12_0
      try clear hfz12_1; try clear hfz12_2; try clear hfz12_3; try clear hfz14_0; try clear hfz14_1; try clear hfz14_2; try clear hfz14_3; try clear hfz9_0
      try clear hfz9_1; try clear hfz9_2; try clear hfz9_3; try clear hx256_0; try clear hx256_1; try clear hx256_2; try clear hx256_3; try clear p2
      try clear p256; try clear q2; try clear q256
      obtain ⟨x49_2, rfl, HA, HK2, HB⟩ := hrel
      cases gk with
      | zero => exact absurd HA.out (by simp [tourref5_BonesFault.l2])
      | succ k2 =>
       have H := HA.out
       clear HA
       simp only [tourref5_BonesFault.l2] at H
       by_cases c25 : x49_2 < (l1.length : Int)
       ·rw [if_pos c25] at H
        have c25b0 : decide (x49_2 < (l1.length : Int)) = true := decide_eq_true c25
        clear c25
        by_cases c26 : 0 ≤ x49_2
        ·rw [if_pos c26] at H
         have c26b0 : decide (0 ≤ x49_2) = true := decide_eq_true c26
         clear c26
         by_cases c27 : x49_2 < (l1.length : Int)
         ·rw [if_pos c27] at H
          have c27b0 : decide (x49_2 < (l1.length : Int)) = true := decide_eq_true c27
          clear c27
          by_cases c28 : ((rd_L5 l1 x49_2).length : Int) = (l0.length : Int)
          ·rw [if_pos c28] at H
           have c28b0 : (((rd_L5 l1 x49_2).length : Int) == (l0.length : Int)) = true := beq_iff_eq.mpr c28
           have c28b1 : (((rd_L5 l1 x49_2).length : Int) != (l0.length : Int)) = false := bne_eq_false_iff_eq.mpr c28
           have c28b2 : ((rd_L5 l1 x49_2).length == l0.length) = true := by first | simpa using c28 | (simp at c28 ⊢; omega)
           clear c28
           have H' := Aside0.mk H
           clear H
           have p258 : 0 ≤ (x49_2 : Int) := of_decide_eq_true (by first | (with_reducible assumption) | assumption)
           have q258 : x49_2 < (l1.length : Int) := of_decide_eq_true (by first | (with_reducible assumption) | assumption)
           obtain ⟨ad258, A258_0, c258_0, e258, hx258_0, hl258_0, hi258_0⟩ := at_L5 HR1.out x49_2 p258 q258
           cases e258
           replace hx258_0 := (HB.out.cell (World.block_lt_of_cell? w _ hx258_0)).trans hx258_0
           have HR258_0 := Aside0.mk hi258_0
           have HC258_0 := Aside0.mk hl258_0
           clear hi258_0 hl258_0
           replace p258 := eq_true p258
           replace q258 := eq_true q258
           go_wp2
           go_loopg [60] k2 (fun kq v60 w' => ∃ (x60_3 : Int), v60 = .int .i64 x60_3 ∧ Aside0 (tourref5_BonesFault.l3 kq l0 l1 (l1.length : Int) x49_2 (rd_L5 l1 x49_2) ((rd_L5 l1 x49_2).length : Int) x60_3 = some r) ∧ Aside0 (kq ≤ k2) ∧ Aside0 (Below w.heap.size w w'))
           case atStart => exact ⟨(0), (by first | rfl | (simp; done) | (simp [*]; done) | (simp; decide +kernel)), H', ⟨Nat.le_refl _⟩, ⟨by repeat (first | (with_reducible first | exact HB.out | apply below_alloc | apply pw_below_drewN | apply below_drew1) | exact HB.out)⟩⟩
           case round =>
            clear H'
            try clear c1; try clear c2; try clear p2; try clear q2; try clear hx2; try clear c3; try clear c3b0; try clear c3b1
            try clear c4; try clear c4b0; try clear c5; try clear c5b0; try clear c6; try clear c6b0; try clear p6; try clear c10
            try clear c10b0; try clear c13; try clear c15; try clear c15b0; try clear c16; try clear c17; try clear c17b0; try clear c18
            try clear c18b0; try clear c19; try clear c20; try clear c20b0; try clear c21; try clear c21b0; try clear c22; try clear c23
            try clear c23b0; try clear c24; try clear c24b0; try clear c25; try clear c25b0; try clear p25; try clear q25; try clear hx25
            try clear c26; try clear c26b0; try clear c27; try clear c27b0; try clear c28; try clear c28b0; try clear c28b1; try clear c28b2
            try clear hcz11_0; try clear hcz11_1; try clear hcz11_2; try clear hcz11_3; try clear hcz12_0; try clear hcz12_1; try clear hcz12_2; try clear hcz12_3
            try clear hcz14_0; try clear hcz14_1; try clear hcz14_2; try clear hcz14_3; try clear hcz9_0; try clear hcz9_1; try clear hcz9_2; try clear hcz9_3
            try clear hfz11_0; try clear hfz11_1; try clear hfz11_2; try clear hfz11_3; try clear hfz12_0; try clear hfz12_1; try clear hfz12_2; try clear hfz12_3
            try clear hfz14_0; try clear hfz14_1; try clear hfz14_2; try clear hfz14_3; try clear hfz9_0; try clear hfz9_1; try clear hfz9_2; try clear hfz9_3
            try clear hx256_0; try clear hx256_1; try clear hx256_2; try clear hx256_3; try clear hx258_0; try clear p2; try clear p256; try clear p258
            try clear p6; try clear q2; try clear q256; try clear q258
            obtain ⟨x60_3, rfl, HA, HK3, HB⟩ := hrel
            cases gk with
            | zero => exact absurd HA.out (by simp [tourref5_BonesFault.l3])
            | succ k3 =>
             have H := HA.out
             clear HA
             simp only [tourref5_BonesFault.l3] at H
             by_cases c29 : x60_3 < ((rd_L5 l1 x49_2).length : Int)
             ·rw [if_pos c29] at H
              have c29b0 : decide (x60_3 < ((rd_L5 l1 x49_2).length : Int)) = true := decide_eq_true c29
              clear c29
              by_cases c30 : 0 ≤ x60_3
              ·rw [if_pos c30] at H
               have c30b0 : decide (0 ≤ x60_3) = true := decide_eq_true c30
               clear c30
               by_cases c31 : x60_3 < ((rd_L5 l1 x49_2).length : Int)
               ·rw [if_pos c31] at H
                have c31b0 : decide (x60_3 < ((rd_L5 l1 x49_2).length : Int)) = true := decide_eq_true c31
                clear c31
                obtain ⟨y261, hy261⟩ : ∃ y_ : List Int, y_ = (([(rd_T37 (rd_L5 l1 x49_2) x60_3).f0, (rd_T37 (rd_L5 l1 x49_2) x60_3).f1, (rd_T37 (rd_L5 l1 x49_2) x60_3).f2, (rd_T37 (rd_L5 l1 x49_2) x60_3).f3] : List Int)) := ⟨_, rfl⟩
                replace H : (tourref5_BonesFault.l4 k3 l0 l1 (l1.length : Int) x49_2 (rd_L5 l1 x49_2) ((rd_L5 l1 x49_2).length : Int) x60_3 y261 (y261.length : Int) 0) = some r := by first | (rw [hy261]; with_reducible exact H) | (have H2_ := (Option.bind_some _ _).symm.trans H; rw [hy261]; with_reducible exact H2_) | (have H2_ := (Option.bind_some _ _).symm.trans H; with_reducible exact H2_) | with_reducible exact H | (rw [hy261]; exact H) | exact H
                have Ny261 := Aside0.mk hy261
                clear hy261
                have H' := Aside0.mk H
                clear H
                have p259 : 0 ≤ (x60_3 : Int) := of_decide_eq_true (by first | (with_reducible assumption) | assumption)
                have q259 : x60_3 < ((rd_L5 l1 x49_2).length : Int) := of_decide_eq_true (by first | (with_reducible assumption) | assumption)
                obtain ⟨ad259, e259, hx259_0, hx259_1, hx259_2, hx259_3⟩ := at_T37 HR258_0.out x60_3 p259 q259
                cases e259
                replace hx259_0 := (HB.out.cell (World.block_lt_of_cell? w _ hx259_0)).trans hx259_0
                replace hx259_1 := (HB.out.cell (World.block_lt_of_cell? w _ hx259_1)).trans hx259_1
                replace hx259_2 := (HB.out.cell (World.block_lt_of_cell? w _ hx259_2)).trans hx259_2
                replace hx259_3 := (HB.out.cell (World.block_lt_of_cell? w _ hx259_3)).trans hx259_3
                replace p259 := eq_true p259
                replace q259 := eq_true q259
                go_wp2_with (first | ((with_reducible refine gate_dst (N := 12) rfl ?_); refine box_event ?hg (N := 12) ?hd (cs := #[.int .i64 0, .int .i64 0, .int .i64 0, .int .i64 0]) (t := 37) ?hr ?_; (case hd => rfl); (case hg => rfl); (case hr => first | (go_simp; done) | (go_simp; rfl)); intro gb260 hg w32 hbox hb; have n0_ := Aside0.mk (below_step (by repeat (first | (with_reducible first | exact HB.out | apply below_alloc | apply pw_below_drewN | apply below_drew1) | exact HB.out)) hb); have n1_ := Aside0.mk (hbox); have n2_ := Aside0.mk ((by rw [hg]; exact (below_size (by repeat (first | (with_reducible first | exact HB.out | apply below_alloc | apply pw_below_drewN | apply below_drew1) | exact HB.out))) : w.heap.size ≤ gb260)); have n3_ := Aside0.mk ((by rw [hg]; exact (below_size (by repeat (first | (with_reducible first | exact HB.out | apply below_alloc | apply pw_below_drewN | apply below_drew1) | exact HB.out))) : w.heap.size ≤ gb260)); clear HB; have HB := n0_; have BK260 := n1_; have GW260 := n2_; have GE260 := n3_; clear n0_ n1_ n2_ n3_; clear hb hbox hg; obtain ⟨hcz33_0, hcz33_1, hcz33_2, hcz33_3⟩ := blk4 BK260.out; obtain ⟨hfz33_0, hfz33_1, hfz33_2, hfz33_3⟩ := frz4 BK260.out) | ((with_reducible refine gate_dst (N := 72) rfl ?_); refine Kd.R_lit (Kd.int .i64) _ 3 ?hg (N := 72) ?hd (xs := ([(rd_T37 (rd_L5 l1 x49_2) x60_3).f0, (rd_T37 (rd_L5 l1 x49_2) x60_3).f1, (rd_T37 (rd_L5 l1 x49_2) x60_3).f2, (rd_T37 (rd_L5 l1 x49_2) x60_3).f3] : List Int)) (inner := [.int .i64 ((rd_T37 (rd_L5 l1 x49_2) x60_3).f0), .int .i64 ((rd_T37 (rd_L5 l1 x49_2) x60_3).f1), .int .i64 ((rd_T37 (rd_L5 l1 x49_2) x60_3).f2), .int .i64 ((rd_T37 (rd_L5 l1 x49_2) x60_3).f3)]) (ok := fun _ => True) (okp := fun _ => True) ?hr ?hp (fun _ hk => hk) trivial (Below.refl _ _) (Nat.le_refl _) (by simp) ?_; (case hd => rfl); (case hg => rfl); (case hr => first | (go_simp; done) | (go_simp; rfl)); (case hp => exact (Reps.one (show Kd.M (Kd.int .i64) _ _ _ ((rd_T37 (rd_L5 l1 x49_2) x60_3).f0) [.int .i64 ((rd_T37 (rd_L5 l1 x49_2) x60_3).f0)] from rfl) (Reps.one (show Kd.M (Kd.int .i64) _ _ _ ((rd_T37 (rd_L5 l1 x49_2) x60_3).f1) [.int .i64 ((rd_T37 (rd_L5 l1 x49_2) x60_3).f1)] from rfl) (Reps.one (show Kd.M (Kd.int .i64) _ _ _ ((rd_T37 (rd_L5 l1 x49_2) x60_3).f2) [.int .i64 ((rd_T37 (rd_L5 l1 x49_2) x60_3).f2)] from rfl) (Reps.one (show Kd.M (Kd.int .i64) _ _ _ ((rd_T37 (rd_L5 l1 x49_2) x60_3).f3) [.int .i64 ((rd_T37 (rd_L5 l1 x49_2) x60_3).f3)] from rfl) (Reps.none _ _)))))); intro v262 w34 ho35 hb hg_ hnew_; clear hg_ hnew_; (first | rw [← Ny261.out] at ho35 | (simp only [Int.reduceToNat] at ho35; rw [← Ny261.out] at ho35)); have n0_ := Aside0.mk (Kd.R_lower ho35 (below_size (by repeat (first | (with_reducible first | exact HB.out | apply below_alloc | apply pw_below_drewN | apply below_drew1 | refine below_set ?_ GE260.out) | exact HB.out)))); have n1_ := Aside0.mk (blk_below (g := gb260) (o := .cells #[.int .i64 ((rd_T37 (rd_L5 l1 x49_2) x60_3).f0), .int .i64 ((rd_T37 (rd_L5 l1 x49_2) x60_3).f1), .int .i64 ((rd_T37 (rd_L5 l1 x49_2) x60_3).f2), .int .i64 ((rd_T37 (rd_L5 l1 x49_2) x60_3).f3)] 37 (0, 0)) (by (with_reducible repeat (first | refine blk_drewN ?_ _ | refine blk_drew ?_ | refine blk_alloc ?_ _)); refine blk_put (cs := #[.int .i64 ((rd_T37 (rd_L5 l1 x49_2) x60_3).f0), .int .i64 ((rd_T37 (rd_L5 l1 x49_2) x60_3).f1), .int .i64 ((rd_T37 (rd_L5 l1 x49_2) x60_3).f2), .int .i64 0]) ?_ 3 _ rfl; refine blk_put (cs := #[.int .i64 ((rd_T37 (rd_L5 l1 x49_2) x60_3).f0), .int .i64 ((rd_T37 (rd_L5 l1 x49_2) x60_3).f1), .int .i64 0, .int .i64 0]) ?_ 2 _ rfl; refine blk_put (cs := #[.int .i64 ((rd_T37 (rd_L5 l1 x49_2) x60_3).f0), .int .i64 0, .int .i64 0, .int .i64 0]) ?_ 1 _ rfl; refine blk_put (cs := #[.int .i64 0, .int .i64 0, .int .i64 0, .int .i64 0]) ?_ 0 _ rfl; exact BK260.out) hb); have n2_ := Aside0.mk (below_step (by repeat (first | (with_reducible first | exact HB.out | apply below_alloc | apply pw_below_drewN | apply below_drew1 | refine below_set ?_ GE260.out) | exact HB.out)) hb); clear BK260; clear HB; have HO263 := n0_; have BK260 := n1_; have HB := n2_; clear n0_ n1_ n2_; clear hb ho35; obtain ⟨Ao36, co36, eo36⟩ := Kd.R_slice HO263.out; subst eo36))
                go_loopg [74] k3 (fun kq v74 w' => ∃ (x74_4 : Int), v74 = .int .i64 x74_4 ∧ Aside0 (tourref5_BonesFault.l4 kq l0 l1 (l1.length : Int) x49_2 (rd_L5 l1 x49_2) ((rd_L5 l1 x49_2).length : Int) x60_3 y261 (y261.length : Int) x74_4 = some r) ∧ Aside0 (kq ≤ k3) ∧ Aside0 (Kd.R (Kd.int .i64) 3 w' w.heap.size (fun _ => True) (.slice Ao36 y261.length co36) y261) ∧ Aside0 (w'.heap[gb260]? = some (.cells #[.int .i64 ((rd_T37 (rd_L5 l1 x49_2) x60_3).f0), .int .i64 ((rd_T37 (rd_L5 l1 x49_2) x60_3).f1), .int .i64 ((rd_T37 (rd_L5 l1 x49_2) x60_3).f2), .int .i64 ((rd_T37 (rd_L5 l1 x49_2) x60_3).f3)] 37 (0, 0))) ∧ Aside0 (Below w.heap.size w w'))
                case atStart => exact ⟨(0), (by first | rfl | (simp; done) | (simp [*]; done) | (simp; decide +kernel)), H', ⟨Nat.le_refl _⟩, ⟨by (with_reducible repeat (first | apply Kd.R_alloc | apply Kd.R_drewN | apply Kd.R_drew)); exact HO263.out⟩, ⟨BK260.out⟩, ⟨by repeat (first | (with_reducible first | exact HB.out | apply below_alloc | apply pw_below_drewN | apply below_drew1 | refine below_set ?_ GE260.out) | exact HB.out)⟩⟩
                case round =>
                 clear H'
                 try clear c1; try clear c2; try clear p2; try clear q2; try clear hx2; try clear c3; try clear c3b0; try clear c3b1
                 try clear c4; try clear c4b0; try clear c5; try clear c5b0; try clear c6; try clear c6b0; try clear p6; try clear c10
                 try clear c10b0; try clear c13; try clear c15; try clear c15b0; try clear c16; try clear c17; try clear c17b0; try clear c18
                 try clear c18b0; try clear c19; try clear c20; try clear c20b0; try clear c21; try clear c21b0; try clear c22; try clear c23
                 try clear c23b0; try clear c24; try clear c24b0; try clear c25; try clear c25b0; try clear p25; try clear q25; try clear hx25
                 try clear c26; try clear c26b0; try clear c27; try clear c27b0; try clear c28; try clear c28b0; try clear c28b1; try clear c28b2
                 try clear c29; try clear c29b0; try clear c30; try clear c30b0; try clear c31; try clear c31b0; try clear hcz11_0; try clear hcz11_1
                 try clear hcz11_2; try clear hcz11_3; try clear hcz12_0; try clear hcz12_1; try clear hcz12_2; try clear hcz12_3; try clear hcz14_0; try clear hcz14_1
                 try clear hcz14_2; try clear hcz14_3; try clear hcz33_0; try clear hcz33_1; try clear hcz33_2; try clear hcz33_3; try clear hcz9_0; try clear hcz9_1
                 try clear hcz9_2; try clear hcz9_3; try clear hfz11_0; try clear hfz11_1; try clear hfz11_2; try clear hfz11_3; try clear hfz12_0; try clear hfz12_1
                 try clear hfz12_2; try clear hfz12_3; try clear hfz14_0; try clear hfz14_1; try clear hfz14_2; try clear hfz14_3; try clear hfz33_0; try clear hfz33_1
                 try clear hfz33_2; try clear hfz33_3; try clear hfz9_0; try clear hfz9_1; try clear hfz9_2; try clear hfz9_3; try clear hx256_0; try clear hx256_1
                 try clear hx256_2; try clear hx256_3; try clear hx258_0; try clear hx259_0; try clear hx259_1; try clear hx259_2; try clear hx259_3; try clear p2
                 try clear p25; try clear p256; try clear p258; try clear p259; try clear p6; try clear q2; try clear q25; try clear q256
                 try clear q258; try clear q259
                 obtain ⟨x74_4, rfl, HA, HK4, HO_72, BK260, HB⟩ := hrel
                 cases gk with
                 | zero => exact absurd HA.out (by simp [tourref5_BonesFault.l4])
                 | succ k4 =>
                  have H := HA.out
                  clear HA
                  simp only [tourref5_BonesFault.l4] at H
                  by_cases c37 : x74_4 < (y261.length : Int)
                  ·rw [if_pos c37] at H
                   have c37b0 : decide (x74_4 < (y261.length : Int)) = true := decide_eq_true c37
                   clear c37
                   by_cases c38 : 0 ≤ x74_4
                   ·rw [if_pos c38] at H
                    have c38b0 : decide (0 ≤ x74_4) = true := decide_eq_true c38
                    clear c38
                    by_cases c39 : x74_4 < (y261.length : Int)
                    ·rw [if_pos c39] at H
                     have c39b0 : decide (x74_4 < (y261.length : Int)) = true := decide_eq_true c39
                     clear c39
                     by_cases c40 : (rd y261 x74_4) < (-131072)
                     ·rw [if_pos c40] at H
                      have c40b0 : decide ((rd y261 x74_4) < (-131072)) = true := decide_eq_true c40
                      clear c40
                      obtain rfl := Option.some.inj H
                      have p264 : 0 ≤ (x74_4 : Int) := of_decide_eq_true (by first | (with_reducible assumption) | assumption)
                      have q264 : x74_4 < (y261.length : Int) := of_decide_eq_true (by first | (with_reducible assumption) | assumption)
                      obtain ⟨ad264, e264, hx264_0⟩ := Kd.at_int (Kd.R_reads' HO_72.out).2.2 x74_4 p264 q264
                      cases e264
                      replace p264 := eq_true p264
                      replace q264 := eq_true q264
                      go_wp2
                      go_ret
                      exact ⟨by first | rfl | (simp [errW_none, errW_some] <;> rfl) | (simp [*, errW_none, errW_some] <;> rfl), by repeat (first | (with_reducible first | exact HB.out | apply below_alloc | apply pw_below_drewN | apply below_drew1 | refine below_set ?_ GE260.out) | exact HB.out)⟩
                     ·rw [if_neg c40] at H
                      have c40b0 : decide ((rd y261 x74_4) < (-131072)) = false := decide_eq_false c40
                      clear c40
                      by_cases c41 : (rd y261 x74_4) > 131072
                      ·rw [if_pos c41] at H
                       have c41b0 : decide (131072 < (rd y261 x74_4)) = true := decide_eq_true c41
                       clear c41
                       obtain rfl := Option.some.inj H
                       have p264 : 0 ≤ (x74_4 : Int) := of_decide_eq_true (by first | (with_reducible assumption) | assumption)
                       have q264 : x74_4 < (y261.length : Int) := of_decide_eq_true (by first | (with_reducible assumption) | assumption)
                       obtain ⟨ad264, e264, hx264_0⟩ := Kd.at_int (Kd.R_reads' HO_72.out).2.2 x74_4 p264 q264
                       cases e264
                       replace p264 := eq_true p264
                       replace q264 := eq_true q264
                       go_wp2
                       go_ret
                       exact ⟨by first | rfl | (simp [errW_none, errW_some] <;> rfl) | (simp [*, errW_none, errW_some] <;> rfl), by repeat (first | (with_reducible first | exact HB.out | apply below_alloc | apply pw_below_drewN | apply below_drew1 | refine below_set ?_ GE260.out) | exact HB.out)⟩
                      ·rw [if_neg c41] at H
                       have c41b0 : decide (131072 < (rd y261 x74_4)) = false := decide_eq_false c41
                       clear c41
                       have H' := Aside0.mk H
                       clear H
                       have p264 : 0 ≤ (x74_4 : Int) := of_decide_eq_true (by first | (with_reducible assumption) | assumption)
                       have q264 : x74_4 < (y261.length : Int) := of_decide_eq_true (by first | (with_reducible assumption) | assumption)
                       obtain ⟨ad264, e264, hx264_0⟩ := Kd.at_int (Kd.R_reads' HO_72.out).2.2 x74_4 p264 q264
                       cases e264
                       replace p264 := eq_true p264
                       replace q264 := eq_true q264
                       go_wp2
                       go_roundg k4
                       case measure => have := HK1.out; have := HK2.out; have := HK3.out; have := HK4.out; omega
                       case rel => exact ⟨(wrap64 (x74_4 + 1)), (by first | rfl | (simp; done) | (simp [*]; done) | (simp; decide +kernel)), H', ⟨by have := HK1.out; have := HK2.out; have := HK3.out; have := HK4.out; omega⟩, ⟨by (with_reducible repeat (first | apply Kd.R_alloc | apply Kd.R_drewN | apply Kd.R_drew)); exact HO_72.out⟩, ⟨BK260.out⟩, ⟨by repeat (first | (with_reducible first | exact HB.out | apply below_alloc | apply pw_below_drewN | apply below_drew1 | refine below_set ?_ GE260.out) | exact HB.out)⟩⟩
                    ·rw [if_neg c39] at H
                     exact absurd H (by simp)
                   ·rw [if_neg c38] at H
                    exact absurd H (by simp)
                  ·rw [if_neg c37] at H
                   have c37b0 : decide (x74_4 < (y261.length : Int)) = false := decide_eq_false c37
                   clear c37
                   have H' := Aside0.mk H
                   clear H
                   go_wp2
                   go_roundg k4
                   case measure => have := HK1.out; have := HK2.out; have := HK3.out; have := HK4.out; omega
                   case rel => exact ⟨(wrap64 (x60_3 + 1)), (by first | rfl | (simp; done) | (simp [*]; done) | (simp; decide +kernel)), H', ⟨by have := HK1.out; have := HK2.out; have := HK3.out; have := HK4.out; omega⟩, ⟨by repeat (first | (with_reducible first | exact HB.out | apply below_alloc | apply pw_below_drewN | apply below_drew1 | refine below_set ?_ GE260.out) | exact HB.out)⟩⟩
               ·rw [if_neg c31] at H
                exact absurd H (by simp)
              ·rw [if_neg c30] at H
               exact absurd H (by simp)
             ·rw [if_neg c29] at H
              have c29b0 : decide (x60_3 < ((rd_L5 l1 x49_2).length : Int)) = false := decide_eq_false c29
              clear c29
              have H' := Aside0.mk H
              clear H
              go_wp2
              go_roundg k3
              case measure => have := HK1.out; have := HK2.out; have := HK3.out; omega
              case rel => exact ⟨(wrap64 (x49_2 + 1)), (by first | rfl | (simp; done) | (simp [*]; done) | (simp; decide +kernel)), H', ⟨by have := HK1.out; have := HK2.out; have := HK3.out; omega⟩, ⟨by repeat (first | (with_reducible first | exact HB.out | apply below_alloc | apply pw_below_drewN | apply below_drew1) | exact HB.out)⟩⟩
          ·rw [if_neg c28] at H
           have c28b0 : (((rd_L5 l1 x49_2).length : Int) == (l0.length : Int)) = false := beq_eq_false_iff_ne.mpr c28
           have c28b1 : (((rd_L5 l1 x49_2).length : Int) != (l0.length : Int)) = true := bne_iff_ne.mpr c28
           have c28b2 : ((rd_L5 l1 x49_2).length == l0.length) = false := by first | simpa using c28 | (simp at c28 ⊢; omega)
           obtain rfl := Option.some.inj H
           have p258 : 0 ≤ (x49_2 : Int) := of_decide_eq_true (by first | (with_reducible assumption) | assumption)
           have q258 : x49_2 < (l1.length : Int) := of_decide_eq_true (by first | (with_reducible assumption) | assumption)
           obtain ⟨ad258, A258_0, c258_0, e258, hx258_0, hl258_0, hi258_0⟩ := at_L5 HR1.out x49_2 p258 q258
           cases e258
           replace hx258_0 := (HB.out.cell (World.block_lt_of_cell? w _ hx258_0)).trans hx258_0
           have HR258_0 := Aside0.mk hi258_0
           have HC258_0 := Aside0.mk hl258_0
           clear hi258_0 hl258_0
           replace p258 := eq_true p258
           replace q258 := eq_true q258
           go_wp2
           go_ret
           exact ⟨by first | rfl | (simp [errW_none, errW_some] <;> rfl) | (simp [*, errW_none, errW_some] <;> rfl), by repeat (first | (with_reducible first | exact HB.out | apply below_alloc | apply pw_below_drewN | apply below_drew1) | exact HB.out)⟩
         ·rw [if_neg c27] at H
          exact absurd H (by simp)
        ·rw [if_neg c26] at H
         exact absurd H (by simp)
       ·rw [if_neg c25] at H
        have c25b0 : decide (x49_2 < (l1.length : Int)) = false := decide_eq_false c25
        clear c25
        obtain rfl := Option.some.inj H
        go_wp2
        go_ret
        exact ⟨by first | rfl | (simp [errW_none, errW_some] <;> rfl) | (simp [*, errW_none, errW_some] <;> rfl), by repeat (first | (with_reducible first | exact HB.out | apply below_alloc | apply pw_below_drewN | apply below_drew1) | exact HB.out)⟩

end Go.Proofs.Ytfallkiaojefnaa.PBonesTell
