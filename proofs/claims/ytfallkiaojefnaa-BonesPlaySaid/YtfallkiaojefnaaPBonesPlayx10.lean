-- Printed by a program: the print with changes of this session (wip/printpatch.py).
import Derived.Test.YtfallkiaojefnaaPBonesPlayx0
namespace Go.Proofs.Ytfallkiaojefnaa.PBonesPlay
open Go.Proofs.Ytfallkiaojefnaa.Fnv Go.Proofs.Ytfallkiaojefnaa.Ary Go.Proofs.Ytfallkiaojefnaa.Ext
open Go.RowKit Go.Proofs.YtfallkiaojefnaaW.PrintWords Go.Proofs.YtfallkiaojefnaaW.PrintLast Go.Proofs.YtfallkiaojefnaaW.PrintMore
attribute [local go_sem] max2_int min2_int max_two min_two max_three min_three max_four min_four   -- for this text's walks alone
set_option linter.unusedVariables false
set_option linter.unusedSimpArgs false

/-! ### tourref5_BonesFault: function 13 -/
mutual
def tourref5_BonesFault.l0 : Nat → List (S35) → List (List (S37)) → List (S35) → Int → Int → Option (Int)
 | 0, _, _, _, _, _ => none
 | k + 1, x0, x1, x18, x19, x20 => if x20 < x19 then (if 0 ≤ x20 then (if x20 < (x18.length : Int) then (if ((rd_T35 x18 x20).f0) ≥ x20 then (tourref5_BonesFault.j1 k x0 x1 x18 x19 x20 true ((rd_T35 x18 x20).f0) ((rd_T35 x18 x20).f1.f0) ((rd_T35 x18 x20).f1.f1) ((rd_T35 x18 x20).f1.f2)) else (tourref5_BonesFault.j1 k x0 x1 x18 x19 x20 (decide (((rd_T35 x18 x20).f0) < (-1))) ((rd_T35 x18 x20).f0) ((rd_T35 x18 x20).f1.f0) ((rd_T35 x18 x20).f1.f1) ((rd_T35 x18 x20).f1.f2))) else (none)) else (none)) else (tourref5_BonesFault.l2 k x0 x1 (x1.length : Int) 0)
def tourref5_BonesFault.j1 : Nat → List (S35) → List (List (S37)) → List (S35) → Int → Int → Bool → Int → Int → Int → Int → Option (Int)
 | 0, _, _, _, _, _, _, _, _, _, _ => none
 | k + 1, x0, x1, x18, x19, x20, x33, x233000, x233001, x233002, x233003 => if x33 = true then (some 9) else (tourref5_BonesFault.l1 k x0 x1 x18 x19 x20 0 x233001 x233002 x233003)
def tourref5_BonesFault.l1 : Nat → List (S35) → List (List (S37)) → List (S35) → Int → Int → Int → Int → Int → Int → Option (Int)
 | 0, _, _, _, _, _, _, _, _, _ => none
 | k + 1, x0, x1, x18, x19, x20, x36, x100035000, x100035001, x100035002 => if x36 < 3 then (if x36 = 0 then (if x100035000 < (-65536000) then (some 1) else (if x100035000 > 65536000 then (some 1) else (tourref5_BonesFault.l1 k x0 x1 x18 x19 x20 (wrap64 (x36 + 1)) x100035000 x100035001 x100035002))) else (if x36 = 1 then (if x100035001 < (-65536000) then (some 1) else (if x100035001 > 65536000 then (some 1) else (tourref5_BonesFault.l1 k x0 x1 x18 x19 x20 (wrap64 (x36 + 1)) x100035000 x100035001 x100035002))) else (if x36 = 2 then (if x100035002 < (-65536000) then (some 1) else (if x100035002 > 65536000 then (some 1) else (tourref5_BonesFault.l1 k x0 x1 x18 x19 x20 (wrap64 (x36 + 1)) x100035000 x100035001 x100035002))) else (none)))) else (tourref5_BonesFault.l0 k x0 x1 x18 x19 (wrap64 (x20 + 1)))
def tourref5_BonesFault.l2 : Nat → List (S35) → List (List (S37)) → Int → Int → Option (Int)
 | 0, _, _, _, _ => none
 | k + 1, x0, x47, x48, x49 => if x49 < x48 then (if 0 ≤ x49 then (if x49 < (x47.length : Int) then (if ((rd_L4 x47 x49).length : Int) = (x0.length : Int) then (tourref5_BonesFault.l3 k x0 x47 x48 x49 (rd_L4 x47 x49) ((rd_L4 x47 x49).length : Int) 0) else (some 3)) else (none)) else (none)) else (some 0)
def tourref5_BonesFault.l3 : Nat → List (S35) → List (List (S37)) → Int → Int → List (S37) → Int → Int → Option (Int)
 | 0, _, _, _, _, _, _, _ => none
 | k + 1, x0, x47, x48, x49, x58, x59, x60 => if x60 < x59 then (if 0 ≤ x60 then (if x60 < (x58.length : Int) then ((some (([(rd_T37 x58 x60).f0, (rd_T37 x58 x60).f1, (rd_T37 x58 x60).f2, (rd_T37 x58 x60).f3] : List Int) : List Int)).bind fun y236 => (tourref5_BonesFault.l4 k x0 x47 x48 x49 x58 x59 x60 y236 (y236.length : Int) 0)) else (none)) else (none)) else (tourref5_BonesFault.l2 k x0 x47 x48 (wrap64 (x49 + 1)))
def tourref5_BonesFault.l4 : Nat → List (S35) → List (List (S37)) → Int → Int → List (S37) → Int → Int → List Int → Int → Int → Option (Int)
 | 0, _, _, _, _, _, _, _, _, _, _ => none
 | k + 1, x0, x47, x48, x49, x58, x59, x60, x72, x73, x74 => if x74 < x73 then (if 0 ≤ x74 then (if x74 < (x72.length : Int) then (if (rd x72 x74) < (-131072) then (some 1) else (if (rd x72 x74) > 131072 then (some 1) else (tourref5_BonesFault.l4 k x0 x47 x48 x49 x58 x59 x60 x72 x73 (wrap64 (x74 + 1))))) else (none)) else (none)) else (tourref5_BonesFault.l3 k x0 x47 x48 x49 x58 x59 (wrap64 (x60 + 1)))
end
def tourref5_BonesFault.f (k : Nat) (l0 : List (S35)) (l1 : List (List (S37))) : Option (Int) := if (l0.length : Int) > 40 then (some 2) else (tourref5_BonesFault.l0 k l0 l1 l0 (l0.length : Int) 0)
theorem tourref5_BonesFault.mono_l : ∀ k, (∀ y0 y1 y2 y3 y4, LeO (tourref5_BonesFault.l0 k y0 y1 y2 y3 y4) (tourref5_BonesFault.l0 (k + 1) y0 y1 y2 y3 y4)) ∧ (∀ y0 y1 y2 y3 y4 y5 y6 y7 y8 y9, LeO (tourref5_BonesFault.j1 k y0 y1 y2 y3 y4 y5 y6 y7 y8 y9) (tourref5_BonesFault.j1 (k + 1) y0 y1 y2 y3 y4 y5 y6 y7 y8 y9)) ∧ (∀ y0 y1 y2 y3 y4 y5 y6 y7 y8, LeO (tourref5_BonesFault.l1 k y0 y1 y2 y3 y4 y5 y6 y7 y8) (tourref5_BonesFault.l1 (k + 1) y0 y1 y2 y3 y4 y5 y6 y7 y8)) ∧ (∀ y0 y1 y2 y3, LeO (tourref5_BonesFault.l2 k y0 y1 y2 y3) (tourref5_BonesFault.l2 (k + 1) y0 y1 y2 y3)) ∧ (∀ y0 y1 y2 y3 y4 y5 y6, LeO (tourref5_BonesFault.l3 k y0 y1 y2 y3 y4 y5 y6) (tourref5_BonesFault.l3 (k + 1) y0 y1 y2 y3 y4 y5 y6)) ∧ (∀ y0 y1 y2 y3 y4 y5 y6 y7 y8 y9, LeO (tourref5_BonesFault.l4 k y0 y1 y2 y3 y4 y5 y6 y7 y8 y9) (tourref5_BonesFault.l4 (k + 1) y0 y1 y2 y3 y4 y5 y6 y7 y8 y9))
 | 0 => ⟨fun _ _ _ _ _ r h => by simp [tourref5_BonesFault.l0] at h, fun _ _ _ _ _ _ _ _ _ _ r h => by simp [tourref5_BonesFault.j1] at h, fun _ _ _ _ _ _ _ _ _ r h => by simp [tourref5_BonesFault.l1] at h, fun _ _ _ _ r h => by simp [tourref5_BonesFault.l2] at h, fun _ _ _ _ _ _ _ r h => by simp [tourref5_BonesFault.l3] at h, fun _ _ _ _ _ _ _ _ _ _ r h => by simp [tourref5_BonesFault.l4] at h⟩
 | k + 1 => by
  obtain ⟨ih0, ih1, ih2, ih3, ih4, ih5⟩ := tourref5_BonesFault.mono_l k
  refine ⟨?_, ?_, ?_, ?_, ?_, ?_⟩
  ·intro y0 y1 y2 y3 y4
   unfold tourref5_BonesFault.l0
   repeat' first
   | (with_reducible exact ih0 _ _ _ _ _)
   | (with_reducible exact ih1 _ _ _ _ _ _ _ _ _ _)
   | (with_reducible exact ih2 _ _ _ _ _ _ _ _ _)
   | (with_reducible exact ih3 _ _ _ _)
   | (with_reducible exact ih4 _ _ _ _ _ _ _)
   | (with_reducible exact ih5 _ _ _ _ _ _ _ _ _ _)
   | (with_reducible exact LeO.refl _)
   | (with_reducible exact LeO.none _)
   | (with_reducible refine LeO.ite ?_ ?_)
   | (with_reducible refine LeO.bind ?_ (fun _ => ?_))
   | exact ih0 _ _ _ _ _
   | exact ih1 _ _ _ _ _ _ _ _ _ _
   | exact ih2 _ _ _ _ _ _ _ _ _
   | exact ih3 _ _ _ _
   | exact ih4 _ _ _ _ _ _ _
   | exact ih5 _ _ _ _ _ _ _ _ _ _
   | exact LeO.none _
   | refine LeO.ite ?_ ?_
   | refine LeO.bind ?_ (fun _ => ?_)
  ·intro y0 y1 y2 y3 y4 y5 y6 y7 y8 y9
   unfold tourref5_BonesFault.j1
   repeat' first
   | (with_reducible exact ih0 _ _ _ _ _)
   | (with_reducible exact ih1 _ _ _ _ _ _ _ _ _ _)
   | (with_reducible exact ih2 _ _ _ _ _ _ _ _ _)
   | (with_reducible exact ih3 _ _ _ _)
   | (with_reducible exact ih4 _ _ _ _ _ _ _)
   | (with_reducible exact ih5 _ _ _ _ _ _ _ _ _ _)
   | (with_reducible exact LeO.refl _)
   | (with_reducible exact LeO.none _)
   | (with_reducible refine LeO.ite ?_ ?_)
   | (with_reducible refine LeO.bind ?_ (fun _ => ?_))
   | exact ih0 _ _ _ _ _
   | exact ih1 _ _ _ _ _ _ _ _ _ _
   | exact ih2 _ _ _ _ _ _ _ _ _
   | exact ih3 _ _ _ _
   | exact ih4 _ _ _ _ _ _ _
   | exact ih5 _ _ _ _ _ _ _ _ _ _
   | exact LeO.none _
   | refine LeO.ite ?_ ?_
   | refine LeO.bind ?_ (fun _ => ?_)
  ·intro y0 y1 y2 y3 y4 y5 y6 y7 y8
   unfold tourref5_BonesFault.l1
   repeat' first
   | (with_reducible exact ih0 _ _ _ _ _)
   | (with_reducible exact ih1 _ _ _ _ _ _ _ _ _ _)
   | (with_reducible exact ih2 _ _ _ _ _ _ _ _ _)
   | (with_reducible exact ih3 _ _ _ _)
   | (with_reducible exact ih4 _ _ _ _ _ _ _)
   | (with_reducible exact ih5 _ _ _ _ _ _ _ _ _ _)
   | (with_reducible exact LeO.refl _)
   | (with_reducible exact LeO.none _)
   | (with_reducible refine LeO.ite ?_ ?_)
   | (with_reducible refine LeO.bind ?_ (fun _ => ?_))
   | exact ih0 _ _ _ _ _
   | exact ih1 _ _ _ _ _ _ _ _ _ _
   | exact ih2 _ _ _ _ _ _ _ _ _
   | exact ih3 _ _ _ _
   | exact ih4 _ _ _ _ _ _ _
   | exact ih5 _ _ _ _ _ _ _ _ _ _
   | exact LeO.none _
   | refine LeO.ite ?_ ?_
   | refine LeO.bind ?_ (fun _ => ?_)
  ·intro y0 y1 y2 y3
   unfold tourref5_BonesFault.l2
   repeat' first
   | (with_reducible exact ih0 _ _ _ _ _)
   | (with_reducible exact ih1 _ _ _ _ _ _ _ _ _ _)
   | (with_reducible exact ih2 _ _ _ _ _ _ _ _ _)
   | (with_reducible exact ih3 _ _ _ _)
   | (with_reducible exact ih4 _ _ _ _ _ _ _)
   | (with_reducible exact ih5 _ _ _ _ _ _ _ _ _ _)
   | (with_reducible exact LeO.refl _)
   | (with_reducible exact LeO.none _)
   | (with_reducible refine LeO.ite ?_ ?_)
   | (with_reducible refine LeO.bind ?_ (fun _ => ?_))
   | exact ih0 _ _ _ _ _
   | exact ih1 _ _ _ _ _ _ _ _ _ _
   | exact ih2 _ _ _ _ _ _ _ _ _
   | exact ih3 _ _ _ _
   | exact ih4 _ _ _ _ _ _ _
   | exact ih5 _ _ _ _ _ _ _ _ _ _
   | exact LeO.none _
   | refine LeO.ite ?_ ?_
   | refine LeO.bind ?_ (fun _ => ?_)
  ·intro y0 y1 y2 y3 y4 y5 y6
   unfold tourref5_BonesFault.l3
   repeat' first
   | (with_reducible exact ih0 _ _ _ _ _)
   | (with_reducible exact ih1 _ _ _ _ _ _ _ _ _ _)
   | (with_reducible exact ih2 _ _ _ _ _ _ _ _ _)
   | (with_reducible exact ih3 _ _ _ _)
   | (with_reducible exact ih4 _ _ _ _ _ _ _)
   | (with_reducible exact ih5 _ _ _ _ _ _ _ _ _ _)
   | (with_reducible exact LeO.refl _)
   | (with_reducible exact LeO.none _)
   | (with_reducible refine LeO.ite ?_ ?_)
   | (with_reducible refine LeO.bind ?_ (fun _ => ?_))
   | exact ih0 _ _ _ _ _
   | exact ih1 _ _ _ _ _ _ _ _ _ _
   | exact ih2 _ _ _ _ _ _ _ _ _
   | exact ih3 _ _ _ _
   | exact ih4 _ _ _ _ _ _ _
   | exact ih5 _ _ _ _ _ _ _ _ _ _
   | exact LeO.none _
   | refine LeO.ite ?_ ?_
   | refine LeO.bind ?_ (fun _ => ?_)
  ·intro y0 y1 y2 y3 y4 y5 y6 y7 y8 y9
   unfold tourref5_BonesFault.l4
   repeat' first
   | (with_reducible exact ih0 _ _ _ _ _)
   | (with_reducible exact ih1 _ _ _ _ _ _ _ _ _ _)
   | (with_reducible exact ih2 _ _ _ _ _ _ _ _ _)
   | (with_reducible exact ih3 _ _ _ _)
   | (with_reducible exact ih4 _ _ _ _ _ _ _)
   | (with_reducible exact ih5 _ _ _ _ _ _ _ _ _ _)
   | (with_reducible exact LeO.refl _)
   | (with_reducible exact LeO.none _)
   | (with_reducible refine LeO.ite ?_ ?_)
   | (with_reducible refine LeO.bind ?_ (fun _ => ?_))
   | exact ih0 _ _ _ _ _
   | exact ih1 _ _ _ _ _ _ _ _ _ _
   | exact ih2 _ _ _ _ _ _ _ _ _
   | exact ih3 _ _ _ _
   | exact ih4 _ _ _ _ _ _ _
   | exact ih5 _ _ _ _ _ _ _ _ _ _
   | exact LeO.none _
   | refine LeO.ite ?_ ?_
   | refine LeO.bind ?_ (fun _ => ?_)
theorem tourref5_BonesFault.mono : ∀ a0 a1 k, LeO (tourref5_BonesFault.f k a0 a1) (tourref5_BonesFault.f (k + 1) a0 a1) := by
 intro a0 a1 k
 obtain ⟨ih0, ih1, ih2, ih3, ih4, ih5⟩ := tourref5_BonesFault.mono_l k
 unfold tourref5_BonesFault.f
 repeat' first
   | (with_reducible exact ih0 _ _ _ _ _)
   | (with_reducible exact ih1 _ _ _ _ _ _ _ _ _ _)
   | (with_reducible exact ih2 _ _ _ _ _ _ _ _ _)
   | (with_reducible exact ih3 _ _ _ _)
   | (with_reducible exact ih4 _ _ _ _ _ _ _)
   | (with_reducible exact ih5 _ _ _ _ _ _ _ _ _ _)
   | (with_reducible exact LeO.refl _)
   | (with_reducible exact LeO.none _)
   | (with_reducible refine LeO.ite ?_ ?_)
   | (with_reducible refine LeO.bind ?_ (fun _ => ?_))
   | exact ih0 _ _ _ _ _
   | exact ih1 _ _ _ _ _ _ _ _ _ _
   | exact ih2 _ _ _ _ _ _ _ _ _
   | exact ih3 _ _ _ _
   | exact ih4 _ _ _ _ _ _ _
   | exact ih5 _ _ _ _ _ _ _ _ _ _
   | exact LeO.none _
   | refine LeO.ite ?_ ?_
   | refine LeO.bind ?_ (fun _ => ?_)
set_option maxHeartbeats 8000000 in
set_option maxRecDepth 100000 in
theorem tourref5_BonesFault.calls (k : Nat) (A0 : Option Addr) (c0 : Nat) (l0 : List (S35)) (A1 : Option Addr) (c1 : Nat) (l1 : List (List (S37))) (r : Int) (w : World) (hr0 : Kd.C k35 w A0 l0.length l0) (hc0 : l0.length ≤ c0) (hr1 : Kd.C (Kd.slice 37 k37) w A1 l1.length l1) (hc1 : l1.length ≤ c1) (h : tourref5_BonesFault.f k l0 l1 = some r) :
  Calls Try.prog 13 #[.slice A0 l0.length c0, .slice A1 l1.length c1] w fun e w' => e = .returned (.int .i64 r) ∧ Below w.heap.size w w' := by
 have hu35 := Try.underlying35
 have hu33 := Try.underlying33
 have hu37 := Try.underlying37
 have HR0 := Aside0.mk hr0
 have HC0 := Aside0.mk hc0
 clear hr0 hc0
 have HR1 := Aside0.mk hr1
 have HC1 := Aside0.mk hc1
 clear hr1 hc1
 have HB := Aside0.mk (Below.refl w.heap.size w)
 have H : (if (l0.length : Int) > 40 then (some 2) else (tourref5_BonesFault.l0 k l0 l1 l0 (l0.length : Int) 0)) = some r := h
 clear h
 by_cases c3 : (l0.length : Int) > 40
 ·rw [if_pos c3] at H
  have c3b0 : decide (40 < (l0.length : Int)) = true := decide_eq_true c3
  have c3b1 : decide (40 < l0.length) = true := decide_eq_true (by omega)
  clear c3
  obtain rfl := Option.some.inj H
  go_enter Try.func13, Try.ntmps13
  go_wp2
  go_ret
  exact ⟨by first | rfl | (simp [errW_none, errW_some] <;> rfl) | (simp [*, errW_none, errW_some] <;> rfl), by repeat (first | (with_reducible first | exact HB.out | apply below_alloc | apply pw_below_drewN | apply below_drew1) | exact HB.out)⟩
 ·rw [if_neg c3] at H
  have c3b0 : decide (40 < (l0.length : Int)) = false := decide_eq_false c3
  have c3b1 : decide (40 < l0.length) = false := decide_eq_false (by omega)
  clear c3
  have H' := Aside0.mk H
  clear H
  go_enter Try.func13, Try.ntmps13
  go_wp2
  go_loopg [20] k (fun kq v20 w' => ∃ (x20_1 : Int), v20 = .int .i64 x20_1 ∧ Aside0 (tourref5_BonesFault.l0 kq l0 l1 l0 (l0.length : Int) x20_1 = some r) ∧ Aside0 (kq ≤ k) ∧ Aside0 (Below w.heap.size w w'))
  case atStart => exact ⟨(0), (by first | rfl | (simp; done) | (simp [*]; done) | (simp; decide +kernel)), H', ⟨Nat.le_refl _⟩, ⟨by repeat (first | (with_reducible first | exact HB.out | apply below_alloc | apply pw_below_drewN | apply below_drew1) | exact HB.out)⟩⟩
  case round =>
   clear H'
   try clear c1
   try clear p2
   try clear c3
   try clear c3b0
   try clear c3b1
   obtain ⟨x20_1, rfl, HA, HK1, HB⟩ := hrel
   cases gk with
   | zero => exact absurd HA.out (by simp [tourref5_BonesFault.l0])
   | succ k1 =>
    have H := HA.out
    clear HA
    simp only [tourref5_BonesFault.l0] at H
    by_cases c4 : x20_1 < (l0.length : Int)
    ·rw [if_pos c4] at H
     have c4b0 : decide (x20_1 < (l0.length : Int)) = true := decide_eq_true c4
     clear c4
     by_cases c5 : 0 ≤ x20_1
     ·rw [if_pos c5] at H
      have c5b0 : decide (0 ≤ x20_1) = true := decide_eq_true c5
      clear c5
      by_cases c6 : x20_1 < (l0.length : Int)
      ·rw [if_pos c6] at H
       have c6b0 : decide (x20_1 < (l0.length : Int)) = true := decide_eq_true c6
       clear c6
       have HC7 := Aside0.mk H
       clear H
       have p231 : 0 ≤ (x20_1 : Int) := of_decide_eq_true (by first | (with_reducible assumption) | assumption)
       have q231 : x20_1 < (l0.length : Int) := of_decide_eq_true (by first | (with_reducible assumption) | assumption)
       obtain ⟨ad231, e231, hx231_0, hx231_1, hx231_2, hx231_3⟩ := at_T35 HR0.out x20_1 p231 q231
       cases e231
       replace hx231_0 := (HB.out.cell (World.block_lt_of_cell? w _ hx231_0)).trans hx231_0
       replace hx231_1 := (HB.out.cell (World.block_lt_of_cell? w _ hx231_1)).trans hx231_1
       replace hx231_2 := (HB.out.cell (World.block_lt_of_cell? w _ hx231_2)).trans hx231_2
       replace hx231_3 := (HB.out.cell (World.block_lt_of_cell? w _ hx231_3)).trans hx231_3
       replace p231 := eq_true p231
       replace q231 := eq_true q231
       go_upto_region 6 with (first | ((with_reducible refine gate_dst (N := 6) rfl ?_); refine box_event ?hg (N := 6) ?hd (cs := #[.int .i64 0, .int .i64 0, .int .i64 0, .int .i64 0]) (t := 35) ?hr ?_; (case hd => rfl); (case hg => rfl); (case hr => first | (go_simp; done) | (go_simp; rfl)); intro gb232 hg w8 hbox hb; have n0_ := Aside0.mk (below_step (by repeat (first | (with_reducible first | exact HB.out | apply below_alloc | apply pw_below_drewN | apply below_drew1) | exact HB.out)) hb); have n1_ := Aside0.mk (hbox); have n2_ := Aside0.mk ((by rw [hg]; exact (below_size (by repeat (first | (with_reducible first | exact HB.out | apply below_alloc | apply pw_below_drewN | apply below_drew1) | exact HB.out))) : w.heap.size ≤ gb232)); have n3_ := Aside0.mk ((by rw [hg]; exact (below_size (by repeat (first | (with_reducible first | exact HB.out | apply below_alloc | apply pw_below_drewN | apply below_drew1) | exact HB.out))) : w.heap.size ≤ gb232)); clear HB; have HB := n0_; have BK232 := n1_; have GW232 := n2_; have GE232 := n3_; clear n0_ n1_ n2_ n3_; clear hb hbox hg; have hcz9_0 : w8.cell? ⟨gb232, 0, none⟩ = some (.int .i64 0) := (blk_cell BK232.out 0).trans rfl; have hcz9_1 : w8.cell? ⟨gb232, 1, none⟩ = some (.int .i64 0) := (blk_cell BK232.out 1).trans rfl; have hcz9_2 : w8.cell? ⟨gb232, 2, none⟩ = some (.int .i64 0) := (blk_cell BK232.out 2).trans rfl; have hcz9_3 : w8.cell? ⟨gb232, 3, none⟩ = some (.int .i64 0) := (blk_cell BK232.out 3).trans rfl; have hfz9_0 := blk_frozen BK232.out 0; have hfz9_1 := blk_frozen BK232.out 1; have hfz9_2 := blk_frozen BK232.out 2; have hfz9_3 := blk_frozen BK232.out 3))
       (try simp only [Act.put, List.setIfInBounds_toArray, List.set_cons_zero, List.set_cons_succ])
       go_cut [33] (fun v33 wc => ∃ (kq : Nat) (x33_6 : Bool), v33 = .bool x33_6 ∧ Aside0 (tourref5_BonesFault.j1 kq l0 l1 l0 (l0.length : Int) x20_1 x33_6 ((rd_T35 l0 x20_1).f0) ((rd_T35 l0 x20_1).f1.f0) ((rd_T35 l0 x20_1).f1.f1) ((rd_T35 l0 x20_1).f1.f2) = some r) ∧ Aside0 (kq ≤ k1) ∧ Aside0 (wc.heap[gb232]? = some (.cells #[.int .i64 ((rd_T35 l0 x20_1).f0), .int .i64 ((rd_T35 l0 x20_1).f1.f0), .int .i64 ((rd_T35 l0 x20_1).f1.f1), .int .i64 ((rd_T35 l0 x20_1).f1.f2)] 35 (0, 0))) ∧ Aside0 (Below w.heap.size w wc))
       case first =>
        have H := HC7.out
        clear HC7
        by_cases c10 : ((rd_T35 l0 x20_1).f0) ≥ x20_1
        ·rw [if_pos c10] at H
         have c10b0 : decide (x20_1 ≤ ((rd_T35 l0 x20_1).f0)) = true := decide_eq_true c10
         clear c10
         (first | rw [c10b0] | (simp only [i64_w, i32_w]; rw [c10b0]) | skip)
         have H' := Aside0.mk H
         clear H
         have hcz11_0 : w8.cell? ⟨gb232, 0, none⟩ = some (.int .i64 0) := (blk_cell BK232.out 0).trans rfl
         have hcz11_1 : w8.cell? ⟨gb232, 1, none⟩ = some (.int .i64 0) := (blk_cell BK232.out 1).trans rfl
         have hcz11_2 : w8.cell? ⟨gb232, 2, none⟩ = some (.int .i64 0) := (blk_cell BK232.out 2).trans rfl
         have hcz11_3 : w8.cell? ⟨gb232, 3, none⟩ = some (.int .i64 0) := (blk_cell BK232.out 3).trans rfl
         have hfz11_0 := blk_frozen BK232.out 0
         have hfz11_1 := blk_frozen BK232.out 1
         have hfz11_2 := blk_frozen BK232.out 2
         have hfz11_3 := blk_frozen BK232.out 3
         go_wp2
         go_meet
         case rel => exact ⟨_, (true), (by first | rfl | (simp; done) | (simp [*]; done) | (simp; decide +kernel)), H', ⟨by have := HK1.out; first | omega | exact Nat.le_refl _⟩, ⟨by (with_reducible repeat (first | refine blk_drewN ?_ _ | refine blk_drew ?_ | refine blk_alloc ?_ _)); refine blk_put (cs := #[.int .i64 ((rd_T35 l0 x20_1).f0), .int .i64 ((rd_T35 l0 x20_1).f1.f0), .int .i64 ((rd_T35 l0 x20_1).f1.f1), .int .i64 0]) ?_ 3 _ rfl; (with_reducible repeat (first | refine blk_drewN ?_ _ | refine blk_drew ?_ | refine blk_alloc ?_ _)); refine blk_put (cs := #[.int .i64 ((rd_T35 l0 x20_1).f0), .int .i64 ((rd_T35 l0 x20_1).f1.f0), .int .i64 0, .int .i64 0]) ?_ 2 _ rfl; (with_reducible repeat (first | refine blk_drewN ?_ _ | refine blk_drew ?_ | refine blk_alloc ?_ _)); refine blk_put (cs := #[.int .i64 ((rd_T35 l0 x20_1).f0), .int .i64 0, .int .i64 0, .int .i64 0]) ?_ 1 _ rfl; (with_reducible repeat (first | refine blk_drewN ?_ _ | refine blk_drew ?_ | refine blk_alloc ?_ _)); refine blk_put (cs := #[.int .i64 0, .int .i64 0, .int .i64 0, .int .i64 0]) ?_ 0 _ rfl; (with_reducible repeat (first | refine blk_drewN ?_ _ | refine blk_drew ?_ | refine blk_alloc ?_ _)); exact BK232.out⟩, ⟨by repeat (first | (with_reducible first | exact HB.out | apply below_alloc | apply pw_below_drewN | apply below_drew1 | refine below_set ?_ GE232.out) | exact HB.out)⟩⟩
        ·rw [if_neg c10] at H
         have c10b0 : decide (x20_1 ≤ ((rd_T35 l0 x20_1).f0)) = false := decide_eq_false c10
         clear c10
         (first | rw [c10b0] | (simp only [i64_w, i32_w]; rw [c10b0]) | skip)
         have H' := Aside0.mk H
         clear H
         have hcz12_0 : w8.cell? ⟨gb232, 0, none⟩ = some (.int .i64 0) := (blk_cell BK232.out 0).trans rfl
         have hcz12_1 : w8.cell? ⟨gb232, 1, none⟩ = some (.int .i64 0) := (blk_cell BK232.out 1).trans rfl
         have hcz12_2 : w8.cell? ⟨gb232, 2, none⟩ = some (.int .i64 0) := (blk_cell BK232.out 2).trans rfl
         have hcz12_3 : w8.cell? ⟨gb232, 3, none⟩ = some (.int .i64 0) := (blk_cell BK232.out 3).trans rfl
         have hfz12_0 := blk_frozen BK232.out 0
         have hfz12_1 := blk_frozen BK232.out 1
         have hfz12_2 := blk_frozen BK232.out 2
         have hfz12_3 := blk_frozen BK232.out 3
         go_wp2
         go_meet
         case rel => exact ⟨_, (decide (((rd_T35 l0 x20_1).f0) < (-1))), (by first | rfl | (simp; done) | (simp [*]; done) | (simp; decide +kernel)), H', ⟨by have := HK1.out; first | omega | exact Nat.le_refl _⟩, ⟨by (with_reducible repeat (first | refine blk_drewN ?_ _ | refine blk_drew ?_ | refine blk_alloc ?_ _)); refine blk_put (cs := #[.int .i64 ((rd_T35 l0 x20_1).f0), .int .i64 ((rd_T35 l0 x20_1).f1.f0), .int .i64 ((rd_T35 l0 x20_1).f1.f1), .int .i64 0]) ?_ 3 _ rfl; (with_reducible repeat (first | refine blk_drewN ?_ _ | refine blk_drew ?_ | refine blk_alloc ?_ _)); refine blk_put (cs := #[.int .i64 ((rd_T35 l0 x20_1).f0), .int .i64 ((rd_T35 l0 x20_1).f1.f0), .int .i64 0, .int .i64 0]) ?_ 2 _ rfl; (with_reducible repeat (first | refine blk_drewN ?_ _ | refine blk_drew ?_ | refine blk_alloc ?_ _)); refine blk_put (cs := #[.int .i64 ((rd_T35 l0 x20_1).f0), .int .i64 0, .int .i64 0, .int .i64 0]) ?_ 1 _ rfl; (with_reducible repeat (first | refine blk_drewN ?_ _ | refine blk_drew ?_ | refine blk_alloc ?_ _)); refine blk_put (cs := #[.int .i64 0, .int .i64 0, .int .i64 0, .int .i64 0]) ?_ 0 _ rfl; (with_reducible repeat (first | refine blk_drewN ?_ _ | refine blk_drew ?_ | refine blk_alloc ?_ _)); exact BK232.out⟩, ⟨by repeat (first | (with_reducible first | exact HB.out | apply below_alloc | apply pw_below_drewN | apply below_drew1 | refine below_set ?_ GE232.out) | exact HB.out)⟩⟩
       case rest =>
        clear HC7
        try clear c1
        try clear p2
        try clear q2
        try clear hx2
        try clear c3
        try clear c3b0
        try clear c3b1
        try clear c4
        try clear c4b0
        try clear c5
        try clear c5b0
        try clear c6
        try clear c6b0
        try clear c10
        try clear c10b0
        try clear hcz11_0
        try clear hcz11_1
        try clear hcz11_2
        try clear hcz11_3
        try clear hcz12_0
        try clear hcz12_1
        try clear hcz12_2
        try clear hcz12_3
        try clear hcz9_0
        try clear hcz9_1
        try clear hcz9_2
        try clear hcz9_3
        try clear hfz11_0
        try clear hfz11_1
        try clear hfz11_2
        try clear hfz11_3
        try clear hfz12_0
        try clear hfz12_1
        try clear hfz12_2
        try clear hfz12_3
        try clear hfz9_0
        try clear hfz9_1
        try clear hfz9_2
        try clear hfz9_3
        try clear hx231_0
        try clear hx231_1
        try clear hx231_2
        try clear hx231_3
        try clear p2
        try clear p231
        try clear q231
        obtain ⟨kq, x33_6, rfl, HA, HJ6, BK232, HB⟩ := hcut
        cases kq with
        | zero => exact absurd HA.out (by simp [tourref5_BonesFault.j1])
        | succ kj6 =>
         have H := HA.out
         clear HA
         simp only [tourref5_BonesFault.j1] at H
         by_cases c13 : x33_6 = true
         ·subst c13
          have H1 : (some 9) = some r := by rw [if_pos rfl] at H; exact H
          clear H
          have H := H1
          clear H1
          obtain rfl := Option.some.inj H
          go_wp2
          go_ret
          exact ⟨by first | rfl | (simp [errW_none, errW_some] <;> rfl) | (simp [*, errW_none, errW_some] <;> rfl), by repeat (first | (with_reducible first | exact HB.out | apply below_alloc | apply pw_below_drewN | apply below_drew1 | refine below_set ?_ GE232.out) | exact HB.out)⟩
         ·replace c13 := Bool.eq_false_iff.mpr c13
          subst c13
          have H1 : (tourref5_BonesFault.l1 kj6 l0 l1 l0 (l0.length : Int) x20_1 0 ((rd_T35 l0 x20_1).f1.f0) ((rd_T35 l0 x20_1).f1.f1) ((rd_T35 l0 x20_1).f1.f2)) = some r := by rw [if_neg (show ¬ (false = true) by decide)] at H; exact H
          clear H
          have H := H1
          clear H1
          have H' := Aside0.mk H
          clear H
          have hcz14_0 : wc.cell? ⟨gb232, 0, none⟩ = some (.int .i64 ((rd_T35 l0 x20_1).f0)) := (blk_cell BK232.out 0).trans rfl
          have hcz14_1 : wc.cell? ⟨gb232, 1, none⟩ = some (.int .i64 ((rd_T35 l0 x20_1).f1.f0)) := (blk_cell BK232.out 1).trans rfl
          have hcz14_2 : wc.cell? ⟨gb232, 2, none⟩ = some (.int .i64 ((rd_T35 l0 x20_1).f1.f1)) := (blk_cell BK232.out 2).trans rfl
          have hcz14_3 : wc.cell? ⟨gb232, 3, none⟩ = some (.int .i64 ((rd_T35 l0 x20_1).f1.f2)) := (blk_cell BK232.out 3).trans rfl
          have hfz14_0 := blk_frozen BK232.out 0
          have hfz14_1 := blk_frozen BK232.out 1
          have hfz14_2 := blk_frozen BK232.out 2
          have hfz14_3 := blk_frozen BK232.out 3
          go_wp2
          go_loopg [36] kj6 (fun kq v36 w' => ∃ (x36_3 : Int), v36 = .int .i64 x36_3 ∧ Aside0 (tourref5_BonesFault.l1 kq l0 l1 l0 (l0.length : Int) x20_1 x36_3 ((rd_T35 l0 x20_1).f1.f0) ((rd_T35 l0 x20_1).f1.f1) ((rd_T35 l0 x20_1).f1.f2) = some r) ∧ Aside0 (kq ≤ kj6) ∧ Aside0 (w'.heap[gb232]? = some (.cells #[.int .i64 ((rd_T35 l0 x20_1).f0), .int .i64 ((rd_T35 l0 x20_1).f1.f0), .int .i64 ((rd_T35 l0 x20_1).f1.f1), .int .i64 ((rd_T35 l0 x20_1).f1.f2)] 35 (0, 0))) ∧ Aside0 (Below w.heap.size w w'))
          case atStart => exact ⟨(0), (by first | rfl | (simp; done) | (simp [*]; done) | (simp; decide +kernel)), H', ⟨Nat.le_refl _⟩, ⟨by (with_reducible repeat (first | refine blk_drewN ?_ _ | refine blk_drew ?_ | refine blk_alloc ?_ _)); exact BK232.out⟩, ⟨by repeat (first | (with_reducible first | exact HB.out | apply below_alloc | apply pw_below_drewN | apply below_drew1 | refine below_set ?_ GE232.out) | exact HB.out)⟩⟩
          case round =>
           clear H'
           try clear c1
           try clear p2
           try clear q2
           try clear hx2
           try clear c3
           try clear c3b0
           try clear c3b1
           try clear c4
           try clear c4b0
           try clear c5
           try clear c5b0
           try clear c6
           try clear c6b0
           try clear c10
           try clear c10b0
           try clear c13
           try clear hcz11_0
           try clear hcz11_1
           try clear hcz11_2
           try clear hcz11_3
           try clear hcz12_0
           try clear hcz12_1
           try clear hcz12_2
           try clear hcz12_3
           try clear hcz14_0
           try clear hcz14_1
           try clear hcz14_2
           try clear hcz14_3
           try clear hcz9_0
           try clear hcz9_1
           try clear hcz9_2
           try clear hcz9_3
           try clear hfz11_0
           try clear hfz11_1
           try clear hfz11_2
           try clear hfz11_3
           try clear hfz12_0
           try clear hfz12_1
           try clear hfz12_2
           try clear hfz12_3
           try clear hfz14_0
           try clear hfz14_1
           try clear hfz14_2
           try clear hfz14_3
           try clear hfz9_0
           try clear hfz9_1
           try clear hfz9_2
           try clear hfz9_3
           try clear hx231_0
           try clear hx231_1
           try clear hx231_2
           try clear hx231_3
           try clear p2
           try clear p231
           try clear q2
           try clear q231
           obtain ⟨x36_3, rfl, HA, HK3, BK232, HB⟩ := hrel
           cases gk with
           | zero => exact absurd HA.out (by simp [tourref5_BonesFault.l1])
           | succ k3 =>
            have H := HA.out
            clear HA
            simp only [tourref5_BonesFault.l1] at H
            by_cases c15 : x36_3 < 3
            ·rw [if_pos c15] at H
             have c15b0 : decide (x36_3 < 3) = true := decide_eq_true c15
             clear c15
             by_cases c16 : x36_3 = 0
             ·subst c16
              have H1 : (if ((rd_T35 l0 x20_1).f1.f0) < (-65536000) then (some 1) else (if ((rd_T35 l0 x20_1).f1.f0) > 65536000 then (some 1) else (tourref5_BonesFault.l1 k3 l0 l1 l0 (l0.length : Int) x20_1 (wrap64 (0 + 1)) ((rd_T35 l0 x20_1).f1.f0) ((rd_T35 l0 x20_1).f1.f1) ((rd_T35 l0 x20_1).f1.f2)))) = some r := by rw [if_pos rfl] at H; exact H
              clear H
              have H := H1
              clear H1
              by_cases c17 : ((rd_T35 l0 x20_1).f1.f0) < (-65536000)
              ·rw [if_pos c17] at H
               have c17b0 : decide (((rd_T35 l0 x20_1).f1.f0) < (-65536000)) = true := decide_eq_true c17
               clear c17
               obtain rfl := Option.some.inj H
               go_wp2
               go_ret
               exact ⟨by first | rfl | (simp [errW_none, errW_some] <;> rfl) | (simp [*, errW_none, errW_some] <;> rfl), by repeat (first | (with_reducible first | exact HB.out | apply below_alloc | apply pw_below_drewN | apply below_drew1 | refine below_set ?_ GE232.out) | exact HB.out)⟩
              ·rw [if_neg c17] at H
               have c17b0 : decide (((rd_T35 l0 x20_1).f1.f0) < (-65536000)) = false := decide_eq_false c17
               clear c17
               by_cases c18 : ((rd_T35 l0 x20_1).f1.f0) > 65536000
               ·rw [if_pos c18] at H
                have c18b0 : decide (65536000 < ((rd_T35 l0 x20_1).f1.f0)) = true := decide_eq_true c18
                clear c18
                obtain rfl := Option.some.inj H
                go_wp2
                go_ret
                exact ⟨by first | rfl | (simp [errW_none, errW_some] <;> rfl) | (simp [*, errW_none, errW_some] <;> rfl), by repeat (first | (with_reducible first | exact HB.out | apply below_alloc | apply pw_below_drewN | apply below_drew1 | refine below_set ?_ GE232.out) | exact HB.out)⟩
               ·rw [if_neg c18] at H
                have c18b0 : decide (65536000 < ((rd_T35 l0 x20_1).f1.f0)) = false := decide_eq_false c18
                clear c18
                have H' := Aside0.mk H
                clear H
                go_wp2
                go_roundg k3
                case measure => have := HK1.out; have := HJ6.out; have := HK3.out; omega
                case rel => exact ⟨(wrap64 (0 + 1)), (by first | rfl | (simp; done) | (simp [*]; done) | (simp; decide +kernel)), H', ⟨by have := HK1.out; have := HJ6.out; have := HK3.out; omega⟩, ⟨by (with_reducible repeat (first | refine blk_drewN ?_ _ | refine blk_drew ?_ | refine blk_alloc ?_ _)); exact BK232.out⟩, ⟨by repeat (first | (with_reducible first | exact HB.out | apply below_alloc | apply pw_below_drewN | apply below_drew1 | refine below_set ?_ GE232.out) | exact HB.out)⟩⟩
             ·rw [if_neg c16] at H
              by_cases c19 : x36_3 = 1
              ·subst c19
               have H1 : (if ((rd_T35 l0 x20_1).f1.f1) < (-65536000) then (some 1) else (if ((rd_T35 l0 x20_1).f1.f1) > 65536000 then (some 1) else (tourref5_BonesFault.l1 k3 l0 l1 l0 (l0.length : Int) x20_1 (wrap64 (1 + 1)) ((rd_T35 l0 x20_1).f1.f0) ((rd_T35 l0 x20_1).f1.f1) ((rd_T35 l0 x20_1).f1.f2)))) = some r := by rw [if_pos rfl] at H; exact H
               clear H
               have H := H1
               clear H1
               by_cases c20 : ((rd_T35 l0 x20_1).f1.f1) < (-65536000)
               ·rw [if_pos c20] at H
                have c20b0 : decide (((rd_T35 l0 x20_1).f1.f1) < (-65536000)) = true := decide_eq_true c20
                clear c20
                obtain rfl := Option.some.inj H
                go_wp2
                go_ret
                exact ⟨by first | rfl | (simp [errW_none, errW_some] <;> rfl) | (simp [*, errW_none, errW_some] <;> rfl), by repeat (first | (with_reducible first | exact HB.out | apply below_alloc | apply pw_below_drewN | apply below_drew1 | refine below_set ?_ GE232.out) | exact HB.out)⟩
               ·rw [if_neg c20] at H
                have c20b0 : decide (((rd_T35 l0 x20_1).f1.f1) < (-65536000)) = false := decide_eq_false c20
                clear c20
                by_cases c21 : ((rd_T35 l0 x20_1).f1.f1) > 65536000
                ·rw [if_pos c21] at H
                 have c21b0 : decide (65536000 < ((rd_T35 l0 x20_1).f1.f1)) = true := decide_eq_true c21
                 clear c21
                 obtain rfl := Option.some.inj H
                 go_wp2
                 go_ret
                 exact ⟨by first | rfl | (simp [errW_none, errW_some] <;> rfl) | (simp [*, errW_none, errW_some] <;> rfl), by repeat (first | (with_reducible first | exact HB.out | apply below_alloc | apply pw_below_drewN | apply below_drew1 | refine below_set ?_ GE232.out) | exact HB.out)⟩
                ·rw [if_neg c21] at H
                 have c21b0 : decide (65536000 < ((rd_T35 l0 x20_1).f1.f1)) = false := decide_eq_false c21
                 clear c21
                 have H' := Aside0.mk H
                 clear H
                 go_wp2
                 go_roundg k3
                 case measure => have := HK1.out; have := HJ6.out; have := HK3.out; omega
                 case rel => exact ⟨(wrap64 (1 + 1)), (by first | rfl | (simp; done) | (simp [*]; done) | (simp; decide +kernel)), H', ⟨by have := HK1.out; have := HJ6.out; have := HK3.out; omega⟩, ⟨by (with_reducible repeat (first | refine blk_drewN ?_ _ | refine blk_drew ?_ | refine blk_alloc ?_ _)); exact BK232.out⟩, ⟨by repeat (first | (with_reducible first | exact HB.out | apply below_alloc | apply pw_below_drewN | apply below_drew1 | refine below_set ?_ GE232.out) | exact HB.out)⟩⟩
              ·rw [if_neg c19] at H
               by_cases c22 : x36_3 = 2
               ·subst c22
                have H1 : (if ((rd_T35 l0 x20_1).f1.f2) < (-65536000) then (some 1) else (if ((rd_T35 l0 x20_1).f1.f2) > 65536000 then (some 1) else (tourref5_BonesFault.l1 k3 l0 l1 l0 (l0.length : Int) x20_1 (wrap64 (2 + 1)) ((rd_T35 l0 x20_1).f1.f0) ((rd_T35 l0 x20_1).f1.f1) ((rd_T35 l0 x20_1).f1.f2)))) = some r := by rw [if_pos rfl] at H; exact H
                clear H
                have H := H1
                clear H1
                by_cases c23 : ((rd_T35 l0 x20_1).f1.f2) < (-65536000)
                ·rw [if_pos c23] at H
                 have c23b0 : decide (((rd_T35 l0 x20_1).f1.f2) < (-65536000)) = true := decide_eq_true c23
                 clear c23
                 obtain rfl := Option.some.inj H
                 go_wp2
                 go_ret
                 exact ⟨by first | rfl | (simp [errW_none, errW_some] <;> rfl) | (simp [*, errW_none, errW_some] <;> rfl), by repeat (first | (with_reducible first | exact HB.out | apply below_alloc | apply pw_below_drewN | apply below_drew1 | refine below_set ?_ GE232.out) | exact HB.out)⟩
                ·rw [if_neg c23] at H
                 have c23b0 : decide (((rd_T35 l0 x20_1).f1.f2) < (-65536000)) = false := decide_eq_false c23
                 clear c23
                 by_cases c24 : ((rd_T35 l0 x20_1).f1.f2) > 65536000
                 ·rw [if_pos c24] at H
                  have c24b0 : decide (65536000 < ((rd_T35 l0 x20_1).f1.f2)) = true := decide_eq_true c24
                  clear c24
                  obtain rfl := Option.some.inj H
                  go_wp2
                  go_ret
                  exact ⟨by first | rfl | (simp [errW_none, errW_some] <;> rfl) | (simp [*, errW_none, errW_some] <;> rfl), by repeat (first | (with_reducible first | exact HB.out | apply below_alloc | apply pw_below_drewN | apply below_drew1 | refine below_set ?_ GE232.out) | exact HB.out)⟩
                 ·rw [if_neg c24] at H
                  have c24b0 : decide (65536000 < ((rd_T35 l0 x20_1).f1.f2)) = false := decide_eq_false c24
                  clear c24
                  have H' := Aside0.mk H
                  clear H
                  go_wp2
                  go_roundg k3
                  case measure => have := HK1.out; have := HJ6.out; have := HK3.out; omega
                  case rel => exact ⟨(wrap64 (2 + 1)), (by first | rfl | (simp; done) | (simp [*]; done) | (simp; decide +kernel)), H', ⟨by have := HK1.out; have := HJ6.out; have := HK3.out; omega⟩, ⟨by (with_reducible repeat (first | refine blk_drewN ?_ _ | refine blk_drew ?_ | refine blk_alloc ?_ _)); exact BK232.out⟩, ⟨by repeat (first | (with_reducible first | exact HB.out | apply below_alloc | apply pw_below_drewN | apply below_drew1 | refine below_set ?_ GE232.out) | exact HB.out)⟩⟩
               ·rw [if_neg c22] at H
                exact absurd H (by simp)
            ·rw [if_neg c15] at H
             have c15b0 : decide (x36_3 < 3) = false := decide_eq_false c15
             clear c15
             have H' := Aside0.mk H
             clear H
             go_wp2
             go_roundg k3
             case measure => have := HK1.out; have := HJ6.out; have := HK3.out; omega
             case rel => exact ⟨(wrap64 (x20_1 + 1)), (by first | rfl | (simp; done) | (simp [*]; done) | (simp; decide +kernel)), H', ⟨by have := HK1.out; have := HJ6.out; have := HK3.out; omega⟩, ⟨by repeat (first | (with_reducible first | exact HB.out | apply below_alloc | apply pw_below_drewN | apply below_drew1 | refine below_set ?_ GE232.out) | exact HB.out)⟩⟩
      ·rw [if_neg c6] at H
       exact absurd H (by simp)
     ·rw [if_neg c5] at H
      exact absurd H (by simp)
    ·rw [if_neg c4] at H
     have c4b0 : decide (x20_1 < (l0.length : Int)) = false := decide_eq_false c4
     clear c4
     have H' := Aside0.mk H
     clear H
     go_wp2
     go_loopg [49] k1 (fun kq v49 w' => ∃ (x49_2 : Int), v49 = .int .i64 x49_2 ∧ Aside0 (tourref5_BonesFault.l2 kq l0 l1 (l1.length : Int) x49_2 = some r) ∧ Aside0 (kq ≤ k1) ∧ Aside0 (Below w.heap.size w w'))
     case atStart => exact ⟨(0), (by first | rfl | (simp; done) | (simp [*]; done) | (simp; decide +kernel)), H', ⟨Nat.le_refl _⟩, ⟨by repeat (first | (with_reducible first | exact HB.out | apply below_alloc | apply pw_below_drewN | apply below_drew1) | exact HB.out)⟩⟩
     case round =>
      clear H'
      try clear c1
      try clear c2
      try clear p2
      try clear q2
      try clear hx2
      try clear c3
      try clear c3b0
      try clear c3b1
      try clear c4
      try clear c4b0
      try clear c5
      try clear c5b0
      try clear c6
      try clear c6b0
      try clear p6
      try clear c10
      try clear c10b0
      try clear c13
      try clear c15
      try clear c15b0
      try clear c16
      try clear c17
      try clear c17b0
      try clear c18
      try clear c18b0
      try clear c19
      try clear c20
      try clear c20b0
      try clear c21
      try clear c21b0
      try clear c22
      try clear c23
      try clear c23b0
      try clear p23
      try clear q23
      try clear hx23
      try clear c24
      try clear c24b0
      try clear hcz11_0
      try clear hcz11_1
      try clear hcz11_2
      try clear hcz11_3
      try clear hcz12_0
      try clear hcz12_1
      try clear hcz12_2
      try clear hcz12_3
      try clear hcz14_0
      try clear hcz14_1
      try clear hcz14_2
      try clear hcz14_3
      try clear hcz9_0
      try clear hcz9_1
      try clear hcz9_2
      try clear hcz9_3
      try clear hfz11_0
      try clear hfz11_1
      try clear hfz11_2
      try clear hfz11_3
      try clear hfz12_0
      try clear hfz12_1
      try clear hfz12_2
      try clear hfz12_3
      try clear hfz14_0
      try clear hfz14_1
      try clear hfz14_2
      try clear hfz14_3
      try clear hfz9_0
      try clear hfz9_1
      try clear hfz9_2
      try clear hfz9_3
      try clear hx231_0
      try clear hx231_1
      try clear hx231_2
      try clear hx231_3
      try clear p2
      try clear p231
      try clear q2
      try clear q231
      obtain ⟨x49_2, rfl, HA, HK2, HB⟩ := hrel
      cases gk with
      | zero => exact absurd HA.out (by simp [tourref5_BonesFault.l2])
      | succ k2 =>
       have H := HA.out
       clear HA
       simp only [tourref5_BonesFault.l2] at H
       by_cases c25 : x49_2 < (l1.length : Int)
       ·rw [if_pos c25] at H
        have c25b0 : decide (x49_2 < (l1.length : Int)) = true := decide_eq_true c25
        clear c25
        by_cases c26 : 0 ≤ x49_2
        ·rw [if_pos c26] at H
         have c26b0 : decide (0 ≤ x49_2) = true := decide_eq_true c26
         clear c26
         by_cases c27 : x49_2 < (l1.length : Int)
         ·rw [if_pos c27] at H
          have c27b0 : decide (x49_2 < (l1.length : Int)) = true := decide_eq_true c27
          clear c27
          by_cases c28 : ((rd_L4 l1 x49_2).length : Int) = (l0.length : Int)
          ·rw [if_pos c28] at H
           have c28b0 : (((rd_L4 l1 x49_2).length : Int) == (l0.length : Int)) = true := beq_iff_eq.mpr c28
           have c28b1 : (((rd_L4 l1 x49_2).length : Int) != (l0.length : Int)) = false := bne_eq_false_iff_eq.mpr c28
           have c28b2 : ((rd_L4 l1 x49_2).length == l0.length) = true := by first | simpa using c28 | (simp at c28 ⊢; omega)
           clear c28
           have H' := Aside0.mk H
           clear H
           have p233 : 0 ≤ (x49_2 : Int) := of_decide_eq_true (by first | (with_reducible assumption) | assumption)
           have q233 : x49_2 < (l1.length : Int) := of_decide_eq_true (by first | (with_reducible assumption) | assumption)
           obtain ⟨ad233, A233_0, c233_0, e233, hx233_0, hl233_0, hi233_0⟩ := at_L4 HR1.out x49_2 p233 q233
           cases e233
           replace hx233_0 := (HB.out.cell (World.block_lt_of_cell? w _ hx233_0)).trans hx233_0
           have HR233_0 := Aside0.mk hi233_0
           have HC233_0 := Aside0.mk hl233_0
           clear hi233_0 hl233_0
           replace p233 := eq_true p233
           replace q233 := eq_true q233
           go_wp2
           go_loopg [60] k2 (fun kq v60 w' => ∃ (x60_3 : Int), v60 = .int .i64 x60_3 ∧ Aside0 (tourref5_BonesFault.l3 kq l0 l1 (l1.length : Int) x49_2 (rd_L4 l1 x49_2) ((rd_L4 l1 x49_2).length : Int) x60_3 = some r) ∧ Aside0 (kq ≤ k2) ∧ Aside0 (Below w.heap.size w w'))
           case atStart => exact ⟨(0), (by first | rfl | (simp; done) | (simp [*]; done) | (simp; decide +kernel)), H', ⟨Nat.le_refl _⟩, ⟨by repeat (first | (with_reducible first | exact HB.out | apply below_alloc | apply pw_below_drewN | apply below_drew1) | exact HB.out)⟩⟩
           case round =>
            clear H'
            try clear c1
            try clear c2
            try clear p2
            try clear q2
            try clear hx2
            try clear c3
            try clear c3b0
            try clear c3b1
            try clear c4
            try clear c4b0
            try clear c5
            try clear c5b0
            try clear c6
            try clear c6b0
            try clear p6
            try clear c10
            try clear c10b0
            try clear c13
            try clear c15
            try clear c15b0
            try clear c16
            try clear c17
            try clear c17b0
            try clear c18
            try clear c18b0
            try clear c19
            try clear c20
            try clear c20b0
            try clear c21
            try clear c21b0
            try clear c22
            try clear c23
            try clear c23b0
            try clear p23
            try clear q23
            try clear hx23
            try clear c24
            try clear c24b0
            try clear c25
            try clear c25b0
            try clear c26
            try clear c26b0
            try clear c27
            try clear c27b0
            try clear c28
            try clear c28b0
            try clear c28b1
            try clear c28b2
            try clear hcz11_0
            try clear hcz11_1
            try clear hcz11_2
            try clear hcz11_3
            try clear hcz12_0
            try clear hcz12_1
            try clear hcz12_2
            try clear hcz12_3
            try clear hcz14_0
            try clear hcz14_1
            try clear hcz14_2
            try clear hcz14_3
            try clear hcz9_0
            try clear hcz9_1
            try clear hcz9_2
            try clear hcz9_3
            try clear hfz11_0
            try clear hfz11_1
            try clear hfz11_2
            try clear hfz11_3
            try clear hfz12_0
            try clear hfz12_1
            try clear hfz12_2
            try clear hfz12_3
            try clear hfz14_0
            try clear hfz14_1
            try clear hfz14_2
            try clear hfz14_3
            try clear hfz9_0
            try clear hfz9_1
            try clear hfz9_2
            try clear hfz9_3
            try clear hx231_0
            try clear hx231_1
            try clear hx231_2
            try clear hx231_3
            try clear hx233_0
            try clear p2
            try clear p23
            try clear p231
            try clear p233
            try clear p6
            try clear q2
            try clear q23
            try clear q231
            try clear q233
            obtain ⟨x60_3, rfl, HA, HK3, HB⟩ := hrel
            cases gk with
            | zero => exact absurd HA.out (by simp [tourref5_BonesFault.l3])
            | succ k3 =>
             have H := HA.out
             clear HA
             simp only [tourref5_BonesFault.l3] at H
             by_cases c29 : x60_3 < ((rd_L4 l1 x49_2).length : Int)
             ·rw [if_pos c29] at H
              have c29b0 : decide (x60_3 < ((rd_L4 l1 x49_2).length : Int)) = true := decide_eq_true c29
              clear c29
              by_cases c30 : 0 ≤ x60_3
              ·rw [if_pos c30] at H
               have c30b0 : decide (0 ≤ x60_3) = true := decide_eq_true c30
               clear c30
               by_cases c31 : x60_3 < ((rd_L4 l1 x49_2).length : Int)
               ·rw [if_pos c31] at H
                have c31b0 : decide (x60_3 < ((rd_L4 l1 x49_2).length : Int)) = true := decide_eq_true c31
                clear c31
                obtain ⟨y236, hy236⟩ : ∃ y_ : List Int, y_ = (([(rd_T37 (rd_L4 l1 x49_2) x60_3).f0, (rd_T37 (rd_L4 l1 x49_2) x60_3).f1, (rd_T37 (rd_L4 l1 x49_2) x60_3).f2, (rd_T37 (rd_L4 l1 x49_2) x60_3).f3] : List Int)) := ⟨_, rfl⟩
                replace H : (tourref5_BonesFault.l4 k3 l0 l1 (l1.length : Int) x49_2 (rd_L4 l1 x49_2) ((rd_L4 l1 x49_2).length : Int) x60_3 y236 (y236.length : Int) 0) = some r := by first | (rw [hy236]; with_reducible exact H) | (have H2_ := (Option.bind_some _ _).symm.trans H; rw [hy236]; with_reducible exact H2_) | (have H2_ := (Option.bind_some _ _).symm.trans H; with_reducible exact H2_) | with_reducible exact H | (rw [hy236]; exact H) | exact H
                have Ny236 := Aside0.mk hy236
                clear hy236
                have H' := Aside0.mk H
                clear H
                have p234 : 0 ≤ (x60_3 : Int) := of_decide_eq_true (by first | (with_reducible assumption) | assumption)
                have q234 : x60_3 < ((rd_L4 l1 x49_2).length : Int) := of_decide_eq_true (by first | (with_reducible assumption) | assumption)
                obtain ⟨ad234, e234, hx234_0, hx234_1, hx234_2, hx234_3⟩ := at_T37 HR233_0.out x60_3 p234 q234
                cases e234
                replace hx234_0 := (HB.out.cell (World.block_lt_of_cell? w _ hx234_0)).trans hx234_0
                replace hx234_1 := (HB.out.cell (World.block_lt_of_cell? w _ hx234_1)).trans hx234_1
                replace hx234_2 := (HB.out.cell (World.block_lt_of_cell? w _ hx234_2)).trans hx234_2
                replace hx234_3 := (HB.out.cell (World.block_lt_of_cell? w _ hx234_3)).trans hx234_3
                replace p234 := eq_true p234
                replace q234 := eq_true q234
                go_wp2_with (first | ((with_reducible refine gate_dst (N := 12) rfl ?_); refine box_event ?hg (N := 12) ?hd (cs := #[.int .i64 0, .int .i64 0, .int .i64 0, .int .i64 0]) (t := 37) ?hr ?_; (case hd => rfl); (case hg => rfl); (case hr => first | (go_simp; done) | (go_simp; rfl)); intro gb235 hg w32 hbox hb; have n0_ := Aside0.mk (below_step (by repeat (first | (with_reducible first | exact HB.out | apply below_alloc | apply pw_below_drewN | apply below_drew1) | exact HB.out)) hb); have n1_ := Aside0.mk (hbox); have n2_ := Aside0.mk ((by rw [hg]; exact (below_size (by repeat (first | (with_reducible first | exact HB.out | apply below_alloc | apply pw_below_drewN | apply below_drew1) | exact HB.out))) : w.heap.size ≤ gb235)); have n3_ := Aside0.mk ((by rw [hg]; exact (below_size (by repeat (first | (with_reducible first | exact HB.out | apply below_alloc | apply pw_below_drewN | apply below_drew1) | exact HB.out))) : w.heap.size ≤ gb235)); clear HB; have HB := n0_; have BK235 := n1_; have GW235 := n2_; have GE235 := n3_; clear n0_ n1_ n2_ n3_; clear hb hbox hg; have hcz33_0 : w32.cell? ⟨gb235, 0, none⟩ = some (.int .i64 0) := (blk_cell BK235.out 0).trans rfl; have hcz33_1 : w32.cell? ⟨gb235, 1, none⟩ = some (.int .i64 0) := (blk_cell BK235.out 1).trans rfl; have hcz33_2 : w32.cell? ⟨gb235, 2, none⟩ = some (.int .i64 0) := (blk_cell BK235.out 2).trans rfl; have hcz33_3 : w32.cell? ⟨gb235, 3, none⟩ = some (.int .i64 0) := (blk_cell BK235.out 3).trans rfl; have hfz33_0 := blk_frozen BK235.out 0; have hfz33_1 := blk_frozen BK235.out 1; have hfz33_2 := blk_frozen BK235.out 2; have hfz33_3 := blk_frozen BK235.out 3) | ((with_reducible refine gate_dst (N := 72) rfl ?_); refine Kd.R_lit (Kd.int .i64) _ 3 ?hg (N := 72) ?hd (xs := ([(rd_T37 (rd_L4 l1 x49_2) x60_3).f0, (rd_T37 (rd_L4 l1 x49_2) x60_3).f1, (rd_T37 (rd_L4 l1 x49_2) x60_3).f2, (rd_T37 (rd_L4 l1 x49_2) x60_3).f3] : List Int)) (inner := [.int .i64 ((rd_T37 (rd_L4 l1 x49_2) x60_3).f0), .int .i64 ((rd_T37 (rd_L4 l1 x49_2) x60_3).f1), .int .i64 ((rd_T37 (rd_L4 l1 x49_2) x60_3).f2), .int .i64 ((rd_T37 (rd_L4 l1 x49_2) x60_3).f3)]) (ok := fun _ => True) (okp := fun _ => True) ?hr ?hp (fun _ hk => hk) trivial (Below.refl _ _) (Nat.le_refl _) (by simp) ?_; (case hd => rfl); (case hg => rfl); (case hr => first | (go_simp; done) | (go_simp; rfl)); (case hp => exact (Reps.one (show Kd.M (Kd.int .i64) _ _ _ ((rd_T37 (rd_L4 l1 x49_2) x60_3).f0) [.int .i64 ((rd_T37 (rd_L4 l1 x49_2) x60_3).f0)] from rfl) (Reps.one (show Kd.M (Kd.int .i64) _ _ _ ((rd_T37 (rd_L4 l1 x49_2) x60_3).f1) [.int .i64 ((rd_T37 (rd_L4 l1 x49_2) x60_3).f1)] from rfl) (Reps.one (show Kd.M (Kd.int .i64) _ _ _ ((rd_T37 (rd_L4 l1 x49_2) x60_3).f2) [.int .i64 ((rd_T37 (rd_L4 l1 x49_2) x60_3).f2)] from rfl) (Reps.one (show Kd.M (Kd.int .i64) _ _ _ ((rd_T37 (rd_L4 l1 x49_2) x60_3).f3) [.int .i64 ((rd_T37 (rd_L4 l1 x49_2) x60_3).f3)] from rfl) (Reps.none _ _)))))); intro v237 w34 ho35 hb hg_ hnew_; clear hg_ hnew_; (first | rw [← Ny236.out] at ho35 | (simp only [Int.reduceToNat] at ho35; rw [← Ny236.out] at ho35)); have n0_ := Aside0.mk (Kd.R_lower ho35 (below_size (by repeat (first | (with_reducible first | exact HB.out | apply below_alloc | apply pw_below_drewN | apply below_drew1 | refine below_set ?_ GE235.out) | exact HB.out)))); have n1_ := Aside0.mk (blk_below (g := gb235) (o := .cells #[.int .i64 ((rd_T37 (rd_L4 l1 x49_2) x60_3).f0), .int .i64 ((rd_T37 (rd_L4 l1 x49_2) x60_3).f1), .int .i64 ((rd_T37 (rd_L4 l1 x49_2) x60_3).f2), .int .i64 ((rd_T37 (rd_L4 l1 x49_2) x60_3).f3)] 37 (0, 0)) (by (with_reducible repeat (first | refine blk_drewN ?_ _ | refine blk_drew ?_ | refine blk_alloc ?_ _)); refine blk_put (cs := #[.int .i64 ((rd_T37 (rd_L4 l1 x49_2) x60_3).f0), .int .i64 ((rd_T37 (rd_L4 l1 x49_2) x60_3).f1), .int .i64 ((rd_T37 (rd_L4 l1 x49_2) x60_3).f2), .int .i64 0]) ?_ 3 _ rfl; (with_reducible repeat (first | refine blk_drewN ?_ _ | refine blk_drew ?_ | refine blk_alloc ?_ _)); refine blk_put (cs := #[.int .i64 ((rd_T37 (rd_L4 l1 x49_2) x60_3).f0), .int .i64 ((rd_T37 (rd_L4 l1 x49_2) x60_3).f1), .int .i64 0, .int .i64 0]) ?_ 2 _ rfl; (with_reducible repeat (first | refine blk_drewN ?_ _ | refine blk_drew ?_ | refine blk_alloc ?_ _)); refine blk_put (cs := #[.int .i64 ((rd_T37 (rd_L4 l1 x49_2) x60_3).f0), .int .i64 0, .int .i64 0, .int .i64 0]) ?_ 1 _ rfl; (with_reducible repeat (first | refine blk_drewN ?_ _ | refine blk_drew ?_ | refine blk_alloc ?_ _)); refine blk_put (cs := #[.int .i64 0, .int .i64 0, .int .i64 0, .int .i64 0]) ?_ 0 _ rfl; (with_reducible repeat (first | refine blk_drewN ?_ _ | refine blk_drew ?_ | refine blk_alloc ?_ _)); exact BK235.out) hb); have n2_ := Aside0.mk (below_step (by repeat (first | (with_reducible first | exact HB.out | apply below_alloc | apply pw_below_drewN | apply below_drew1 | refine below_set ?_ GE235.out) | exact HB.out)) hb); clear BK235; clear HB; have HO238 := n0_; have BK235 := n1_; have HB := n2_; clear n0_ n1_ n2_; clear hb ho35; obtain ⟨Ao36, co36, eo36⟩ := Kd.R_slice HO238.out; subst eo36))
                go_loopg [74] k3 (fun kq v74 w' => ∃ (x74_4 : Int), v74 = .int .i64 x74_4 ∧ Aside0 (tourref5_BonesFault.l4 kq l0 l1 (l1.length : Int) x49_2 (rd_L4 l1 x49_2) ((rd_L4 l1 x49_2).length : Int) x60_3 y236 (y236.length : Int) x74_4 = some r) ∧ Aside0 (kq ≤ k3) ∧ Aside0 (Kd.R (Kd.int .i64) 3 w' w.heap.size (fun _ => True) (.slice Ao36 y236.length co36) y236) ∧ Aside0 (w'.heap[gb235]? = some (.cells #[.int .i64 ((rd_T37 (rd_L4 l1 x49_2) x60_3).f0), .int .i64 ((rd_T37 (rd_L4 l1 x49_2) x60_3).f1), .int .i64 ((rd_T37 (rd_L4 l1 x49_2) x60_3).f2), .int .i64 ((rd_T37 (rd_L4 l1 x49_2) x60_3).f3)] 37 (0, 0))) ∧ Aside0 (Below w.heap.size w w'))
                case atStart => exact ⟨(0), (by first | rfl | (simp; done) | (simp [*]; done) | (simp; decide +kernel)), H', ⟨Nat.le_refl _⟩, ⟨by (with_reducible repeat (first | apply Kd.R_alloc | apply Kd.R_drewN | apply Kd.R_drew)); exact HO238.out⟩, ⟨by (with_reducible repeat (first | refine blk_drewN ?_ _ | refine blk_drew ?_ | refine blk_alloc ?_ _)); exact BK235.out⟩, ⟨by repeat (first | (with_reducible first | exact HB.out | apply below_alloc | apply pw_below_drewN | apply below_drew1 | refine below_set ?_ GE235.out) | exact HB.out)⟩⟩
                case round =>
                 clear H'
                 try clear c1
                 try clear c2
                 try clear p2
                 try clear q2
                 try clear hx2
                 try clear c3
                 try clear c3b0
                 try clear c3b1
                 try clear c4
                 try clear c4b0
                 try clear c5
                 try clear c5b0
                 try clear c6
                 try clear c6b0
                 try clear p6
                 try clear c10
                 try clear c10b0
                 try clear c13
                 try clear c15
                 try clear c15b0
                 try clear c16
                 try clear c17
                 try clear c17b0
                 try clear c18
                 try clear c18b0
                 try clear c19
                 try clear c20
                 try clear c20b0
                 try clear c21
                 try clear c21b0
                 try clear c22
                 try clear c23
                 try clear c23b0
                 try clear p23
                 try clear q23
                 try clear hx23
                 try clear c24
                 try clear c24b0
                 try clear c25
                 try clear c25b0
                 try clear c26
                 try clear c26b0
                 try clear c27
                 try clear c27b0
                 try clear c28
                 try clear c28b0
                 try clear c28b1
                 try clear c28b2
                 try clear c29
                 try clear c29b0
                 try clear c30
                 try clear c30b0
                 try clear c31
                 try clear c31b0
                 try clear hcz11_0
                 try clear hcz11_1
                 try clear hcz11_2
                 try clear hcz11_3
                 try clear hcz12_0
                 try clear hcz12_1
                 try clear hcz12_2
                 try clear hcz12_3
                 try clear hcz14_0
                 try clear hcz14_1
                 try clear hcz14_2
                 try clear hcz14_3
                 try clear hcz33_0
                 try clear hcz33_1
                 try clear hcz33_2
                 try clear hcz33_3
                 try clear hcz9_0
                 try clear hcz9_1
                 try clear hcz9_2
                 try clear hcz9_3
                 try clear hfz11_0
                 try clear hfz11_1
                 try clear hfz11_2
                 try clear hfz11_3
                 try clear hfz12_0
                 try clear hfz12_1
                 try clear hfz12_2
                 try clear hfz12_3
                 try clear hfz14_0
                 try clear hfz14_1
                 try clear hfz14_2
                 try clear hfz14_3
                 try clear hfz33_0
                 try clear hfz33_1
                 try clear hfz33_2
                 try clear hfz33_3
                 try clear hfz9_0
                 try clear hfz9_1
                 try clear hfz9_2
                 try clear hfz9_3
                 try clear hx231_0
                 try clear hx231_1
                 try clear hx231_2
                 try clear hx231_3
                 try clear hx233_0
                 try clear hx234_0
                 try clear hx234_1
                 try clear hx234_2
                 try clear hx234_3
                 try clear p2
                 try clear p23
                 try clear p231
                 try clear p233
                 try clear p234
                 try clear p6
                 try clear q2
                 try clear q23
                 try clear q231
                 try clear q233
                 try clear q234
                 obtain ⟨x74_4, rfl, HA, HK4, HO_72, BK235, HB⟩ := hrel
                 cases gk with
                 | zero => exact absurd HA.out (by simp [tourref5_BonesFault.l4])
                 | succ k4 =>
                  have H := HA.out
                  clear HA
                  simp only [tourref5_BonesFault.l4] at H
                  by_cases c37 : x74_4 < (y236.length : Int)
                  ·rw [if_pos c37] at H
                   have c37b0 : decide (x74_4 < (y236.length : Int)) = true := decide_eq_true c37
                   clear c37
                   by_cases c38 : 0 ≤ x74_4
                   ·rw [if_pos c38] at H
                    have c38b0 : decide (0 ≤ x74_4) = true := decide_eq_true c38
                    clear c38
                    by_cases c39 : x74_4 < (y236.length : Int)
                    ·rw [if_pos c39] at H
                     have c39b0 : decide (x74_4 < (y236.length : Int)) = true := decide_eq_true c39
                     clear c39
                     by_cases c40 : (rd y236 x74_4) < (-131072)
                     ·rw [if_pos c40] at H
                      have c40b0 : decide ((rd y236 x74_4) < (-131072)) = true := decide_eq_true c40
                      clear c40
                      obtain rfl := Option.some.inj H
                      have p239 : 0 ≤ (x74_4 : Int) := of_decide_eq_true (by first | (with_reducible assumption) | assumption)
                      have q239 : x74_4 < (y236.length : Int) := of_decide_eq_true (by first | (with_reducible assumption) | assumption)
                      obtain ⟨ad239, e239, hx239_0⟩ := Kd.at_int (Kd.R_reads' HO_72.out).2.2 x74_4 p239 q239
                      cases e239
                      replace p239 := eq_true p239
                      replace q239 := eq_true q239
                      go_wp2
                      go_ret
                      exact ⟨by first | rfl | (simp [errW_none, errW_some] <;> rfl) | (simp [*, errW_none, errW_some] <;> rfl), by repeat (first | (with_reducible first | exact HB.out | apply below_alloc | apply pw_below_drewN | apply below_drew1 | refine below_set ?_ GE235.out) | exact HB.out)⟩
                     ·rw [if_neg c40] at H
                      have c40b0 : decide ((rd y236 x74_4) < (-131072)) = false := decide_eq_false c40
                      clear c40
                      by_cases c41 : (rd y236 x74_4) > 131072
                      ·rw [if_pos c41] at H
                       have c41b0 : decide (131072 < (rd y236 x74_4)) = true := decide_eq_true c41
                       clear c41
                       obtain rfl := Option.some.inj H
                       have p239 : 0 ≤ (x74_4 : Int) := of_decide_eq_true (by first | (with_reducible assumption) | assumption)
                       have q239 : x74_4 < (y236.length : Int) := of_decide_eq_true (by first | (with_reducible assumption) | assumption)
                       obtain ⟨ad239, e239, hx239_0⟩ := Kd.at_int (Kd.R_reads' HO_72.out).2.2 x74_4 p239 q239
                       cases e239
                       replace p239 := eq_true p239
                       replace q239 := eq_true q239
                       go_wp2
                       go_ret
                       exact ⟨by first | rfl | (simp [errW_none, errW_some] <;> rfl) | (simp [*, errW_none, errW_some] <;> rfl), by repeat (first | (with_reducible first | exact HB.out | apply below_alloc | apply pw_below_drewN | apply below_drew1 | refine below_set ?_ GE235.out) | exact HB.out)⟩
                      ·rw [if_neg c41] at H
                       have c41b0 : decide (131072 < (rd y236 x74_4)) = false := decide_eq_false c41
                       clear c41
                       have H' := Aside0.mk H
                       clear H
                       have p239 : 0 ≤ (x74_4 : Int) := of_decide_eq_true (by first | (with_reducible assumption) | assumption)
                       have q239 : x74_4 < (y236.length : Int) := of_decide_eq_true (by first | (with_reducible assumption) | assumption)
                       obtain ⟨ad239, e239, hx239_0⟩ := Kd.at_int (Kd.R_reads' HO_72.out).2.2 x74_4 p239 q239
                       cases e239
                       replace p239 := eq_true p239
                       replace q239 := eq_true q239
                       go_wp2
                       go_roundg k4
                       case measure => have := HK1.out; have := HK2.out; have := HK3.out; have := HK4.out; omega
                       case rel => exact ⟨(wrap64 (x74_4 + 1)), (by first | rfl | (simp; done) | (simp [*]; done) | (simp; decide +kernel)), H', ⟨by have := HK1.out; have := HK2.out; have := HK3.out; have := HK4.out; omega⟩, ⟨by (with_reducible repeat (first | apply Kd.R_alloc | apply Kd.R_drewN | apply Kd.R_drew)); exact HO_72.out⟩, ⟨by (with_reducible repeat (first | refine blk_drewN ?_ _ | refine blk_drew ?_ | refine blk_alloc ?_ _)); exact BK235.out⟩, ⟨by repeat (first | (with_reducible first | exact HB.out | apply below_alloc | apply pw_below_drewN | apply below_drew1 | refine below_set ?_ GE235.out) | exact HB.out)⟩⟩
                    ·rw [if_neg c39] at H
                     exact absurd H (by simp)
                   ·rw [if_neg c38] at H
                    exact absurd H (by simp)
                  ·rw [if_neg c37] at H
                   have c37b0 : decide (x74_4 < (y236.length : Int)) = false := decide_eq_false c37
                   clear c37
                   have H' := Aside0.mk H
                   clear H
                   go_wp2
                   go_roundg k4
                   case measure => have := HK1.out; have := HK2.out; have := HK3.out; have := HK4.out; omega
                   case rel => exact ⟨(wrap64 (x60_3 + 1)), (by first | rfl | (simp; done) | (simp [*]; done) | (simp; decide +kernel)), H', ⟨by have := HK1.out; have := HK2.out; have := HK3.out; have := HK4.out; omega⟩, ⟨by repeat (first | (with_reducible first | exact HB.out | apply below_alloc | apply pw_below_drewN | apply below_drew1 | refine below_set ?_ GE235.out) | exact HB.out)⟩⟩
               ·rw [if_neg c31] at H
                exact absurd H (by simp)
              ·rw [if_neg c30] at H
               exact absurd H (by simp)
             ·rw [if_neg c29] at H
              have c29b0 : decide (x60_3 < ((rd_L4 l1 x49_2).length : Int)) = false := decide_eq_false c29
              clear c29
              have H' := Aside0.mk H
              clear H
              go_wp2
              go_roundg k3
              case measure => have := HK1.out; have := HK2.out; have := HK3.out; omega
              case rel => exact ⟨(wrap64 (x49_2 + 1)), (by first | rfl | (simp; done) | (simp [*]; done) | (simp; decide +kernel)), H', ⟨by have := HK1.out; have := HK2.out; have := HK3.out; omega⟩, ⟨by repeat (first | (with_reducible first | exact HB.out | apply below_alloc | apply pw_below_drewN | apply below_drew1) | exact HB.out)⟩⟩
          ·rw [if_neg c28] at H
           have c28b0 : (((rd_L4 l1 x49_2).length : Int) == (l0.length : Int)) = false := beq_eq_false_iff_ne.mpr c28
           have c28b1 : (((rd_L4 l1 x49_2).length : Int) != (l0.length : Int)) = true := bne_iff_ne.mpr c28
           have c28b2 : ((rd_L4 l1 x49_2).length == l0.length) = false := by first | simpa using c28 | (simp at c28 ⊢; omega)
           obtain rfl := Option.some.inj H
           have p233 : 0 ≤ (x49_2 : Int) := of_decide_eq_true (by first | (with_reducible assumption) | assumption)
           have q233 : x49_2 < (l1.length : Int) := of_decide_eq_true (by first | (with_reducible assumption) | assumption)
           obtain ⟨ad233, A233_0, c233_0, e233, hx233_0, hl233_0, hi233_0⟩ := at_L4 HR1.out x49_2 p233 q233
           cases e233
           replace hx233_0 := (HB.out.cell (World.block_lt_of_cell? w _ hx233_0)).trans hx233_0
           have HR233_0 := Aside0.mk hi233_0
           have HC233_0 := Aside0.mk hl233_0
           clear hi233_0 hl233_0
           replace p233 := eq_true p233
           replace q233 := eq_true q233
           go_wp2
           go_ret
           exact ⟨by first | rfl | (simp [errW_none, errW_some] <;> rfl) | (simp [*, errW_none, errW_some] <;> rfl), by repeat (first | (with_reducible first | exact HB.out | apply below_alloc | apply pw_below_drewN | apply below_drew1) | exact HB.out)⟩
         ·rw [if_neg c27] at H
          exact absurd H (by simp)
        ·rw [if_neg c26] at H
         exact absurd H (by simp)
       ·rw [if_neg c25] at H
        have c25b0 : decide (x49_2 < (l1.length : Int)) = false := decide_eq_false c25
        clear c25
        obtain rfl := Option.some.inj H
        go_wp2
        go_ret
        exact ⟨by first | rfl | (simp [errW_none, errW_some] <;> rfl) | (simp [*, errW_none, errW_some] <;> rfl), by repeat (first | (with_reducible first | exact HB.out | apply below_alloc | apply pw_below_drewN | apply below_drew1) | exact HB.out)⟩

end Go.Proofs.Ytfallkiaojefnaa.PBonesPlay
