-- Printed by a program: the print with changes of this session (wip/printpatch.py).
import Derived.Test.YtfallkiaojefnaaPBonesLongx0
import Derived.Test.YtfallkiaojefnaaPBonesLongx2
import Derived.Test.YtfallkiaojefnaaPBonesLongx3
import Derived.Test.YtfallkiaojefnaaPBonesLongx7
import Derived.Test.YtfallkiaojefnaaPBonesLongx12
namespace Go.Proofs.Ytfallkiaojefnaa.PBonesLong
open Go.Proofs.Ytfallkiaojefnaa.Fnv Go.Proofs.Ytfallkiaojefnaa.Ary Go.Proofs.Ytfallkiaojefnaa.Ext
open Go.RowKit Go.Proofs.YtfallkiaojefnaaW.PrintWords Go.Proofs.YtfallkiaojefnaaW.PrintLast Go.Proofs.YtfallkiaojefnaaW.PrintMore
attribute [local go_sem] max2_int min2_int max_two min_two max_three min_three max_four min_four   -- for this text's walks alone
set_option linter.unusedVariables false
set_option linter.unusedSimpArgs false

/-! ### trig_Sin: function 40 -/
def trig_Sin.f (a0 : Int) : Option (Int) := if (wrap64 (Int.tdiv (Go.bits .and .i64 a0 65535) 16384)) = 0 then ((trig_first.f (Int.tmod (Go.bits .and .i64 a0 65535) 16384)).bind fun t283 => (some t283)) else (if (wrap64 (Int.tdiv (Go.bits .and .i64 a0 65535) 16384)) = 1 then ((trig_first.f (wrap64 (16384 - (Int.tmod (Go.bits .and .i64 a0 65535) 16384)))).bind fun t284 => (some t284)) else (if (wrap64 (Int.tdiv (Go.bits .and .i64 a0 65535) 16384)) = 2 then ((trig_first.f (Int.tmod (Go.bits .and .i64 a0 65535) 16384)).bind fun t285 => (some (wrap64 (-t285)))) else ((trig_first.f (wrap64 (16384 - (Int.tmod (Go.bits .and .i64 a0 65535) 16384)))).bind fun t286 => (some (wrap64 (-t286))))))
set_option maxHeartbeats 8000000 in
set_option maxRecDepth 100000 in
theorem trig_Sin.calls (a0 : Int) (r : Int) (w : World) (h : trig_Sin.f a0 = some r) :
  Calls Try.prog 40 #[.int .i64 a0] w fun e w' => e = .returned (.int .i64 r) ∧ Below w.heap.size w w' := by
 have HB := Aside0.mk (Below.refl w.heap.size w)
 have H : (if (wrap64 (Int.tdiv (Go.bits .and .i64 a0 65535) 16384)) = 0 then ((trig_first.f (Int.tmod (Go.bits .and .i64 a0 65535) 16384)).bind fun t283 => (some t283)) else (if (wrap64 (Int.tdiv (Go.bits .and .i64 a0 65535) 16384)) = 1 then ((trig_first.f (wrap64 (16384 - (Int.tmod (Go.bits .and .i64 a0 65535) 16384)))).bind fun t284 => (some t284)) else (if (wrap64 (Int.tdiv (Go.bits .and .i64 a0 65535) 16384)) = 2 then ((trig_first.f (Int.tmod (Go.bits .and .i64 a0 65535) 16384)).bind fun t285 => (some (wrap64 (-t285)))) else ((trig_first.f (wrap64 (16384 - (Int.tmod (Go.bits .and .i64 a0 65535) 16384)))).bind fun t286 => (some (wrap64 (-t286))))))) = some r := h
 clear h
 by_cases c2 : (wrap64 (Int.tdiv (Go.bits .and .i64 a0 65535) 16384)) = 0
 ·rw [if_pos c2] at H
  have c2b0 : ((wrap64 (Int.tdiv (Go.bits .and .i64 a0 65535) 16384)) == 0) = true := beq_iff_eq.mpr c2
  have c2b1 : ((wrap64 (Int.tdiv (Go.bits .and .i64 a0 65535) 16384)) != 0) = false := bne_eq_false_iff_eq.mpr c2
  clear c2
  replace H := Option.bind_eq_some_iff.mp H
  obtain ⟨t283, A30, H⟩ := H
  replace H : (some t283) = some r := H
  have A3 := Aside0.mk A30
  clear A30
  obtain rfl := Option.some.inj H
  go_enter Try.func40, Try.ntmps40
  go_wp2_with (first | ((with_reducible refine gate_callee (f := 46) rfl ?_); refine goesL_ (some 13) rfl rfl Try.func46 (by kernel_rfl) rfl #[.int .i64 (Int.tmod (Go.bits .and .i64 a0 65535) 16384)] rfl (by (try simp only [zm1, zm2, zm3]); first | done | rfl) ?_; (with_reducible refine (trig_first.calls (Int.tmod (Go.bits .and .i64 a0 65535) 16384) t283 _ A3.out).mono ?_); rintro e w4 ⟨rfl, hb⟩; refine ⟨_, rfl, ?_⟩; have n0_ := Aside0.mk (below_step (by repeat (first | (with_reducible first | exact HB.out | apply below_alloc | apply pw_below_drewN | apply below_drew1) | exact HB.out)) hb); clear HB; have HB := n0_; clear n0_; (try clear hb); (try clear hb2); (try clear hk); (try clear hi)))
  go_ret
  exact ⟨by first | rfl | (simp [errW_none, errW_some] <;> rfl) | (simp [*, errW_none, errW_some] <;> rfl), by repeat (first | (with_reducible first | exact HB.out | apply below_alloc | apply pw_below_drewN | apply below_drew1) | exact HB.out)⟩
 ·rw [if_neg c2] at H
  have c2b0 : ((wrap64 (Int.tdiv (Go.bits .and .i64 a0 65535) 16384)) == 0) = false := beq_eq_false_iff_ne.mpr c2
  have c2b1 : ((wrap64 (Int.tdiv (Go.bits .and .i64 a0 65535) 16384)) != 0) = true := bne_iff_ne.mpr c2
  by_cases c5 : (wrap64 (Int.tdiv (Go.bits .and .i64 a0 65535) 16384)) = 1
  ·rw [if_pos c5] at H
   have c5b0 : ((wrap64 (Int.tdiv (Go.bits .and .i64 a0 65535) 16384)) == 1) = true := beq_iff_eq.mpr c5
   have c5b1 : ((wrap64 (Int.tdiv (Go.bits .and .i64 a0 65535) 16384)) != 1) = false := bne_eq_false_iff_eq.mpr c5
   clear c5
   replace H := Option.bind_eq_some_iff.mp H
   obtain ⟨t284, A60, H⟩ := H
   replace H : (some t284) = some r := H
   have A6 := Aside0.mk A60
   clear A60
   obtain rfl := Option.some.inj H
   go_enter Try.func40, Try.ntmps40
   go_wp2_with (first | ((with_reducible refine gate_callee (f := 46) rfl ?_); refine goesL_ (some 18) rfl rfl Try.func46 (by kernel_rfl) rfl #[.int .i64 (wrap64 (16384 - (Int.tmod (Go.bits .and .i64 a0 65535) 16384)))] rfl (by (try simp only [List.map_toArray, List.map_cons, List.map_nil]); first | done | rfl | (simp only [List.length_drop, List.length_take]; rfl) | (rw [show wrap64 (16384 - (Int.tmod (Go.bits .and .i64 a0 65535) 16384)) = 16384 - (Int.tmod (Go.bits .and .i64 a0 65535) 16384) from by unfold wrap64; omega]; rfl)) ?_; (with_reducible refine (trig_first.calls (wrap64 (16384 - (Int.tmod (Go.bits .and .i64 a0 65535) 16384))) t284 _ A6.out).mono ?_); rintro e w7 ⟨rfl, hb⟩; refine ⟨_, rfl, ?_⟩; have n0_ := Aside0.mk (below_step (by repeat (first | (with_reducible first | exact HB.out | apply below_alloc | apply pw_below_drewN | apply below_drew1) | exact HB.out)) hb); clear HB; have HB := n0_; clear n0_; (try clear hb); (try clear hb2); (try clear hk); (try clear hi)))
   go_ret
   exact ⟨by first | rfl | (simp [errW_none, errW_some] <;> rfl) | (simp [*, errW_none, errW_some] <;> rfl), by repeat (first | (with_reducible first | exact HB.out | apply below_alloc | apply pw_below_drewN | apply below_drew1) | exact HB.out)⟩
  ·rw [if_neg c5] at H
   have c5b0 : ((wrap64 (Int.tdiv (Go.bits .and .i64 a0 65535) 16384)) == 1) = false := beq_eq_false_iff_ne.mpr c5
   have c5b1 : ((wrap64 (Int.tdiv (Go.bits .and .i64 a0 65535) 16384)) != 1) = true := bne_iff_ne.mpr c5
   by_cases c8 : (wrap64 (Int.tdiv (Go.bits .and .i64 a0 65535) 16384)) = 2
   ·rw [if_pos c8] at H
    have c8b0 : ((wrap64 (Int.tdiv (Go.bits .and .i64 a0 65535) 16384)) == 2) = true := beq_iff_eq.mpr c8
    have c8b1 : ((wrap64 (Int.tdiv (Go.bits .and .i64 a0 65535) 16384)) != 2) = false := bne_eq_false_iff_eq.mpr c8
    clear c8
    replace H := Option.bind_eq_some_iff.mp H
    obtain ⟨t285, A90, H⟩ := H
    replace H : (some (wrap64 (-t285))) = some r := H
    have A9 := Aside0.mk A90
    clear A90
    obtain rfl := Option.some.inj H
    go_enter Try.func40, Try.ntmps40
    go_wp2_with (first | ((with_reducible refine gate_callee (f := 46) rfl ?_); refine goesL_ (some 22) rfl rfl Try.func46 (by kernel_rfl) rfl #[.int .i64 (Int.tmod (Go.bits .and .i64 a0 65535) 16384)] rfl (by (try simp only [zm1, zm2, zm3]); first | done | rfl) ?_; (with_reducible refine (trig_first.calls (Int.tmod (Go.bits .and .i64 a0 65535) 16384) t285 _ A9.out).mono ?_); rintro e w10 ⟨rfl, hb⟩; refine ⟨_, rfl, ?_⟩; have n0_ := Aside0.mk (below_step (by repeat (first | (with_reducible first | exact HB.out | apply below_alloc | apply pw_below_drewN | apply below_drew1) | exact HB.out)) hb); clear HB; have HB := n0_; clear n0_; (try clear hb); (try clear hb2); (try clear hk); (try clear hi)))
    go_ret
    exact ⟨by first | rfl | (simp [errW_none, errW_some] <;> rfl) | (simp [*, errW_none, errW_some] <;> rfl), by repeat (first | (with_reducible first | exact HB.out | apply below_alloc | apply pw_below_drewN | apply below_drew1) | exact HB.out)⟩
   ·rw [if_neg c8] at H
    have c8b0 : ((wrap64 (Int.tdiv (Go.bits .and .i64 a0 65535) 16384)) == 2) = false := beq_eq_false_iff_ne.mpr c8
    have c8b1 : ((wrap64 (Int.tdiv (Go.bits .and .i64 a0 65535) 16384)) != 2) = true := bne_iff_ne.mpr c8
    replace H := Option.bind_eq_some_iff.mp H
    obtain ⟨t286, A110, H⟩ := H
    replace H : (some (wrap64 (-t286))) = some r := H
    have A11 := Aside0.mk A110
    clear A110
    obtain rfl := Option.some.inj H
    go_enter Try.func40, Try.ntmps40
    go_wp2_with (first | ((with_reducible refine gate_callee (f := 46) rfl ?_); refine goesL_ (some 26) rfl rfl Try.func46 (by kernel_rfl) rfl #[.int .i64 (wrap64 (16384 - (Int.tmod (Go.bits .and .i64 a0 65535) 16384)))] rfl (by (try simp only [List.map_toArray, List.map_cons, List.map_nil]); first | done | rfl | (simp only [List.length_drop, List.length_take]; rfl) | (rw [show wrap64 (16384 - (Int.tmod (Go.bits .and .i64 a0 65535) 16384)) = 16384 - (Int.tmod (Go.bits .and .i64 a0 65535) 16384) from by unfold wrap64; omega]; rfl)) ?_; (with_reducible refine (trig_first.calls (wrap64 (16384 - (Int.tmod (Go.bits .and .i64 a0 65535) 16384))) t286 _ A11.out).mono ?_); rintro e w12 ⟨rfl, hb⟩; refine ⟨_, rfl, ?_⟩; have n0_ := Aside0.mk (below_step (by repeat (first | (with_reducible first | exact HB.out | apply below_alloc | apply pw_below_drewN | apply below_drew1) | exact HB.out)) hb); clear HB; have HB := n0_; clear n0_; (try clear hb); (try clear hb2); (try clear hk); (try clear hi)))
    go_ret
    exact ⟨by first | rfl | (simp [errW_none, errW_some] <;> rfl) | (simp [*, errW_none, errW_some] <;> rfl), by repeat (first | (with_reducible first | exact HB.out | apply below_alloc | apply pw_below_drewN | apply below_drew1) | exact HB.out)⟩

/-! ### trig_Cos: function 41 -/
def trig_Cos.f (a0 : Int) : Option (Int) := (trig_Sin.f (wrap64 ((Go.bits .and .i64 a0 65535) + 16384))).bind fun t287 => (some t287)
set_option maxHeartbeats 8000000 in
set_option maxRecDepth 100000 in
theorem trig_Cos.calls (a0 : Int) (r : Int) (w : World) (h : trig_Cos.f a0 = some r) :
  Calls Try.prog 41 #[.int .i64 a0] w fun e w' => e = .returned (.int .i64 r) ∧ Below w.heap.size w w' := by
 have HB := Aside0.mk (Below.refl w.heap.size w)
 have H : ((trig_Sin.f (wrap64 ((Go.bits .and .i64 a0 65535) + 16384))).bind fun t287 => (some t287)) = some r := h
 clear h
 replace H := Option.bind_eq_some_iff.mp H
 obtain ⟨t287, A20, H⟩ := H
 replace H : (some t287) = some r := H
 have A2 := Aside0.mk A20
 clear A20
 obtain rfl := Option.some.inj H
 go_enter Try.func41, Try.ntmps41
 go_wp2_with (first | ((with_reducible refine gate_callee (f := 40) rfl ?_); refine goesL_ (some 6) rfl rfl Try.func40 (by kernel_rfl) rfl #[.int .i64 (wrap64 ((Go.bits .and .i64 a0 65535) + 16384))] rfl (by (try simp only [List.map_toArray, List.map_cons, List.map_nil]); first | done | rfl | (simp only [List.length_drop, List.length_take]; rfl) | (rw [show wrap64 ((Go.bits .and .i64 a0 65535) + 16384) = (Go.bits .and .i64 a0 65535) + 16384 from by unfold wrap64; omega]; rfl)) ?_; (with_reducible refine (trig_Sin.calls (wrap64 ((Go.bits .and .i64 a0 65535) + 16384)) t287 _ A2.out).mono ?_); rintro e w3 ⟨rfl, hb⟩; refine ⟨_, rfl, ?_⟩; have n0_ := Aside0.mk (below_step (by repeat (first | (with_reducible first | exact HB.out | apply below_alloc | apply pw_below_drewN | apply below_drew1) | exact HB.out)) hb); clear HB; have HB := n0_; clear n0_; (try clear hb); (try clear hb2); (try clear hk); (try clear hi)))
 go_ret
 exact ⟨by first | rfl | (simp [errW_none, errW_some] <;> rfl) | (simp [*, errW_none, errW_some] <;> rfl), by repeat (first | (with_reducible first | exact HB.out | apply below_alloc | apply pw_below_drewN | apply below_drew1) | exact HB.out)⟩

/-! ### quat_Of: function 35 -/
-- rounds making descend
def quat_Of.f (k : Nat) (a0_0 a0_1 a0_2 a1 : Int) : Option (Int × Int × Int × Int) :=
 (quat_unit.f k [a0_0, a0_1, a0_2]).bind fun u => if u.2 = true then (if 3 ≤ u.1.length then ((trig_Sin.f (a1 / 2)).bind fun s => (trig_Cos.f (a1 / 2)).bind fun c => (fix_Mul.f k (rd u.1 0) s).bind fun x => (fix_Mul.f k (rd u.1 1) s).bind fun y => (fix_Mul.f k (rd u.1 2) s).bind fun z => some (c, x, y, z)) else none) else some (65536, 0, 0, 0)
theorem quat_Of.mono : ∀ a0 a1 a2 a3 k, LeO (quat_Of.f k a0 a1 a2 a3) (quat_Of.f (k + 1) a0 a1 a2 a3) := by
 intro a0 a1 a2 a3 k
 unfold quat_Of.f
 exact LeO.bind (quat_unit.mono _ _) fun u => LeO.ite (LeO.ite (LeO.bind (LeO.refl _) fun s => LeO.bind (LeO.refl _) fun c => LeO.bind (fix_Mul.mono _ _ _) fun x => LeO.bind (fix_Mul.mono _ _ _) fun y => LeO.bind (fix_Mul.mono _ _ _) fun z => LeO.refl _) (LeO.refl _)) (LeO.refl _)
theorem quat_Of.row3 {w : World} {g : Nat} {t : TypeId} {a b c : Int} (B : w.heap[g]? = some (.cells #[.int .i64 a, .int .i64 b, .int .i64 c] t (0, 0))) : Kd.C (Kd.int .i64) w (some ⟨g, 0, none⟩) ([a, b, c] : List Int).length [a, b, c] := by
 refine Kd.C_of_reads (enc := Value.int .i64) (d := (0 : Int)) (h1 := fun _ => rfl) ⟨rfl, by show 3 ≤ 9223372036854775807; decide, fun _ => ⟨_, rfl, fun j hj => ?_⟩⟩
 have hj : j < 3 := hj
 have h := blk_cell B j
 rw [show (⟨g, 0, none⟩ : Addr).add j = ⟨g, j, none⟩ from by simp [Addr.add, eq_comm]]
 rw [h]
 rcases (by omega : j = 0 ∨ j = 1 ∨ j = 2) with rfl | rfl | rfl <;> rfl
theorem quat_Of.put4 {w : World} {x : Nat} {t : TypeId} {v0 v1 v2 v3 : Value} (B : w.heap[x]? = some (.cells #[v0, v1, v2, v3] t (0, 0))) (u0 u1 u2 u3 : Value) : ((((w.setCell ⟨x, 0, none⟩ u0).setCell ⟨x, 1, none⟩ u1).setCell ⟨x, 2, none⟩ u2).setCell ⟨x, 3, none⟩ u3).heap[x]? = some (.cells #[u0, u1, u2, u3] t (0, 0)) :=
 blk_put (blk_put (blk_put (blk_put B 0 u0 rfl) 1 u1 rfl) 2 u2 rfl) 3 u3 rfl
theorem quat_Of.four {w : World} {x : Nat} {t : TypeId} {v0 v1 v2 v3 : Value} (B : w.heap[x]? = some (.cells #[v0, v1, v2, v3] t (0, 0))) : (w.cell? ⟨x, 0, none⟩ = some v0 ∧ w.cell? ⟨x, 1, none⟩ = some v1 ∧ w.cell? ⟨x, 2, none⟩ = some v2 ∧ w.cell? ⟨x, 3, none⟩ = some v3) ∧ ∀ j, w.frozen? ⟨x, j, none⟩ = false :=
 ⟨⟨(blk_cell B 0).trans rfl, (blk_cell B 1).trans rfl, (blk_cell B 2).trans rfl, (blk_cell B 3).trans rfl⟩, fun j => blk_frozen B j⟩
theorem quat_Of.size (w : World) (o : Obj) : (w.alloc o).heap.size = w.heap.size + 1 := by simp
set_option maxHeartbeats 8000000 in
set_option maxRecDepth 100000 in
theorem quat_Of.calls (k : Nat) (a0_0 a0_1 a0_2 a1 : Int) (r1 r2 r3 r4 : Int) (w : World) (h : quat_Of.f k a0_0 a0_1 a0_2 a1 = some (r1, r2, r3, r4)) :
  Calls Try.prog 35 #[.agg #[.int .i64 a0_0, .int .i64 a0_1, .int .i64 a0_2], .int .i64 a1] w fun e w' => e = .returned (.agg #[.int .i64 r1, .int .i64 r2, .int .i64 r3, .int .i64 r4]) ∧ Below w.heap.size w w' := by
 have hu33 := Try.underlying33
 have hu37 := Try.underlying37
 unfold quat_Of.f at h
 obtain ⟨⟨ul, ub⟩, hU, h⟩ := Option.bind_eq_some_iff.mp h
 have HU := Aside0.mk hU
 have H := Aside0.mk h
 clear hU h
 go_enter Try.func35, Try.ntmps35
 go_upto_region 0 with fail
 go_cut [2, 4] (fun v2 v4 w' => ∃ g2 g4 : Nat, v2 = .pointer (some ⟨g2, 0, none⟩) ∧ v4 = .pointer (some ⟨g4, 0, none⟩) ∧ w'.heap[g2]? = some (.cells #[.int .i64 a0_0, .int .i64 a0_1, .int .i64 a0_2] 33 (0, 0)) ∧ w'.heap[g4]? = some (.cells #[.int .i64 0, .int .i64 0, .int .i64 0, .int .i64 0] 37 (0, 0)) ∧ w.heap.size ≤ g4 ∧ Below w.heap.size w w')
 case first =>
  go_wp2_with fail
  go_meet
  exact ⟨_, _, rfl, rfl, blk_below (blk_new _ _) (below_alloc (Below.refl _ _) _), (by have := blk_new (w.alloc (.cells #[.int .i64 a0_0, .int .i64 a0_1, .int .i64 a0_2] 33 (0, 0))) (.cells #[.int .i64 0, .int .i64 0, .int .i64 0, .int .i64 0] 37 (0, 0)); rwa [quat_Of.size] at this), by omega, below_step (below_alloc (Below.refl _ _) _) (below_alloc (Below.refl _ _) _)⟩
 case rest =>
  obtain ⟨g2, g4, rfl, rfl, B2, B4, hg4, hb⟩ := hcut
  have HB := Aside0.mk hb
  have L4 := Aside0.mk hg4
  have B2 := Aside0.mk B2
  have B4 := Aside0.mk B4
  clear hb hg4
  go_upto_region 2 with (first | ((with_reducible refine gate_dst (N := 11) rfl ?_); (with_reducible refine gate_callee (f := 37) rfl ?_); refine goesL_ (some 11) rfl rfl Try.func37 (by kernel_rfl) rfl #[.slice (some ⟨g2, 0, none⟩) 3 3] rfl (by (try simp only [List.map_toArray, List.map_cons, List.map_nil]); first | done | rfl) ?_; (refine (quat_unit.calls k (some ⟨g2, 0, none⟩) 3 [a0_0, a0_1, a0_2] ul ub _ (quat_Of.row3 B2.out) (Nat.le_refl 3) HU.out).mono ?_); rintro e w3 ⟨vu, rfl, hR, hb⟩; refine ⟨_, rfl, ?_⟩; have B4 := Aside0.mk (blk_below B4.out hb); have RU := Aside0.mk hR; have HB := Aside0.mk (below_step HB.out hb); clear hR hb))
  have hh := H.out
  clear H
  obtain ⟨⟨z0, z1, z2, z3⟩, fz⟩ := quat_Of.four B4.out
  cases ub with
  | false =>
   have e := Option.some.inj hh
   injection e with e0 e
   injection e with e1 e
   injection e with e2 e3
   subst e0 e1 e2 e3
   have y0 := fz 0
   have y1 := fz 1
   have y2 := fz 2
   have y3 := fz 3
   clear hh fz
   go_wp2
   refine bodyPost_ret (results_cell_row rfl _ _ g4 37 #[.int .i64 65536, .int .i64 0, .int .i64 0, .int .i64 0] (0, 0) _ rfl (quat_Of.put4 B4.out _ _ _ _) Try.underlying37 rfl (by kernel_rfl)) rfl ?_
   exact ⟨rfl, below_set (below_set (below_set (below_set HB.out L4.out) L4.out) L4.out) L4.out⟩
  | true =>
   clear z0 z1 z2 z3 fz
   have hh : (if 3 ≤ ul.length then ((trig_Sin.f (a1 / 2)).bind fun s => (trig_Cos.f (a1 / 2)).bind fun c => (fix_Mul.f k (rd ul 0) s).bind fun x => (fix_Mul.f k (rd ul 1) s).bind fun y => (fix_Mul.f k (rd ul 2) s).bind fun z => some (c, x, y, z)) else none) = some (r1, r2, r3, r4) := hh
   by_cases h3 : 3 ≤ ul.length
   case neg => rw [if_neg h3] at hh; cases hh
   rw [if_pos h3] at hh
   obtain ⟨sn, f1, hh⟩ := Option.bind_eq_some_iff.mp hh
   obtain ⟨cs, f2, hh⟩ := Option.bind_eq_some_iff.mp hh
   obtain ⟨x, f3, hh⟩ := Option.bind_eq_some_iff.mp hh
   obtain ⟨y, f4, hh⟩ := Option.bind_eq_some_iff.mp hh
   obtain ⟨z, f5, hh⟩ := Option.bind_eq_some_iff.mp hh
   have e := Option.some.inj hh
   injection e with e0 e
   injection e with e1 e
   injection e with e2 e3
   subst e0 e1 e2 e3
   obtain ⟨A, cu, rfl, hcu, hC⟩ := Kd.R_reads RU.out
   obtain ⟨ad, rfl, c0⟩ := Kd.at_int hC 0 (by omega) (by omega)
   obtain ⟨ad1, e1, c1⟩ := Kd.at_int hC 1 (by omega) (by omega)
   obtain ⟨ad2, e2, c2⟩ := Kd.at_int hC 2 (by omega) (by omega)
   injection e1 with e1
   injection e2 with e2
   subst e1 e2
   have za : ad.add 0 = ad := by unfold Addr.add; simp
   have C0 := Aside0.mk (show w3.cell? ad = some (.int .i64 (rd ul 0)) from by have h : w3.cell? (ad.add 0) = some (.int .i64 (rd ul 0)) := c0; rw [za] at h; exact h)
   have C1 := Aside0.mk (show w3.cell? ⟨ad.block, ad.off + 1, none⟩ = some (.int .i64 (rd ul 1)) from by have h : w3.cell? (ad.add (0 + 1)) = some (.int .i64 (rd ul 1)) := c1; rw [add_field ad 0 1 (by decide), za] at h; exact h)
   have C2 := Aside0.mk (show w3.cell? ⟨ad.block, ad.off + 2, none⟩ = some (.int .i64 (rd ul 2)) from by have h : w3.cell? (ad.add (0 + 2)) = some (.int .i64 (rd ul 2)) := c2; rw [add_field ad 0 2 (by decide), za] at h; exact h)
   have F1 := Aside0.mk f1
   have F2 := Aside0.mk f2
   have F3 := Aside0.mk f3
   have F4 := Aside0.mk f4
   have F5 := Aside0.mk f5
   have i0 : ((0 : Int) < (ul.length : Int)) = True := eq_true (by omega)
   have i1 : ((1 : Int) < (ul.length : Int)) = True := eq_true (by omega)
   have i2 : ((2 : Int) < (ul.length : Int)) = True := eq_true (by omega)
   have j0 : (0 < ul.length) = True := eq_true (by omega)
   have j1 : (1 < ul.length) = True := eq_true (by omega)
   have j2 : (2 < ul.length) = True := eq_true (by omega)
   clear hh f1 f2 f3 f4 f5 h3 c0 c1 c2 hC hcu
   go_upto_region 6 with (first | ((with_reducible refine gate_dst (N := 20) rfl ?_); (with_reducible refine gate_callee (f := 40) rfl ?_); refine goesL_ (some 20) rfl rfl Try.func40 (by kernel_rfl) rfl #[.int .i64 (a1 / 2)] rfl (by (try simp only [List.map_toArray, List.map_cons, List.map_nil]); first | done | rfl) ?_; (refine (trig_Sin.calls (a1 / 2) sn _ F1.out).mono ?_); rintro e w4 ⟨rfl, hb⟩; refine ⟨_, rfl, ?_⟩; have B4 := Aside0.mk (blk_below B4.out hb); have HB := Aside0.mk (below_step HB.out hb); have C0 := Aside0.mk (pw_cell_below hb C0.out); have C1 := Aside0.mk (pw_cell_below hb C1.out); have C2 := Aside0.mk (pw_cell_below hb C2.out); clear hb))
   have B4 := Aside0.mk (blk_drew B4.out)
   have HB := Aside0.mk (below_step HB.out (Below.refl _ _).drew)
   have C0 := Aside0.mk (pw_cell_below (Below.refl _ _).drew C0.out)
   have C1 := Aside0.mk (pw_cell_below (Below.refl _ _).drew C1.out)
   have C2 := Aside0.mk (pw_cell_below (Below.refl _ _).drew C2.out)
   refine start_ (n := 19) (S := fun w' => w'.cell? ad = some (.int .i64 (rd ul 0)) ∧ w'.cell? ⟨ad.block, ad.off + 1, none⟩ = some (.int .i64 (rd ul 1)) ∧ w'.cell? ⟨ad.block, ad.off + 2, none⟩ = some (.int .i64 (rd ul 2))) (ds := [18]) (ab 19 0) (by kernel_rfl) rfl rfl ⟨C0.out, C1.out, C2.out⟩ (fun hHeld => ?_)
   generalize w4.drew = wd6 at B4 HB C0 C1 C2 hHeld ⊢
   refine pure_ (i := 0) (N := some 21) (v := ?_) (a' := ?_) (ab 19 1) rfl rfl (by kernel_rfl) (fun _ _ _ h => h) (Or.inl ⟨by rfl, ?_⟩) ?_ ?_
   rotate_left
   ·intro w'
    go_simp
    with_reducible rfl
   rotate_left
   ·simp only [Act.put, zq1, zq2, zq3, i64_w, i32_w]
    rfl
   refine pure_ (i := 2) (N := some 23) (v := ?_) (a' := ?_) (ab 19 5) rfl rfl (by kernel_rfl) (fun _ _ _ h => h) (Or.inl ⟨by rfl, ?_⟩) ?_ ?_
   rotate_left
   ·intro w'
    go_simp
    with_reducible rfl
   rotate_left
   ·simp only [Act.put, zq1, zq2, zq3, i64_w, i32_w]
    rfl
   refine pure_ (i := 3) (N := some 24) (v := ?_) (a' := ?_) (ab 19 13) rfl rfl (by kernel_rfl) (fun _ _ _ h => h) (Or.inl ⟨by rfl, ?_⟩) ?_ ?_
   rotate_left
   ·intro w'
    go_simp
    with_reducible rfl
   rotate_left
   ·simp only [Act.put, zq1, zq2, zq3, i64_w, i32_w]
    rfl
   refine pure_ (i := 5) (N := some 26) (v := ?_) (a' := ?_) (ab 19 45) rfl rfl (by kernel_rfl) (fun _ _ _ h => h) (Or.inl ⟨by rfl, ?_⟩) ?_ ?_
   rotate_left
   ·intro w'
    go_simp
    with_reducible rfl
   rotate_left
   ·simp only [Act.put, zq1, zq2, zq3, i64_w, i32_w]
    rfl
   refine pure_ (i := 7) (N := some 28) (v := ?_) (a' := ?_) (ab 19 173) rfl rfl (by kernel_rfl) (fun _ _ _ h => h) (Or.inl ⟨by rfl, ?_⟩) ?_ ?_
   rotate_left
   ·intro w'
    go_simp
    with_reducible rfl
   rotate_left
   ·simp only [Act.put, zq1, zq2, zq3, i64_w, i32_w]
    rfl
   refine pure_ (i := 8) (N := some 29) (v := ?_) (a' := ?_) (ab 19 429) rfl rfl (by kernel_rfl) (fun _ _ _ h => h) (Or.inl ⟨by rfl, ?_⟩) ?_ ?_
   rotate_left
   ·intro w'
    go_simp
    with_reducible rfl
   rotate_left
   ·simp only [Act.put, zq1, zq2, zq3, i64_w, i32_w]
    rfl
   refine pure_ (i := 10) (N := some 31) (v := ?_) (a' := ?_) (ab 19 1453) rfl rfl (by kernel_rfl) (fun _ _ _ h => h) (Or.inl ⟨by rfl, ?_⟩) ?_ ?_
   rotate_left
   ·intro w'
    go_simp
    with_reducible rfl
   rotate_left
   ·simp only [Act.put, zq1, zq2, zq3, i64_w, i32_w]
    rfl
   refine pure_ (i := 12) (N := some 33) (v := ?_) (a' := ?_) (ab 19 5549) rfl rfl (by kernel_rfl) (fun _ _ _ h => h) (Or.inl ⟨by rfl, ?_⟩) ?_ ?_
   rotate_left
   ·intro w'
    go_simp
    with_reducible rfl
   rotate_left
   ·simp only [Act.put, zq1, zq2, zq3, i64_w, i32_w]
    rfl
   refine pure_ (i := 13) (N := some 34) (v := ?_) (a' := ?_) (ab 19 13741) rfl rfl (by kernel_rfl) (fun _ _ _ h => h) (Or.inl ⟨by rfl, ?_⟩) ?_ ?_
   rotate_left
   ·intro w'
    go_simp
    with_reducible rfl
   rotate_left
   ·simp only [Act.put, zq1, zq2, zq3, i64_w, i32_w]
    rfl
   refine pure_ (i := 15) (N := some 36) (v := ?_) (a' := ?_) (ab 19 46509) rfl rfl (by kernel_rfl) (fun _ _ _ h => h) (Or.inl ⟨by rfl, ?_⟩) ?_ ?_
   rotate_left
   ·intro w'
    go_simp
    with_reducible rfl
   rotate_left
   ·simp only [Act.put, zq1, zq2, zq3, i64_w, i32_w]
    rfl
   refine take_ (i := 4) (N := some 25) (v := ?_) (a' := ?_) (ab 19 46525) rfl rfl (by kernel_rfl) (fun _ _ _ h => h) (Or.inl ⟨by rfl, ?_⟩) hHeld ?_ ?_
   rotate_left
   ·rintro w' ⟨s0, s1, s2⟩
    go_simp
    with_reducible rfl
   rotate_left
   ·simp only [Act.put, zq1, zq2, zq3, i64_w, i32_w]
    rfl
   refine take_ (i := 9) (N := some 30) (v := ?_) (a' := ?_) (ab 19 47037) rfl rfl (by kernel_rfl) (fun _ _ _ h => h) (Or.inl ⟨by rfl, ?_⟩) hHeld ?_ ?_
   rotate_left
   ·rintro w' ⟨s0, s1, s2⟩
    go_simp
    with_reducible rfl
   rotate_left
   ·simp only [Act.put, zq1, zq2, zq3, i64_w, i32_w]
    rfl
   refine take_ (i := 14) (N := some 35) (v := ?_) (a' := ?_) (ab 19 63421) rfl rfl (by kernel_rfl) (fun _ _ _ h => h) (Or.inl ⟨by rfl, ?_⟩) hHeld ?_ ?_
   rotate_left
   ·rintro w' ⟨s0, s1, s2⟩
    go_simp
    with_reducible rfl
   rotate_left
   ·simp only [Act.put, zq1, zq2, zq3, i64_w, i32_w]
    rfl
   refine one_ (i := 1) (N := some 22) (ab 19 63423) rfl rfl (by kernel_rfl) (by decide) (fun K hK => ?_)
   refine goes_ Try.func41 (by kernel_rfl) rfl #[.int .i64 (a1 / 2)] (by rfl) rfl rfl (by simp only [List.map_toArray, List.map_cons, List.map_nil]; rfl) ?_
   with_reducible refine (trig_Cos.calls (a1 / 2) cs _ F2.out).mono ?_
   rintro e w5 ⟨rfl, hb⟩
   refine ⟨_, rfl, ?_⟩
   have B4 := Aside0.mk (blk_below B4.out hb)
   have HB := Aside0.mk (below_step HB.out hb)
   have C0 := Aside0.mk (pw_cell_below hb C0.out)
   have C1 := Aside0.mk (pw_cell_below hb C1.out)
   have C2 := Aside0.mk (pw_cell_below hb C2.out)
   clear hb
   refine hK.out _ _ ⟨C0.out, C1.out, C2.out⟩ (fun hHeld => ?_)
   clear hK K
   refine norm_ (a' := ?_) ?_ ?_
   rotate_left
   ·show Act.put _ (some 22) _ = _
    simp only [Act.put, zq1, zq2, zq3, i64_w, i32_w]
    rfl
   refine one_ (i := 6) (N := some 27) (ab 19 63487) rfl rfl (by kernel_rfl) (by decide) (fun K hK => ?_)
   refine goes_ Try.func24 (by kernel_rfl) rfl #[.int .i64 (rd ul 0), .int .i64 sn] (by rfl) rfl rfl (by simp only [List.map_toArray, List.map_cons, List.map_nil]; rfl) ?_
   with_reducible refine (fix_Mul.calls k (rd ul 0) sn x _ F3.out).mono ?_
   rintro e w6 ⟨rfl, hb⟩
   refine ⟨_, rfl, ?_⟩
   have B4 := Aside0.mk (blk_below B4.out hb)
   have HB := Aside0.mk (below_step HB.out hb)
   have C0 := Aside0.mk (pw_cell_below hb C0.out)
   have C1 := Aside0.mk (pw_cell_below hb C1.out)
   have C2 := Aside0.mk (pw_cell_below hb C2.out)
   clear hb
   refine hK.out _ _ ⟨C0.out, C1.out, C2.out⟩ (fun hHeld => ?_)
   clear hK K
   refine norm_ (a' := ?_) ?_ ?_
   rotate_left
   ·show Act.put _ (some 27) _ = _
    simp only [Act.put, zq1, zq2, zq3, i64_w, i32_w]
    rfl
   refine one_ (i := 11) (N := some 32) (ab 19 65535) rfl rfl (by kernel_rfl) (by decide) (fun K hK => ?_)
   refine goes_ Try.func24 (by kernel_rfl) rfl #[.int .i64 (rd ul 1), .int .i64 sn] (by rfl) rfl rfl (by simp only [List.map_toArray, List.map_cons, List.map_nil]; rfl) ?_
   with_reducible refine (fix_Mul.calls k (rd ul 1) sn y _ F4.out).mono ?_
   rintro e w7 ⟨rfl, hb⟩
   refine ⟨_, rfl, ?_⟩
   have B4 := Aside0.mk (blk_below B4.out hb)
   have HB := Aside0.mk (below_step HB.out hb)
   have C0 := Aside0.mk (pw_cell_below hb C0.out)
   have C1 := Aside0.mk (pw_cell_below hb C1.out)
   have C2 := Aside0.mk (pw_cell_below hb C2.out)
   clear hb
   refine hK.out _ _ ⟨C0.out, C1.out, C2.out⟩ (fun hHeld => ?_)
   clear hK K
   refine norm_ (a' := ?_) ?_ ?_
   rotate_left
   ·show Act.put _ (some 32) _ = _
    simp only [Act.put, zq1, zq2, zq3, i64_w, i32_w]
    rfl
   refine one_ (i := 16) (N := some 37) (ab 19 131071) rfl rfl (by kernel_rfl) (by decide) (fun K hK => ?_)
   refine goes_ Try.func24 (by kernel_rfl) rfl #[.int .i64 (rd ul 2), .int .i64 sn] (by rfl) rfl rfl (by simp only [List.map_toArray, List.map_cons, List.map_nil]; rfl) ?_
   with_reducible refine (fix_Mul.calls k (rd ul 2) sn z _ F5.out).mono ?_
   rintro e w8 ⟨rfl, hb⟩
   refine ⟨_, rfl, ?_⟩
   have B4 := Aside0.mk (blk_below B4.out hb)
   have HB := Aside0.mk (below_step HB.out hb)
   have C0 := Aside0.mk (pw_cell_below hb C0.out)
   have C1 := Aside0.mk (pw_cell_below hb C1.out)
   have C2 := Aside0.mk (pw_cell_below hb C2.out)
   clear hb
   refine hK.out _ _ ⟨C0.out, C1.out, C2.out⟩ (fun hHeld => ?_)
   clear hK K
   refine norm_ (a' := ?_) ?_ ?_
   rotate_left
   ·show Act.put _ (some 37) _ = _
    simp only [Act.put, zq1, zq2, zq3, i64_w, i32_w]
    rfl
   refine pure_ (i := 17) (N := some 38) (v := ?_) (a' := ?_) (ab 19 262143) rfl rfl (by kernel_rfl) (fun _ _ _ h => h) (Or.inl ⟨by rfl, ?_⟩) ?_ ?_
   rotate_left
   ·intro w'
    go_simp
    with_reducible rfl
   rotate_left
   ·simp only [Act.put, zq1, zq2, zq3, i64_w, i32_w]
    rfl
   refine last_ (i := 18) (N := none) (ab 19 524287) rfl rfl (by kernel_rfl) (by decide) (fun K hK => ?_)
   obtain ⟨⟨ca0, ca1, ca2, ca3⟩, fz⟩ := quat_Of.four B4.out
   have cb0 := fz 0
   have cb1 := fz 1
   have cb2 := fz 2
   have cb3 := fz 3
   refine skip_ (w1 := ?_) (by rfl) rfl ?_ ?_
   rotate_left
   ·go_simp
    rfl
   clear fz ca0 cb0 ca1 cb1 ca2 cb2 ca3 cb3
   refine hK.out _ _ ?_
   clear hK K
   refine done_ (by kernel_rfl) ?_

   go_wp2
   refine bodyPost_ret (results_cell_row rfl _ _ g4 37 #[.int .i64 cs, .int .i64 x, .int .i64 y, .int .i64 z] (0, 0) _ rfl (quat_Of.put4 B4.out _ _ _ _) Try.underlying37 rfl (by kernel_rfl)) rfl ?_
   exact ⟨rfl, below_set (below_set (below_set (below_set HB.out L4.out) L4.out) L4.out) L4.out⟩

/-! ### tourref5_Pose: function 19 -/
def tourref5_Pose.l0 : Nat → List (S37) → Int → Int → List Int → Int → Option ((List (S37)))
 | 0, _, _, _, _, _ => none
 | k + 1, x6, x9, x10, x291000, x291001 => if x10 < x9 then ((tourref5_Source_N.f x291000 x291001 9).bind fun bt291 => ((tourref5_Source_N.f x291000 bt291.2 9).bind fun bt293 => ((tourref5_Source_N.f x291000 bt293.2 4).bind fun bt295 => ((tourref5_Source_N.f x291000 bt295.2 65536).bind fun bt297 => ((quat_Of.f k (wrap64 (bt291.1 - 4)) (wrap64 (bt293.1 - 4)) (wrap64 (1 + bt295.1)) bt297.1).bind fun bt299 => (if x6.length < 4398046511104 then (tourref5_Pose.l0 k (x6 ++ [(⟨bt299.1, bt299.2.1, bt299.2.2.1, bt299.2.2.2⟩ : S37)]) x9 (wrap64 (x10 + 1)) x291000 bt297.2) else (none))))))) else (some x6)
def tourref5_Pose.f (k : Nat) (l0 : List Int) (a1 : Int) : Option ((List (S37))) := (tourref5_From.f l0).bind fun bt288 => (tourref5_Pose.l0 k ([] : List (S37)) a1 0 bt288.1 bt288.2)
theorem tourref5_Pose.mono_l : ∀ k, (∀ y0 y1 y2 y3 y4, LeO (tourref5_Pose.l0 k y0 y1 y2 y3 y4) (tourref5_Pose.l0 (k + 1) y0 y1 y2 y3 y4))
 | 0 => fun _ _ _ _ _ r h => by simp [tourref5_Pose.l0] at h
 | k + 1 => by
  have ih0 := tourref5_Pose.mono_l k
  ·intro y0 y1 y2 y3 y4
   unfold tourref5_Pose.l0
   repeat' first
   | (with_reducible exact ih0 _ _ _ _ _)
   | (with_reducible exact quat_Of.mono _ _ _ _ _)
   | (with_reducible exact LeO.refl _)
   | (with_reducible exact LeO.none _)
   | (with_reducible refine LeO.ite ?_ ?_)
   | (with_reducible refine LeO.bind ?_ (fun _ => ?_))
   | exact ih0 _ _ _ _ _
   | exact quat_Of.mono _ _ _ _ _
   | exact LeO.none _
   | refine LeO.ite ?_ ?_
   | refine LeO.bind ?_ (fun _ => ?_)
theorem tourref5_Pose.mono : ∀ a0 a1 k, LeO (tourref5_Pose.f k a0 a1) (tourref5_Pose.f (k + 1) a0 a1) := by
 intro a0 a1 k
 have ih0 := tourref5_Pose.mono_l k
 unfold tourref5_Pose.f
 repeat' first
   | (with_reducible exact ih0 _ _ _ _ _)
   | (with_reducible exact quat_Of.mono _ _ _ _ _)
   | (with_reducible exact LeO.refl _)
   | (with_reducible exact LeO.none _)
   | (with_reducible refine LeO.ite ?_ ?_)
   | (with_reducible refine LeO.bind ?_ (fun _ => ?_))
   | exact ih0 _ _ _ _ _
   | exact quat_Of.mono _ _ _ _ _
   | exact LeO.none _
   | refine LeO.ite ?_ ?_
   | refine LeO.bind ?_ (fun _ => ?_)
set_option maxHeartbeats 8000000 in
set_option maxRecDepth 100000 in
theorem tourref5_Pose.calls (k : Nat) (A0 : Option Addr) (c0 : Nat) (l0 : List Int) (a1 : Int) (r : List (S37)) (w : World) (hr0 : Kd.C (Kd.int .i64) w A0 l0.length l0) (hc0 : l0.length ≤ c0) (h : tourref5_Pose.f k l0 a1 = some r) :
  Calls Try.prog 19 #[.slice A0 l0.length c0, .int .i64 a1] w fun e w' => ∃ v0_ : Value, e = .returned (v0_) ∧ Kd.R k37 37 w' w.heap.size (fun _ => True) v0_ r ∧ Below w.heap.size w w' := by
 have hu33 := Try.underlying33
 have HR0 := Aside0.mk hr0
 have HC0 := Aside0.mk hc0
 clear hr0 hc0
 have HB := Aside0.mk (Below.refl w.heap.size w)
 have H : ((tourref5_From.f l0).bind fun bt288 => (tourref5_Pose.l0 k ([] : List (S37)) a1 0 bt288.1 bt288.2)) = some r := h
 clear h
 replace H := Option.bind_eq_some_iff.mp H
 obtain ⟨⟨t288, t289⟩, A30, H⟩ := H
 replace H : (tourref5_Pose.l0 k ([] : List (S37)) a1 0 t288 t289) = some r := H
 have A3 := Aside0.mk A30
 clear A30
 have H' := Aside0.mk H
 clear H
 go_enter Try.func19, Try.ntmps19
 go_wp2_with (first | ((with_reducible refine gate_callee (f := 25) rfl ?_); refine goesL_ (some 8) rfl rfl Try.func25 (by kernel_rfl) rfl #[.slice A0 l0.length c0] rfl (by (try simp only [zm1, zm2, zm3]); first | done | rfl) ?_; (with_reducible refine (tourref5_From.calls _ _ l0 t288 t289 w _ ?side1 ?side2 ?side3 A3.out).mono ?_); (case side1 => repeat (first | (with_reducible first | exact HB.out | apply below_alloc | apply pw_below_drewN | apply below_drew1) | exact HB.out)); (case side2 => exact HR0.out); (case side3 => exact HC0.out); rintro e w4 ⟨g290, rfl, hi, hb, hb2⟩; refine ⟨_, rfl, ?_⟩; have n0_ := Aside0.mk (hb); have n1_ := Aside0.mk (hi); clear HB; have HB := n0_; have HI290 := n1_; clear n0_ n1_; (try clear hb); (try clear hb2); (try clear hk); (try clear hi)))
 go_loopg [6, 10] k (fun kq v6 v10 w' => ∃ (x6_1 : List (S37)) (x10_1 : Int) (x291001_1 : Int), v10 = .int .i64 x10_1 ∧ Aside0 (tourref5_Pose.l0 kq x6_1 a1 x10_1 t288 x291001_1 = some r) ∧ Aside0 (kq ≤ k) ∧ Aside0 (Kd.R k37 37 w' w.heap.size (fun _ => True) v6 x6_1) ∧ Aside0 (IsS80 w w' g290 t288 x291001_1) ∧ Aside0 (Below w.heap.size w w'))
 case atStart => exact ⟨(([] : List (S37))), (0), (t289), (by first | rfl | (simp; done) | (simp [*]; done)), H', ⟨Nat.le_refl _⟩, ⟨by first | exact Kd.R_nil _ _ _ _ _ | exact Kd.N_nil _ _ _ _ _ | exact Kd.V_nil _ _ _ _ _ | exact Kd.Q_nil _ _ _ _ _ | exact Kd.S_nil _ _ _ _ _⟩, ⟨by repeat (first | (with_reducible first | exact HI290.out | apply IsS80.alloc | apply IsS80.drewN | apply IsS80.drew | apply IsS80.set_1) | exact HI290.out)⟩, ⟨by repeat (first | (with_reducible first | exact HB.out | apply below_alloc | apply pw_below_drewN | apply below_drew1 | refine below_set ?_ (IsS80.ge HI290.out)) | exact HB.out)⟩⟩
 case round =>
  clear H'
  try clear c1; try clear c2; try clear p2
  obtain ⟨x6_1, x10_1, x291001_1, rfl, HA, HK1, HO_6, HI290, HB⟩ := hrel
  cases gk with
  | zero => exact absurd HA.out (by simp [tourref5_Pose.l0])
  | succ k1 =>
   have H := HA.out
   clear HA
   simp only [tourref5_Pose.l0] at H
   by_cases c5 : x10_1 < a1
   ·rw [if_pos c5] at H
    have c5b0 : decide (x10_1 < a1) = true := decide_eq_true c5
    clear c5
    replace H := Option.bind_eq_some_iff.mp H
    obtain ⟨⟨t291, t292⟩, A60, H⟩ := H
    replace H : ((tourref5_Source_N.f t288 t292 9).bind fun bt293 => ((tourref5_Source_N.f t288 bt293.2 4).bind fun bt295 => ((tourref5_Source_N.f t288 bt295.2 65536).bind fun bt297 => ((quat_Of.f k1 (wrap64 (t291 - 4)) (wrap64 (bt293.1 - 4)) (wrap64 (1 + bt295.1)) bt297.1).bind fun bt299 => (if x6_1.length < 4398046511104 then (tourref5_Pose.l0 k1 (x6_1 ++ [(⟨bt299.1, bt299.2.1, bt299.2.2.1, bt299.2.2.2⟩ : S37)]) a1 (wrap64 (x10_1 + 1)) t288 bt297.2) else (none)))))) = some r := H
    have A6 := Aside0.mk A60
    clear A60
    replace H := Option.bind_eq_some_iff.mp H
    obtain ⟨⟨t293, t294⟩, A70, H⟩ := H
    replace H : ((tourref5_Source_N.f t288 t294 4).bind fun bt295 => ((tourref5_Source_N.f t288 bt295.2 65536).bind fun bt297 => ((quat_Of.f k1 (wrap64 (t291 - 4)) (wrap64 (t293 - 4)) (wrap64 (1 + bt295.1)) bt297.1).bind fun bt299 => (if x6_1.length < 4398046511104 then (tourref5_Pose.l0 k1 (x6_1 ++ [(⟨bt299.1, bt299.2.1, bt299.2.2.1, bt299.2.2.2⟩ : S37)]) a1 (wrap64 (x10_1 + 1)) t288 bt297.2) else (none))))) = some r := H
    have A7 := Aside0.mk A70
    clear A70
    replace H := Option.bind_eq_some_iff.mp H
    obtain ⟨⟨t295, t296⟩, A80, H⟩ := H
    replace H : ((tourref5_Source_N.f t288 t296 65536).bind fun bt297 => ((quat_Of.f k1 (wrap64 (t291 - 4)) (wrap64 (t293 - 4)) (wrap64 (1 + t295)) bt297.1).bind fun bt299 => (if x6_1.length < 4398046511104 then (tourref5_Pose.l0 k1 (x6_1 ++ [(⟨bt299.1, bt299.2.1, bt299.2.2.1, bt299.2.2.2⟩ : S37)]) a1 (wrap64 (x10_1 + 1)) t288 bt297.2) else (none)))) = some r := H
    have A8 := Aside0.mk A80
    clear A80
    replace H := Option.bind_eq_some_iff.mp H
    obtain ⟨⟨t297, t298⟩, A90, H⟩ := H
    replace H : ((quat_Of.f k1 (wrap64 (t291 - 4)) (wrap64 (t293 - 4)) (wrap64 (1 + t295)) t297).bind fun bt299 => (if x6_1.length < 4398046511104 then (tourref5_Pose.l0 k1 (x6_1 ++ [(⟨bt299.1, bt299.2.1, bt299.2.2.1, bt299.2.2.2⟩ : S37)]) a1 (wrap64 (x10_1 + 1)) t288 t298) else (none))) = some r := H
    have A9 := Aside0.mk A90
    clear A90
    replace H := Option.bind_eq_some_iff.mp H
    obtain ⟨⟨t299, t300, t301, t302⟩, A100, H⟩ := H
    replace H : (if x6_1.length < 4398046511104 then (tourref5_Pose.l0 k1 (x6_1 ++ [(⟨t299, t300, t301, t302⟩ : S37)]) a1 (wrap64 (x10_1 + 1)) t288 t298) else (none)) = some r := H
    have A10 := Aside0.mk A100
    clear A100
    by_cases c11 : x6_1.length < 4398046511104
    ·rw [if_pos c11] at H
     have LMc11 := Aside0.mk c11
     clear c11
     obtain ⟨y303, hy303⟩ : ∃ y_ : List (S37), y_ = (x6_1 ++ [(⟨t299, t300, t301, t302⟩ : S37)]) := ⟨_, rfl⟩
     replace H : (tourref5_Pose.l0 k1 y303 a1 (wrap64 (x10_1 + 1)) t288 t298) = some r := by first | (rw [hy303]; with_reducible exact H) | (have H2_ := (Option.bind_some _ _).symm.trans H; rw [hy303]; with_reducible exact H2_) | (have H2_ := (Option.bind_some _ _).symm.trans H; with_reducible exact H2_) | with_reducible exact H | (rw [hy303]; exact H) | exact H
     have Ny303 := Aside0.mk hy303
     clear hy303
     have H' := Aside0.mk H
     clear H
     go_wp2_with (first | ((with_reducible refine gate_callee (f := 26) rfl ?_); refine goesL_ (some 14) rfl rfl Try.func26 (by kernel_rfl) rfl #[.pointer (some ⟨g290, 0, none⟩), .int .i64 9] rfl (by (try simp only [zm1, zm2, zm3]); first | done | rfl) ?_; (with_reducible refine (tourref5_Source_N.calls g290 t288 x291001_1 9 t291 t292 w _ ?side1 ?side2 A6.out).mono ?_); (case side1 => repeat (first | (with_reducible first | exact HI290.out | apply IsS80.alloc | apply IsS80.drewN | apply IsS80.drew | apply IsS80.set_1) | exact HI290.out)); (case side2 => repeat (first | (with_reducible first | exact HB.out | apply below_alloc | apply pw_below_drewN | apply below_drew1 | refine below_set ?_ (IsS80.ge HI290.out)) | exact HB.out)); rintro e w12 ⟨rfl, hi, hb, hk⟩; refine ⟨_, rfl, ?_⟩; have n0_ := Aside0.mk (Kd.R_mono (Kd.R_keep (IsS80.apart (show IsS80 w _ g290 t288 x291001_1 from by repeat (first | (with_reducible first | exact HI290.out | apply IsS80.alloc | apply IsS80.drewN | apply IsS80.drew | apply IsS80.set_1) | exact HI290.out)) (by (with_reducible repeat (first | apply Kd.R_alloc | apply Kd.R_drewN | apply Kd.R_drew)); exact HO_6.out) (by decide)) hk (fun _ h => h.2)) (fun _ h => h.1)); have n1_ := Aside0.mk (hb); have n2_ := Aside0.mk (hi); clear HO_6; clear HB; clear HI290; have HO_6 := n0_; have HB := n1_; have HI290 := n2_; clear n0_ n1_ n2_; (try clear hb); (try clear hb2); (try clear hk); (try clear hi)) | ((with_reducible refine gate_callee (f := 26) rfl ?_); refine goesL_ (some 17) rfl rfl Try.func26 (by kernel_rfl) rfl #[.pointer (some ⟨g290, 0, none⟩), .int .i64 9] rfl (by (try simp only [zm1, zm2, zm3]); first | done | rfl) ?_; (with_reducible refine (tourref5_Source_N.calls g290 t288 t292 9 t293 t294 w _ ?side1 ?side2 A7.out).mono ?_); (case side1 => repeat (first | (with_reducible first | exact HI290.out | apply IsS80.alloc | apply IsS80.drewN | apply IsS80.drew | apply IsS80.set_1) | exact HI290.out)); (case side2 => repeat (first | (with_reducible first | exact HB.out | apply below_alloc | apply pw_below_drewN | apply below_drew1 | refine below_set ?_ (IsS80.ge HI290.out)) | exact HB.out)); rintro e w13 ⟨rfl, hi, hb, hk⟩; refine ⟨_, rfl, ?_⟩; have n0_ := Aside0.mk (Kd.R_mono (Kd.R_keep (IsS80.apart (show IsS80 w _ g290 t288 t292 from by repeat (first | (with_reducible first | exact HI290.out | apply IsS80.alloc | apply IsS80.drewN | apply IsS80.drew | apply IsS80.set_1) | exact HI290.out)) (by (with_reducible repeat (first | apply Kd.R_alloc | apply Kd.R_drewN | apply Kd.R_drew)); exact HO_6.out) (by decide)) hk (fun _ h => h.2)) (fun _ h => h.1)); have n1_ := Aside0.mk (hb); have n2_ := Aside0.mk (hi); clear HO_6; clear HB; clear HI290; have HO_6 := n0_; have HB := n1_; have HI290 := n2_; clear n0_ n1_ n2_; (try clear hb); (try clear hb2); (try clear hk); (try clear hi)) | ((with_reducible refine gate_callee (f := 26) rfl ?_); refine goesL_ (some 20) rfl rfl Try.func26 (by kernel_rfl) rfl #[.pointer (some ⟨g290, 0, none⟩), .int .i64 4] rfl (by (try simp only [zm1, zm2, zm3]); first | done | rfl) ?_; (with_reducible refine (tourref5_Source_N.calls g290 t288 t294 4 t295 t296 w _ ?side1 ?side2 A8.out).mono ?_); (case side1 => repeat (first | (with_reducible first | exact HI290.out | apply IsS80.alloc | apply IsS80.drewN | apply IsS80.drew | apply IsS80.set_1) | exact HI290.out)); (case side2 => repeat (first | (with_reducible first | exact HB.out | apply below_alloc | apply pw_below_drewN | apply below_drew1 | refine below_set ?_ (IsS80.ge HI290.out)) | exact HB.out)); rintro e w14 ⟨rfl, hi, hb, hk⟩; refine ⟨_, rfl, ?_⟩; have n0_ := Aside0.mk (Kd.R_mono (Kd.R_keep (IsS80.apart (show IsS80 w _ g290 t288 t294 from by repeat (first | (with_reducible first | exact HI290.out | apply IsS80.alloc | apply IsS80.drewN | apply IsS80.drew | apply IsS80.set_1) | exact HI290.out)) (by (with_reducible repeat (first | apply Kd.R_alloc | apply Kd.R_drewN | apply Kd.R_drew)); exact HO_6.out) (by decide)) hk (fun _ h => h.2)) (fun _ h => h.1)); have n1_ := Aside0.mk (hb); have n2_ := Aside0.mk (hi); clear HO_6; clear HB; clear HI290; have HO_6 := n0_; have HB := n1_; have HI290 := n2_; clear n0_ n1_ n2_; (try clear hb); (try clear hb2); (try clear hk); (try clear hi)) | ((with_reducible refine gate_callee (f := 26) rfl ?_); refine goesL_ (some 24) rfl rfl Try.func26 (by kernel_rfl) rfl #[.pointer (some ⟨g290, 0, none⟩), .int .i64 65536] rfl (by (try simp only [zm1, zm2, zm3]); first | done | rfl) ?_; (with_reducible refine (tourref5_Source_N.calls g290 t288 t296 65536 t297 t298 w _ ?side1 ?side2 A9.out).mono ?_); (case side1 => repeat (first | (with_reducible first | exact HI290.out | apply IsS80.alloc | apply IsS80.drewN | apply IsS80.drew | apply IsS80.set_1) | exact HI290.out)); (case side2 => repeat (first | (with_reducible first | exact HB.out | apply below_alloc | apply pw_below_drewN | apply below_drew1 | refine below_set ?_ (IsS80.ge HI290.out)) | exact HB.out)); rintro e w15 ⟨rfl, hi, hb, hk⟩; refine ⟨_, rfl, ?_⟩; have n0_ := Aside0.mk (Kd.R_mono (Kd.R_keep (IsS80.apart (show IsS80 w _ g290 t288 t296 from by repeat (first | (with_reducible first | exact HI290.out | apply IsS80.alloc | apply IsS80.drewN | apply IsS80.drew | apply IsS80.set_1) | exact HI290.out)) (by (with_reducible repeat (first | apply Kd.R_alloc | apply Kd.R_drewN | apply Kd.R_drew)); exact HO_6.out) (by decide)) hk (fun _ h => h.2)) (fun _ h => h.1)); have n1_ := Aside0.mk (hb); have n2_ := Aside0.mk (hi); clear HO_6; clear HB; clear HI290; have HO_6 := n0_; have HB := n1_; have HI290 := n2_; clear n0_ n1_ n2_; (try clear hb); (try clear hb2); (try clear hk); (try clear hi)) | ((with_reducible refine gate_callee (f := 35) rfl ?_); refine goesL_ (some 25) rfl rfl Try.func35 (by kernel_rfl) rfl #[.agg #[.int .i64 (wrap64 (t291 - 4)), .int .i64 (wrap64 (t293 - 4)), .int .i64 (wrap64 (1 + t295))], .int .i64 t297] rfl (by (try simp only [List.map_toArray, List.map_cons, List.map_nil]); first | done | rfl | (simp only [List.length_drop, List.length_take]; rfl) | (rw [show wrap64 (t291 - 4) = t291 - 4 from by unfold wrap64; omega]; rw [show wrap64 (t293 - 4) = t293 - 4 from by unfold wrap64; omega]; rw [show wrap64 (1 + t295) = 1 + t295 from by unfold wrap64; omega]; rfl)) ?_; (with_reducible refine (quat_Of.calls k1 (wrap64 (t291 - 4)) (wrap64 (t293 - 4)) (wrap64 (1 + t295)) t297 t299 t300 t301 t302 _ A10.out).mono ?_); rintro e w16 ⟨rfl, hb⟩; refine ⟨_, rfl, ?_⟩; have n0_ := Aside0.mk (Kd.R_below (by (with_reducible repeat (first | apply Kd.R_alloc | apply Kd.R_drewN | apply Kd.R_drew)); exact HO_6.out) hb); have n1_ := Aside0.mk (IsS80.below (by repeat (first | (with_reducible first | exact HI290.out | apply IsS80.alloc | apply IsS80.drewN | apply IsS80.drew | apply IsS80.set_1) | exact HI290.out)) hb); have n2_ := Aside0.mk (below_step (by repeat (first | (with_reducible first | exact HB.out | apply below_alloc | apply pw_below_drewN | apply below_drew1 | refine below_set ?_ (IsS80.ge HI290.out)) | exact HB.out)) hb); clear HO_6; clear HI290; clear HB; have HO_6 := n0_; have HI290 := n1_; have HB := n2_; clear n0_ n1_ n2_; (try clear hb); (try clear hb2); (try clear hk); (try clear hi)) | ((with_reducible refine gate_builtin (b := .append) (xs := #[.tmp 12, .tmp 26]) rfl ?_); at_builtin; refine Kd.R_append k37 (w0 := w) w.heap.size rfl (.tmp 12) (.tmp 26) 30 37 (.agg #[(.int .i64 0), (.int .i64 0), (.int .i64 0), (.int .i64 0)]) 32 rfl Try.underlying30 info37 rfl (by decide) (by omega) u6 x6_1 (⟨t299, t300, t301, t302⟩ : S37) [.int .i64 t299, .int .i64 t300, .int .i64 t301, .int .i64 t302] (fun _ => True) (fun _ => False) rfl rfl ?aP (fun _ hk => hk.elim) ?aF ?aO ?aB ?aS ?aL ?_; (case aP => exact k37_mkM _ _ _ (⟨t299, t300, t301, t302⟩ : S37)); (case aB => exact (by repeat (first | (with_reducible first | exact HB.out | apply below_alloc | apply pw_below_drewN | apply below_drew1 | refine below_set ?_ (IsS80.ge HI290.out)) | exact HB.out))); (case aF => exact (fun _ _ => trivial)); (case aO => exact (by (with_reducible repeat (first | apply Kd.R_alloc | apply Kd.R_drewN | apply Kd.R_drew)); exact HO_6.out)); (case aS => exact (below_size (by repeat (first | (with_reducible first | exact HB.out | apply below_alloc | apply pw_below_drewN | apply below_drew1 | refine below_set ?_ (IsS80.ge HI290.out)) | exact HB.out)))); (case aL => have := LMc11.out; omega); intro v304 w17 ho hb hg hat; rw [← Ny303.out] at ho; have n0_ := Aside0.mk (IsS80.grown (by repeat (first | (with_reducible first | exact HI290.out | apply IsS80.alloc | apply IsS80.drewN | apply IsS80.drew | apply IsS80.set_1) | exact HI290.out)) hg (IsS80.own_ne HI290.out HO_6.out (by decide))); have n1_ := Aside0.mk (hb); have n2_ := Aside0.mk (ho); clear HI290; clear HB; clear HO_6; have HI290 := n0_; have HB := n1_; have HO305 := n2_; clear n0_ n1_ n2_; clear ho hb hg hat))
     go_roundg k1
     case measure => have := HK1.out; omega
     case rel => exact ⟨(y303), (wrap64 (x10_1 + 1)), (t298), (by first | rfl | (simp; done) | (simp [*]; done)), H', ⟨by have := HK1.out; omega⟩, ⟨by (with_reducible repeat (first | apply Kd.R_alloc | apply Kd.R_drewN | apply Kd.R_drew)); exact HO305.out⟩, ⟨by repeat (first | (with_reducible first | exact HI290.out | apply IsS80.alloc | apply IsS80.drewN | apply IsS80.drew | apply IsS80.set_1) | exact HI290.out)⟩, ⟨by repeat (first | (with_reducible first | exact HB.out | apply below_alloc | apply pw_below_drewN | apply below_drew1 | refine below_set ?_ (IsS80.ge HI290.out)) | exact HB.out)⟩⟩
    ·rw [if_neg c11] at H
     exact absurd H (by simp)
   ·rw [if_neg c5] at H
    have c5b0 : decide (x10_1 < a1) = false := decide_eq_false c5
    clear c5
    obtain rfl := Option.some.inj H
    go_wp2
    go_ret
    exact ⟨_, by first | rfl | (simp [errW_none, errW_some] <;> rfl) | (simp [*, errW_none, errW_some] <;> rfl), by (with_reducible repeat (first | apply Kd.R_alloc | apply Kd.R_drewN | apply Kd.R_drew)); exact HO_6.out, by repeat (first | (with_reducible first | exact HB.out | apply below_alloc | apply pw_below_drewN | apply below_drew1 | refine below_set ?_ (IsS80.ge HI290.out)) | exact HB.out)⟩

/-! ### vec_mag: function 47 -/
def vec_mag.f (a0 : Int) : Option (Int) := some (IntKind.u64.wrap (mx a0 (wrap64 (-a0))))
set_option maxHeartbeats 8000000 in
set_option maxRecDepth 100000 in
theorem vec_mag.calls (a0 : Int) (r : Int) (w : World) (h : vec_mag.f a0 = some r) :
  Calls Try.prog 47 #[.int .i64 a0] w fun e w' => e = .returned (.int .u64 r) ∧ Below w.heap.size w w' := by
 have HB := Aside0.mk (Below.refl w.heap.size w)
 have H : (some (IntKind.u64.wrap (mx a0 (wrap64 (-a0))))) = some r := h
 clear h
 obtain ⟨ji2, hji2⟩ : ∃ j_ : Int, (mx a0 (wrap64 (-a0))) = j_ := ⟨_, rfl⟩
 replace H : (some (IntKind.u64.wrap (ji2))) = some r := by first | (rw [hji2] at H; exact H) | (simp only [hji2] at H ⊢; exact H)
 have hji2_ : (if a0 < (wrap64 (-a0)) then (wrap64 (-a0)) else a0) = ji2 := hji2
 obtain rfl := Option.some.inj H
 go_enter Try.func47, Try.ntmps47
 go_wp2
 go_ret
 exact ⟨by first | rfl | (simp [errW_none, errW_some] <;> rfl) | (simp only [← hji2]; first | rfl | (simp [errW_none, errW_some] <;> rfl)) | (simp [*, errW_none, errW_some] <;> rfl), by repeat (first | (with_reducible first | exact HB.out | apply below_alloc | apply pw_below_drewN | apply below_drew1) | exact HB.out)⟩

/-! ### vec_length: function 42 -/
def vec_length.f (k : Nat) (a0 : Int) (a1 : Int) : Option (Int) := (vec_mag.f a0).bind fun t306 => ((vec_mag.f a0).bind fun t307 => ((bits_Mul64.f t306 t307).bind fun bt308 => ((vec_mag.f a1).bind fun t310 => ((vec_mag.f a1).bind fun t311 => ((bits_Mul64.f t310 t311).bind fun bt312 => (if (add64hi bt308.2 bt312.2 0) ≤ 1 then ((fix_Root.f k (add64lo bt308.1 bt312.1 (add64hi bt308.2 bt312.2 0)) (add64lo bt308.2 bt312.2 0)).bind fun t314 => (some (wrap64 (t314)))) else (none)))))))
theorem vec_length.mono : ∀ a0 a1 k, LeO (vec_length.f k a0 a1) (vec_length.f (k + 1) a0 a1) := by
 intro a0 a1 k
 unfold vec_length.f
 repeat' first
   | (with_reducible exact fix_Root.mono _ _ _)
   | (with_reducible exact LeO.refl _)
   | (with_reducible exact LeO.none _)
   | (with_reducible refine LeO.ite ?_ ?_)
   | (with_reducible refine LeO.bind ?_ (fun _ => ?_))
   | exact fix_Root.mono _ _ _
   | exact LeO.none _
   | refine LeO.ite ?_ ?_
   | refine LeO.bind ?_ (fun _ => ?_)
set_option maxHeartbeats 8000000 in
set_option maxRecDepth 100000 in
theorem vec_length.calls (k : Nat) (a0 : Int) (a1 : Int) (r : Int) (w : World) (h : vec_length.f k a0 a1 = some r) :
  Calls Try.prog 42 #[.int .i64 a0, .int .i64 a1] w fun e w' => e = .returned (.int .i64 r) ∧ Below w.heap.size w w' := by
 have HB := Aside0.mk (Below.refl w.heap.size w)
 have H : ((vec_mag.f a0).bind fun t306 => ((vec_mag.f a0).bind fun t307 => ((bits_Mul64.f t306 t307).bind fun bt308 => ((vec_mag.f a1).bind fun t310 => ((vec_mag.f a1).bind fun t311 => ((bits_Mul64.f t310 t311).bind fun bt312 => (if (add64hi bt308.2 bt312.2 0) ≤ 1 then ((fix_Root.f k (add64lo bt308.1 bt312.1 (add64hi bt308.2 bt312.2 0)) (add64lo bt308.2 bt312.2 0)).bind fun t314 => (some (wrap64 (t314)))) else (none)))))))) = some r := h
 clear h
 replace H := Option.bind_eq_some_iff.mp H
 obtain ⟨t306, A30, H⟩ := H
 replace H : ((vec_mag.f a0).bind fun t307 => ((bits_Mul64.f t306 t307).bind fun bt308 => ((vec_mag.f a1).bind fun t310 => ((vec_mag.f a1).bind fun t311 => ((bits_Mul64.f t310 t311).bind fun bt312 => (if (add64hi bt308.2 bt312.2 0) ≤ 1 then ((fix_Root.f k (add64lo bt308.1 bt312.1 (add64hi bt308.2 bt312.2 0)) (add64lo bt308.2 bt312.2 0)).bind fun t314 => (some (wrap64 (t314)))) else (none))))))) = some r := H
 have A3 := Aside0.mk A30
 clear A30
 replace H := Option.bind_eq_some_iff.mp H
 obtain ⟨t307, A40, H⟩ := H
 replace H : ((bits_Mul64.f t306 t307).bind fun bt308 => ((vec_mag.f a1).bind fun t310 => ((vec_mag.f a1).bind fun t311 => ((bits_Mul64.f t310 t311).bind fun bt312 => (if (add64hi bt308.2 bt312.2 0) ≤ 1 then ((fix_Root.f k (add64lo bt308.1 bt312.1 (add64hi bt308.2 bt312.2 0)) (add64lo bt308.2 bt312.2 0)).bind fun t314 => (some (wrap64 (t314)))) else (none)))))) = some r := H
 have A4 := Aside0.mk A40
 clear A40
 replace H := Option.bind_eq_some_iff.mp H
 obtain ⟨⟨t308, t309⟩, A50, H⟩ := H
 replace H : ((vec_mag.f a1).bind fun t310 => ((vec_mag.f a1).bind fun t311 => ((bits_Mul64.f t310 t311).bind fun bt312 => (if (add64hi t309 bt312.2 0) ≤ 1 then ((fix_Root.f k (add64lo t308 bt312.1 (add64hi t309 bt312.2 0)) (add64lo t309 bt312.2 0)).bind fun t314 => (some (wrap64 (t314)))) else (none))))) = some r := H
 have A5 := Aside0.mk A50
 clear A50
 replace H := Option.bind_eq_some_iff.mp H
 obtain ⟨t310, A60, H⟩ := H
 replace H : ((vec_mag.f a1).bind fun t311 => ((bits_Mul64.f t310 t311).bind fun bt312 => (if (add64hi t309 bt312.2 0) ≤ 1 then ((fix_Root.f k (add64lo t308 bt312.1 (add64hi t309 bt312.2 0)) (add64lo t309 bt312.2 0)).bind fun t314 => (some (wrap64 (t314)))) else (none)))) = some r := H
 have A6 := Aside0.mk A60
 clear A60
 replace H := Option.bind_eq_some_iff.mp H
 obtain ⟨t311, A70, H⟩ := H
 replace H : ((bits_Mul64.f t310 t311).bind fun bt312 => (if (add64hi t309 bt312.2 0) ≤ 1 then ((fix_Root.f k (add64lo t308 bt312.1 (add64hi t309 bt312.2 0)) (add64lo t309 bt312.2 0)).bind fun t314 => (some (wrap64 (t314)))) else (none))) = some r := H
 have A7 := Aside0.mk A70
 clear A70
 replace H := Option.bind_eq_some_iff.mp H
 obtain ⟨⟨t312, t313⟩, A80, H⟩ := H
 replace H : (if (add64hi t309 t313 0) ≤ 1 then ((fix_Root.f k (add64lo t308 t312 (add64hi t309 t313 0)) (add64lo t309 t313 0)).bind fun t314 => (some (wrap64 (t314)))) else (none)) = some r := H
 have A8 := Aside0.mk A80
 clear A80
 by_cases c9 : (add64hi t309 t313 0) ≤ 1
 ·rw [if_pos c9] at H
  have c9b0 := eq_true c9
  have c9b1 : decide ((add64hi t309 t313 0) ≤ 1) = true := decide_eq_true c9
  clear c9
  replace H := Option.bind_eq_some_iff.mp H
  obtain ⟨t314, A100, H⟩ := H
  replace H : (some (wrap64 (t314))) = some r := H
  have A10 := Aside0.mk A100
  clear A100
  obtain rfl := Option.some.inj H
  go_enter Try.func42, Try.ntmps42
  go_wp2_with (first | ((with_reducible refine gate_callee (f := 47) rfl ?_); refine goesL_ (some 15) rfl rfl Try.func47 (by kernel_rfl) rfl #[.int .i64 a0] rfl (by (try simp only [zm1, zm2, zm3]); first | done | rfl) ?_; (with_reducible refine (vec_mag.calls a0 t306 _ A3.out).mono ?_); rintro e w11 ⟨rfl, hb⟩; refine ⟨_, rfl, ?_⟩; have n0_ := Aside0.mk (below_step (by repeat (first | (with_reducible first | exact HB.out | apply below_alloc | apply pw_below_drewN | apply below_drew1) | exact HB.out)) hb); clear HB; have HB := n0_; clear n0_; (try clear hb); (try clear hb2); (try clear hk); (try clear hi)) | ((with_reducible refine gate_callee (f := 47) rfl ?_); refine goesL_ (some 17) rfl rfl Try.func47 (by kernel_rfl) rfl #[.int .i64 a0] rfl (by (try simp only [zm1, zm2, zm3]); first | done | rfl) ?_; (with_reducible refine (vec_mag.calls a0 t307 _ A4.out).mono ?_); rintro e w12 ⟨rfl, hb⟩; refine ⟨_, rfl, ?_⟩; have n0_ := Aside0.mk (below_step (by repeat (first | (with_reducible first | exact HB.out | apply below_alloc | apply pw_below_drewN | apply below_drew1) | exact HB.out)) hb); clear HB; have HB := n0_; clear n0_; (try clear hb); (try clear hb2); (try clear hk); (try clear hi)) | ((with_reducible refine gate_callee (f := 32) rfl ?_); refine goesL_ (some 18) rfl rfl Try.func32 (by kernel_rfl) rfl #[.int .u64 t306, .int .u64 t307] rfl (by (try simp only [zm1, zm2, zm3]); first | done | rfl) ?_; (with_reducible refine (bits_Mul64.calls t306 t307 t308 t309 _ A5.out).mono ?_); rintro e w' ⟨rfl, ⟨nd, rfl⟩⟩; refine ⟨_, rfl, ?_⟩) | ((with_reducible refine gate_callee (f := 47) rfl ?_); refine goesL_ (some 23) rfl rfl Try.func47 (by kernel_rfl) rfl #[.int .i64 a1] rfl (by (try simp only [zm1, zm2, zm3]); first | done | rfl) ?_; (with_reducible refine (vec_mag.calls a1 t310 _ A6.out).mono ?_); rintro e w13 ⟨rfl, hb⟩; refine ⟨_, rfl, ?_⟩; have n0_ := Aside0.mk (below_step (by repeat (first | (with_reducible first | exact HB.out | apply below_alloc | apply pw_below_drewN | apply below_drew1) | exact HB.out)) hb); clear HB; have HB := n0_; clear n0_; (try clear hb); (try clear hb2); (try clear hk); (try clear hi)) | ((with_reducible refine gate_callee (f := 47) rfl ?_); refine goesL_ (some 25) rfl rfl Try.func47 (by kernel_rfl) rfl #[.int .i64 a1] rfl (by (try simp only [zm1, zm2, zm3]); first | done | rfl) ?_; (with_reducible refine (vec_mag.calls a1 t311 _ A7.out).mono ?_); rintro e w14 ⟨rfl, hb⟩; refine ⟨_, rfl, ?_⟩; have n0_ := Aside0.mk (below_step (by repeat (first | (with_reducible first | exact HB.out | apply below_alloc | apply pw_below_drewN | apply below_drew1) | exact HB.out)) hb); clear HB; have HB := n0_; clear n0_; (try clear hb); (try clear hb2); (try clear hk); (try clear hi)) | ((with_reducible refine gate_callee (f := 32) rfl ?_); refine goesL_ (some 26) rfl rfl Try.func32 (by kernel_rfl) rfl #[.int .u64 t310, .int .u64 t311] rfl (by (try simp only [zm1, zm2, zm3]); first | done | rfl) ?_; (with_reducible refine (bits_Mul64.calls t310 t311 t312 t313 _ A8.out).mono ?_); rintro e w' ⟨rfl, ⟨nd, rfl⟩⟩; refine ⟨_, rfl, ?_⟩) | ((with_reducible refine gate_callee (f := 44) rfl ?_); refine goesL_ (some 44) rfl rfl Try.func44 (by kernel_rfl) rfl #[.int .u64 (add64lo t308 t312 (add64hi t309 t313 0)), .int .u64 (add64lo t309 t313 0)] rfl (by (try simp only [zm1, zm2, zm3]); first | done | rfl) ?_; (with_reducible refine (fix_Root.calls k (add64lo t308 t312 (add64hi t309 t313 0)) (add64lo t309 t313 0) t314 _ A10.out).mono ?_); rintro e w' ⟨rfl, ⟨nd, rfl⟩⟩; refine ⟨_, rfl, ?_⟩))
  go_ret
  exact ⟨by first | rfl | (simp [errW_none, errW_some] <;> rfl) | (simp [*, errW_none, errW_some] <;> rfl), by repeat (first | (with_reducible first | exact HB.out | apply below_alloc | apply pw_below_drewN | apply below_drew1) | exact HB.out)⟩
 ·rw [if_neg c9] at H
  exact absurd H (by simp)

/-! ### vec_Len: function 36 -/
def vec_Len.f (k : Nat) (a0_0 : Int) (a0_1 : Int) : Option (Int) := (fix_Clamp.f a0_0).bind fun t316 => ((fix_Clamp.f a0_1).bind fun t317 => ((vec_length.f k t316 t317).bind fun t318 => ((fix_Clamp.f t318).bind fun t319 => (some t319))))
theorem vec_Len.mono : ∀ a0 a1 k, LeO (vec_Len.f k a0 a1) (vec_Len.f (k + 1) a0 a1) := by
 intro a0 a1 k
 unfold vec_Len.f
 repeat' first
   | (with_reducible exact vec_length.mono _ _ _)
   | (with_reducible exact LeO.refl _)
   | (with_reducible exact LeO.none _)
   | (with_reducible refine LeO.ite ?_ ?_)
   | (with_reducible refine LeO.bind ?_ (fun _ => ?_))
   | exact vec_length.mono _ _ _
   | exact LeO.none _
   | refine LeO.ite ?_ ?_
   | refine LeO.bind ?_ (fun _ => ?_)
def vec_Len.T1 : Bool × List (List Nat × List Nat) := (true, [([], []), ([0], [0]), ([1], [1]), ([], []), ([3], [3]), ([4, 2], [4]), ([2, 5, 5], [2, 5]), ([6, 6], [6]), ([7, 7, 0, 1, 2, 3, 4, 5, 6, 7], [7])])
def vec_Len.B1 : List Nat := [0, 1, 3, 0, 8, 31, 63, 127, 255]
theorem vec_Len.tab1 : rtab .any (opsOf Try.f36 1) = vec_Len.T1 := by kernel_rfl
theorem vec_Len.bits1 : waitsOk vec_Len.T1.2 vec_Len.B1 = true := by kernel_rfl
set_option maxHeartbeats 8000000 in
set_option maxRecDepth 100000 in
theorem vec_Len.calls (k : Nat) (a0_0 : Int) (a0_1 : Int) (r : Int) (w : World) (h : vec_Len.f k a0_0 a0_1 = some r) :
  Calls Try.prog 36 #[.agg #[.int .i64 a0_0, .int .i64 a0_1]] w fun e w' => e = .returned (.int .i64 r) ∧ Below w.heap.size w w' := by
 have hu76 := Try.underlying76
 have HB := Aside0.mk (Below.refl w.heap.size w)
 have H : ((fix_Clamp.f a0_0).bind fun t316 => ((fix_Clamp.f a0_1).bind fun t317 => ((vec_length.f k t316 t317).bind fun t318 => ((fix_Clamp.f t318).bind fun t319 => (some t319))))) = some r := h
 clear h
 replace H := Option.bind_eq_some_iff.mp H
 obtain ⟨t316, A20, H⟩ := H
 replace H : ((fix_Clamp.f a0_1).bind fun t317 => ((vec_length.f k t316 t317).bind fun t318 => ((fix_Clamp.f t318).bind fun t319 => (some t319)))) = some r := H
 have A2 := Aside0.mk A20
 clear A20
 replace H := Option.bind_eq_some_iff.mp H
 obtain ⟨t317, A30, H⟩ := H
 replace H : ((vec_length.f k t316 t317).bind fun t318 => ((fix_Clamp.f t318).bind fun t319 => (some t319))) = some r := H
 have A3 := Aside0.mk A30
 clear A30
 replace H := Option.bind_eq_some_iff.mp H
 obtain ⟨t318, A40, H⟩ := H
 replace H : ((fix_Clamp.f t318).bind fun t319 => (some t319)) = some r := H
 have A4 := Aside0.mk A40
 clear A40
 replace H := Option.bind_eq_some_iff.mp H
 obtain ⟨t319, A50, H⟩ := H
 replace H : (some t319) = some r := H
 have A5 := Aside0.mk A50
 clear A50
 obtain rfl := Option.some.inj H
 go_enter Try.func36, Try.ntmps36
 try go_wp2_with (first | ((with_reducible refine gate_dst (N := 1) rfl ?_); refine box_event ?hg (N := 1) ?hd (cs := #[.int .i64 a0_0, .int .i64 a0_1]) (t := 76) ?hr ?_; (case hd => rfl); (case hg => rfl); (case hr => first | (go_simp; done) | (go_simp; rfl)); intro gb315 hg w6 hbox hb; have n0_ := Aside0.mk (below_step (by repeat (first | (with_reducible first | exact HB.out | apply below_alloc | apply pw_below_drewN | apply below_drew1) | exact HB.out)) hb); have n1_ := Aside0.mk (hbox); have n2_ := Aside0.mk ((by rw [hg]; exact (below_size (by repeat (first | (with_reducible first | exact HB.out | apply below_alloc | apply pw_below_drewN | apply below_drew1) | exact HB.out))) : w.heap.size ≤ gb315)); have n3_ := Aside0.mk ((by rw [hg]; exact (below_size (by repeat (first | (with_reducible first | exact HB.out | apply below_alloc | apply pw_below_drewN | apply below_drew1) | exact HB.out))) : w.heap.size ≤ gb315)); clear HB; have HB := n0_; have BK315 := n1_; have GW315 := n2_; have GE315 := n3_; clear n0_ n1_ n2_ n3_; clear hb hbox hg))
 have n0_ := Aside0.mk (blk_drew BK315.out)
 have n1_ := Aside0.mk (below_drew1 HB.out)
 clear BK315
 clear HB
 have BK315 := n0_
 have HB := n1_
 clear n0_ n1_
 refine start_ (n := 9) (S := fun w' => w'.cell? ⟨gb315, 0, none⟩ = some (.int .i64 a0_0) ∧ w'.cell? ⟨gb315, 1, none⟩ = some (.int .i64 a0_1)) (ds := []) (ab 9 0) (by kernel_rfl) rfl rfl ⟨(blk_cell BK315.out 0).trans rfl, (blk_cell BK315.out 1).trans rfl⟩ (fun hHeld => ?_); refine with_tabW vec_Len.tab1 vec_Len.bits1 (fun HT_ HW_ => ?_)
 generalize w6.drew = w7 at BK315 HB hHeld ⊢
 refine pure_ (i := 0) (N := some 3) (v := ?_) (a' := ?_) (ab 9 1) rfl rfl (any_of HT_.out (by kernel_rfl)) (fun _ _ _ h => h) (Or.inl ⟨by rfl, ?_⟩) ?_ ?_
 rotate_left
 ·intro w'
  go_simp
  with_reducible rfl
 rotate_left
 ·simp only [Act.put, zq1, zq2, zq3, i64_w, i32_w]
  rfl
 refine pure_ (i := 3) (N := some 6) (v := ?_) (a' := ?_) (ab 9 9) rfl rfl (any_of HT_.out (by kernel_rfl)) (fun _ _ _ h => h) (Or.inl ⟨by rfl, ?_⟩) ?_ ?_
 rotate_left
 ·intro w'
  go_simp
  with_reducible rfl
 rotate_left
 ·simp only [Act.put, zq1, zq2, zq3, i64_w, i32_w]
  rfl
 refine take_ (i := 1) (N := some 4) (v := ?_) (a' := ?_) (ab 9 11) rfl rfl (take_ofW HT_.out HW_.out (by kernel_rfl)) (fun _ _ _ h => h) (Or.inl ⟨by rfl, ?_⟩) hHeld ?_ ?_
 rotate_left
 ·rintro w' ⟨s0, s1⟩
  go_simp
  with_reducible rfl
 rotate_left
 ·simp only [Act.put, zq1, zq2, zq3, i64_w, i32_w]
  rfl
 refine take_ (i := 4) (N := some 7) (v := ?_) (a' := ?_) (ab 9 27) rfl rfl (take_ofW HT_.out HW_.out (by kernel_rfl)) (fun _ _ _ h => h) (Or.inl ⟨by rfl, ?_⟩) hHeld ?_ ?_
 rotate_left
 ·rintro w' ⟨s0, s1⟩
  go_simp
  with_reducible rfl
 rotate_left
 ·simp only [Act.put, zq1, zq2, zq3, i64_w, i32_w]
  rfl
 refine one_ (i := 2) (N := some 5) (ab 9 31) rfl rfl (one_of HT_.out (by kernel_rfl)) (by decide) (fun K hK => ?_)
 refine goes_ Try.func30 (by kernel_rfl) rfl #[.int .i64 a0_0] (by rfl) rfl rfl (by (try simp only [zm1, zm2, zm3]); first | done | rfl) ?_
 with_reducible refine (fix_Clamp.calls a0_0 t316 _ A2.out).mono ?_
 rintro e w8 ⟨rfl, hb⟩
 refine ⟨_, rfl, ?_⟩
 have n0_ := Aside0.mk (bb hb BK315.out)
 have n1_ := Aside0.mk (below_step (by repeat (first | (with_reducible first | exact HB.out | apply below_alloc | apply pw_below_drewN | apply below_drew1 | refine below_set ?_ GE315.out) | exact HB.out)) hb)
 clear BK315
 clear HB
 have BK315 := n0_
 have HB := n1_
 clear n0_ n1_
 (try clear hb)
 (try clear hb2)
 (try clear hk)
 (try clear hi)
 refine hK.out _ _ ⟨(blk_cell BK315.out 0).trans rfl, (blk_cell BK315.out 1).trans rfl⟩ (fun hHeld => ?_)
 clear hK K
 refine norm_ (a' := ?_) ?_ ?_
 rotate_left
 ·show Act.put _ (some 5) _ = _
  simp only [Act.put, zq1, zq2, zq3, i64_w, i32_w]
  rfl
 refine one_ (i := 5) (N := some 8) (ab 9 63) rfl rfl (one_of HT_.out (by kernel_rfl)) (by decide) (fun K hK => ?_)
 refine goes_ Try.func30 (by kernel_rfl) rfl #[.int .i64 a0_1] (by rfl) rfl rfl (by (try simp only [zm1, zm2, zm3]); first | done | rfl) ?_
 with_reducible refine (fix_Clamp.calls a0_1 t317 _ A3.out).mono ?_
 rintro e w9 ⟨rfl, hb⟩
 refine ⟨_, rfl, ?_⟩
 have n0_ := Aside0.mk (bb hb BK315.out)
 have n1_ := Aside0.mk (below_step (by repeat (first | (with_reducible first | exact HB.out | apply below_alloc | apply pw_below_drewN | apply below_drew1 | refine below_set ?_ GE315.out) | exact HB.out)) hb)
 clear BK315
 clear HB
 have BK315 := n0_
 have HB := n1_
 clear n0_ n1_
 (try clear hb)
 (try clear hb2)
 (try clear hk)
 (try clear hi)
 refine hK.out _ _ ⟨(blk_cell BK315.out 0).trans rfl, (blk_cell BK315.out 1).trans rfl⟩ (fun hHeld => ?_)
 clear hK K
 refine norm_ (a' := ?_) ?_ ?_
 rotate_left
 ·show Act.put _ (some 8) _ = _
  simp only [Act.put, zq1, zq2, zq3, i64_w, i32_w]
  rfl
 refine one_ (i := 6) (N := some 9) (ab 9 127) rfl rfl (one_of HT_.out (by kernel_rfl)) (by decide) (fun K hK => ?_)
 refine goes_ Try.func42 (by kernel_rfl) rfl #[.int .i64 t316, .int .i64 t317] (by rfl) rfl rfl (by (try simp only [zm1, zm2, zm3]); first | done | rfl) ?_
 with_reducible refine (vec_length.calls k t316 t317 t318 _ A4.out).mono ?_
 rintro e w10 ⟨rfl, hb⟩
 refine ⟨_, rfl, ?_⟩
 have n0_ := Aside0.mk (bb hb BK315.out)
 have n1_ := Aside0.mk (below_step (by repeat (first | (with_reducible first | exact HB.out | apply below_alloc | apply pw_below_drewN | apply below_drew1 | refine below_set ?_ GE315.out) | exact HB.out)) hb)
 clear BK315
 clear HB
 have BK315 := n0_
 have HB := n1_
 clear n0_ n1_
 (try clear hb)
 (try clear hb2)
 (try clear hk)
 (try clear hi)
 refine hK.out _ _ ⟨(blk_cell BK315.out 0).trans rfl, (blk_cell BK315.out 1).trans rfl⟩ (fun hHeld => ?_)
 clear hK K
 refine norm_ (a' := ?_) ?_ ?_
 rotate_left
 ·show Act.put _ (some 9) _ = _
  simp only [Act.put, zq1, zq2, zq3, i64_w, i32_w]
  rfl
 refine one_ (i := 7) (N := some 10) (ab 9 255) rfl rfl (one_of HT_.out (by kernel_rfl)) (by decide) (fun K hK => ?_)
 refine goes_ Try.func30 (by kernel_rfl) rfl #[.int .i64 t318] (by rfl) rfl rfl (by (try simp only [zm1, zm2, zm3]); first | done | rfl) ?_
 with_reducible refine (fix_Clamp.calls t318 t319 _ A5.out).mono ?_
 rintro e w11 ⟨rfl, hb⟩
 refine ⟨_, rfl, ?_⟩
 have n0_ := Aside0.mk (bb hb BK315.out)
 have n1_ := Aside0.mk (below_step (by repeat (first | (with_reducible first | exact HB.out | apply below_alloc | apply pw_below_drewN | apply below_drew1 | refine below_set ?_ GE315.out) | exact HB.out)) hb)
 clear BK315
 clear HB
 have BK315 := n0_
 have HB := n1_
 clear n0_ n1_
 (try clear hb)
 (try clear hb2)
 (try clear hk)
 (try clear hi)
 refine hK.out _ _ ⟨(blk_cell BK315.out 0).trans rfl, (blk_cell BK315.out 1).trans rfl⟩ (fun hHeld => ?_)
 clear hK K
 refine norm_ (a' := ?_) ?_ ?_
 rotate_left
 ·show Act.put _ (some 10) _ = _
  simp only [Act.put, zq1, zq2, zq3, i64_w, i32_w]
  rfl
 refine pure_ (i := 8) (N := some 2) (v := ?_) (a' := ?_) (ab 9 511) rfl rfl (any_of HT_.out (by kernel_rfl)) (fun _ _ _ h => h) (Or.inl ⟨by rfl, ?_⟩) ?_ ?_
 rotate_left
 ·intro w'
  go_simp
  with_reducible rfl
 rotate_left
 ·simp only [Act.put, zq1, zq2, zq3, i64_w, i32_w]
  rfl
 refine done_ (done_of HT_.out (by kernel_rfl)) ?_
 try go_wp2
 go_ret
 exact ⟨by first | rfl | (simp [errW_none, errW_some] <;> rfl) | (simp [*, errW_none, errW_some] <;> rfl), by repeat (first | (with_reducible first | exact HB.out | apply below_alloc | apply pw_below_drewN | apply below_drew1 | refine below_set ?_ GE315.out) | exact HB.out)⟩

end Go.Proofs.Ytfallkiaojefnaa.PBonesLong
