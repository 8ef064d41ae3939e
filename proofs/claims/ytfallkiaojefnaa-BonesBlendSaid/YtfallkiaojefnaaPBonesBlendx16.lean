-- Printed by a program: the print with changes of this session (wip/printpatch.py).
import Derived.Test.YtfallkiaojefnaaPBonesBlendx0
import Derived.Test.YtfallkiaojefnaaPBonesBlendx4
import Derived.Test.YtfallkiaojefnaaPBonesBlendx8
import Derived.Test.YtfallkiaojefnaaPBonesBlendx13
import Derived.Test.YtfallkiaojefnaaPBonesBlendx15
namespace Go.Proofs.Ytfallkiaojefnaa.PBonesBlend
open Go.Proofs.Ytfallkiaojefnaa.Fnv Go.Proofs.Ytfallkiaojefnaa.Ary Go.Proofs.Ytfallkiaojefnaa.Ext
open Go.RowKit Go.Proofs.YtfallkiaojefnaaW.PrintWords Go.Proofs.YtfallkiaojefnaaW.PrintLast Go.Proofs.YtfallkiaojefnaaW.PrintMore
attribute [local go_sem] max2_int min2_int max_two min_two max_three min_three max_four min_four   -- for this text's walks alone
set_option linter.unusedVariables false
set_option linter.unusedSimpArgs false

/-! ### quat_Of: function 35 -/
-- rounds making descend
def quat_Of.f (k : Nat) (a0_0 a0_1 a0_2 a1 : Int) : Option (Int × Int × Int × Int) :=
 (quat_unit.f k [a0_0, a0_1, a0_2]).bind fun u => if u.2 = true then (if 3 ≤ u.1.length then ((trig_Sin.f (a1 / 2)).bind fun s => (trig_Cos.f (a1 / 2)).bind fun c => (fix_Mul.f k (rd u.1 0) s).bind fun x => (fix_Mul.f k (rd u.1 1) s).bind fun y => (fix_Mul.f k (rd u.1 2) s).bind fun z => some (c, x, y, z)) else none) else some (65536, 0, 0, 0)
theorem quat_Of.mono : ∀ a0 a1 a2 a3 k, LeO (quat_Of.f k a0 a1 a2 a3) (quat_Of.f (k + 1) a0 a1 a2 a3) := by
 intro a0 a1 a2 a3 k
 unfold quat_Of.f
 exact LeO.bind (quat_unit.mono _ _) fun u => LeO.ite (LeO.ite (LeO.bind (LeO.refl _) fun s => LeO.bind (LeO.refl _) fun c => LeO.bind (fix_Mul.mono _ _ _) fun x => LeO.bind (fix_Mul.mono _ _ _) fun y => LeO.bind (fix_Mul.mono _ _ _) fun z => LeO.refl _) (LeO.refl _)) (LeO.refl _)
theorem quat_Of.row3 {w : World} {g : Nat} {t : TypeId} {a b c : Int} (B : w.heap[g]? = some (.cells #[.int .i64 a, .int .i64 b, .int .i64 c] t (0, 0))) : Kd.C (Kd.int .i64) w (some ⟨g, 0, none⟩) ([a, b, c] : List Int).length [a, b, c] := by
 refine Kd.C_of_reads (enc := Value.int .i64) (d := (0 : Int)) (h1 := fun _ => rfl) ⟨rfl, by show 3 ≤ 9223372036854775807; decide, fun _ => ⟨_, rfl, fun j hj => ?_⟩⟩
 have hj : j < 3 := hj
 have h := blk_cell B j
 rw [show (⟨g, 0, none⟩ : Addr).add j = ⟨g, j, none⟩ from by simp [Addr.add, eq_comm]]
 rw [h]
 rcases (by omega : j = 0 ∨ j = 1 ∨ j = 2) with rfl | rfl | rfl <;> rfl
theorem quat_Of.put4 {w : World} {x : Nat} {t : TypeId} {v0 v1 v2 v3 : Value} (B : w.heap[x]? = some (.cells #[v0, v1, v2, v3] t (0, 0))) (u0 u1 u2 u3 : Value) : ((((w.setCell ⟨x, 0, none⟩ u0).setCell ⟨x, 1, none⟩ u1).setCell ⟨x, 2, none⟩ u2).setCell ⟨x, 3, none⟩ u3).heap[x]? = some (.cells #[u0, u1, u2, u3] t (0, 0)) :=
 blk_put (blk_put (blk_put (blk_put B 0 u0 rfl) 1 u1 rfl) 2 u2 rfl) 3 u3 rfl
theorem quat_Of.four {w : World} {x : Nat} {t : TypeId} {v0 v1 v2 v3 : Value} (B : w.heap[x]? = some (.cells #[v0, v1, v2, v3] t (0, 0))) : (w.cell? ⟨x, 0, none⟩ = some v0 ∧ w.cell? ⟨x, 1, none⟩ = some v1 ∧ w.cell? ⟨x, 2, none⟩ = some v2 ∧ w.cell? ⟨x, 3, none⟩ = some v3) ∧ ∀ j, w.frozen? ⟨x, j, none⟩ = false :=
 ⟨⟨(blk_cell B 0).trans rfl, (blk_cell B 1).trans rfl, (blk_cell B 2).trans rfl, (blk_cell B 3).trans rfl⟩, fun j => blk_frozen B j⟩
theorem quat_Of.size (w : World) (o : Obj) : (w.alloc o).heap.size = w.heap.size + 1 := by simp
set_option maxHeartbeats 8000000 in
set_option maxRecDepth 100000 in
theorem quat_Of.calls (k : Nat) (a0_0 a0_1 a0_2 a1 : Int) (r1 r2 r3 r4 : Int) (w : World) (h : quat_Of.f k a0_0 a0_1 a0_2 a1 = some (r1, r2, r3, r4)) :
  Calls Try.prog 35 #[.agg #[.int .i64 a0_0, .int .i64 a0_1, .int .i64 a0_2], .int .i64 a1] w fun e w' => e = .returned (.agg #[.int .i64 r1, .int .i64 r2, .int .i64 r3, .int .i64 r4]) ∧ Below w.heap.size w w' := by
 have hu33 := Try.underlying33
 have hu37 := Try.underlying37
 unfold quat_Of.f at h
 obtain ⟨⟨ul, ub⟩, hU, h⟩ := Option.bind_eq_some_iff.mp h
 have HU := Aside0.mk hU
 have H := Aside0.mk h
 clear hU h
 go_enter Try.func35, Try.ntmps35
 go_upto_region 0 with fail
 go_cut [2, 4] (fun v2 v4 w' => ∃ g2 g4 : Nat, v2 = .pointer (some ⟨g2, 0, none⟩) ∧ v4 = .pointer (some ⟨g4, 0, none⟩) ∧ w'.heap[g2]? = some (.cells #[.int .i64 a0_0, .int .i64 a0_1, .int .i64 a0_2] 33 (0, 0)) ∧ w'.heap[g4]? = some (.cells #[.int .i64 0, .int .i64 0, .int .i64 0, .int .i64 0] 37 (0, 0)) ∧ w.heap.size ≤ g4 ∧ Below w.heap.size w w')
 case first =>
  go_wp2_with fail
  go_meet
  exact ⟨_, _, rfl, rfl, blk_below (blk_new _ _) (below_alloc (Below.refl _ _) _), (by have := blk_new (w.alloc (.cells #[.int .i64 a0_0, .int .i64 a0_1, .int .i64 a0_2] 33 (0, 0))) (.cells #[.int .i64 0, .int .i64 0, .int .i64 0, .int .i64 0] 37 (0, 0)); rwa [quat_Of.size] at this), by omega, below_step (below_alloc (Below.refl _ _) _) (below_alloc (Below.refl _ _) _)⟩
 case rest =>
  obtain ⟨g2, g4, rfl, rfl, B2, B4, hg4, hb⟩ := hcut
  have HB := Aside0.mk hb
  have L4 := Aside0.mk hg4
  have B2 := Aside0.mk B2
  have B4 := Aside0.mk B4
  clear hb hg4
  go_upto_region 2 with (first | ((with_reducible refine gate_dst (N := 11) rfl ?_); (with_reducible refine gate_callee (f := 37) rfl ?_); refine goesL_ (some 11) rfl rfl Try.func37 (by kernel_rfl) rfl #[.slice (some ⟨g2, 0, none⟩) 3 3] rfl (by (try simp only [List.map_toArray, List.map_cons, List.map_nil]); first | done | rfl) ?_; (refine (quat_unit.calls k (some ⟨g2, 0, none⟩) 3 [a0_0, a0_1, a0_2] ul ub _ (quat_Of.row3 B2.out) (Nat.le_refl 3) HU.out).mono ?_); rintro e w3 ⟨vu, rfl, hR, hb⟩; refine ⟨_, rfl, ?_⟩; have B4 := Aside0.mk (blk_below B4.out hb); have RU := Aside0.mk hR; have HB := Aside0.mk (below_step HB.out hb); clear hR hb))
  have hh := H.out
  clear H
  obtain ⟨⟨z0, z1, z2, z3⟩, fz⟩ := quat_Of.four B4.out
  cases ub with
  | false =>
   have e := Option.some.inj hh
   injection e with e0 e
   injection e with e1 e
   injection e with e2 e3
   subst e0 e1 e2 e3
   have y0 := fz 0
   have y1 := fz 1
   have y2 := fz 2
   have y3 := fz 3
   clear hh fz
   go_wp2
   refine bodyPost_ret (results_cell_row rfl _ _ g4 37 #[.int .i64 65536, .int .i64 0, .int .i64 0, .int .i64 0] (0, 0) _ rfl (quat_Of.put4 B4.out _ _ _ _) Try.underlying37 rfl (by kernel_rfl)) rfl ?_
   exact ⟨rfl, below_set (below_set (below_set (below_set HB.out L4.out) L4.out) L4.out) L4.out⟩
  | true =>
   clear z0 z1 z2 z3 fz
   have hh : (if 3 ≤ ul.length then ((trig_Sin.f (a1 / 2)).bind fun s => (trig_Cos.f (a1 / 2)).bind fun c => (fix_Mul.f k (rd ul 0) s).bind fun x => (fix_Mul.f k (rd ul 1) s).bind fun y => (fix_Mul.f k (rd ul 2) s).bind fun z => some (c, x, y, z)) else none) = some (r1, r2, r3, r4) := hh
   by_cases h3 : 3 ≤ ul.length
   case neg => rw [if_neg h3] at hh; cases hh
   rw [if_pos h3] at hh
   obtain ⟨sn, f1, hh⟩ := Option.bind_eq_some_iff.mp hh
   obtain ⟨cs, f2, hh⟩ := Option.bind_eq_some_iff.mp hh
   obtain ⟨x, f3, hh⟩ := Option.bind_eq_some_iff.mp hh
   obtain ⟨y, f4, hh⟩ := Option.bind_eq_some_iff.mp hh
   obtain ⟨z, f5, hh⟩ := Option.bind_eq_some_iff.mp hh
   have e := Option.some.inj hh
   injection e with e0 e
   injection e with e1 e
   injection e with e2 e3
   subst e0 e1 e2 e3
   obtain ⟨A, cu, rfl, hcu, hC⟩ := Kd.R_reads RU.out
   obtain ⟨ad, rfl, c0⟩ := Kd.at_int hC 0 (by omega) (by omega)
   obtain ⟨ad1, e1, c1⟩ := Kd.at_int hC 1 (by omega) (by omega)
   obtain ⟨ad2, e2, c2⟩ := Kd.at_int hC 2 (by omega) (by omega)
   injection e1 with e1
   injection e2 with e2
   subst e1 e2
   have za : ad.add 0 = ad := by unfold Addr.add; simp
   have C0 := Aside0.mk (show w3.cell? ad = some (.int .i64 (rd ul 0)) from by have h : w3.cell? (ad.add 0) = some (.int .i64 (rd ul 0)) := c0; rw [za] at h; exact h)
   have C1 := Aside0.mk (show w3.cell? ⟨ad.block, ad.off + 1, none⟩ = some (.int .i64 (rd ul 1)) from by have h : w3.cell? (ad.add (0 + 1)) = some (.int .i64 (rd ul 1)) := c1; rw [add_field ad 0 1 (by decide), za] at h; exact h)
   have C2 := Aside0.mk (show w3.cell? ⟨ad.block, ad.off + 2, none⟩ = some (.int .i64 (rd ul 2)) from by have h : w3.cell? (ad.add (0 + 2)) = some (.int .i64 (rd ul 2)) := c2; rw [add_field ad 0 2 (by decide), za] at h; exact h)
   have F1 := Aside0.mk f1
   have F2 := Aside0.mk f2
   have F3 := Aside0.mk f3
   have F4 := Aside0.mk f4
   have F5 := Aside0.mk f5
   have i0 : ((0 : Int) < (ul.length : Int)) = True := eq_true (by omega)
   have i1 : ((1 : Int) < (ul.length : Int)) = True := eq_true (by omega)
   have i2 : ((2 : Int) < (ul.length : Int)) = True := eq_true (by omega)
   have j0 : (0 < ul.length) = True := eq_true (by omega)
   have j1 : (1 < ul.length) = True := eq_true (by omega)
   have j2 : (2 < ul.length) = True := eq_true (by omega)
   clear hh f1 f2 f3 f4 f5 h3 c0 c1 c2 hC hcu
   go_upto_region 6 with (first | ((with_reducible refine gate_dst (N := 20) rfl ?_); (with_reducible refine gate_callee (f := 40) rfl ?_); refine goesL_ (some 20) rfl rfl Try.func40 (by kernel_rfl) rfl #[.int .i64 (a1 / 2)] rfl (by (try simp only [List.map_toArray, List.map_cons, List.map_nil]); first | done | rfl) ?_; (refine (trig_Sin.calls (a1 / 2) sn _ F1.out).mono ?_); rintro e w4 ⟨rfl, hb⟩; refine ⟨_, rfl, ?_⟩; have B4 := Aside0.mk (blk_below B4.out hb); have HB := Aside0.mk (below_step HB.out hb); have C0 := Aside0.mk (pw_cell_below hb C0.out); have C1 := Aside0.mk (pw_cell_below hb C1.out); have C2 := Aside0.mk (pw_cell_below hb C2.out); clear hb))
   have B4 := Aside0.mk (blk_drew B4.out)
   have HB := Aside0.mk (below_step HB.out (Below.refl _ _).drew)
   have C0 := Aside0.mk (pw_cell_below (Below.refl _ _).drew C0.out)
   have C1 := Aside0.mk (pw_cell_below (Below.refl _ _).drew C1.out)
   have C2 := Aside0.mk (pw_cell_below (Below.refl _ _).drew C2.out)
   refine start_ (n := 19) (S := fun w' => w'.cell? ad = some (.int .i64 (rd ul 0)) ∧ w'.cell? ⟨ad.block, ad.off + 1, none⟩ = some (.int .i64 (rd ul 1)) ∧ w'.cell? ⟨ad.block, ad.off + 2, none⟩ = some (.int .i64 (rd ul 2))) (ds := [18]) (ab 19 0) (by kernel_rfl) rfl rfl ⟨C0.out, C1.out, C2.out⟩ (fun hHeld => ?_)
   generalize w4.drew = wd6 at B4 HB C0 C1 C2 hHeld ⊢
   refine pure_ (i := 0) (N := some 21) (v := ?_) (a' := ?_) (ab 19 1) rfl rfl (by kernel_rfl) (fun _ _ _ h => h) (Or.inl ⟨by rfl, ?_⟩) ?_ ?_
   rotate_left
   ·intro w'
    go_simp
    with_reducible rfl
   rotate_left
   ·simp only [Act.put, zq1, zq2, zq3, i64_w, i32_w]
    rfl
   refine pure_ (i := 2) (N := some 23) (v := ?_) (a' := ?_) (ab 19 5) rfl rfl (by kernel_rfl) (fun _ _ _ h => h) (Or.inl ⟨by rfl, ?_⟩) ?_ ?_
   rotate_left
   ·intro w'
    go_simp
    with_reducible rfl
   rotate_left
   ·simp only [Act.put, zq1, zq2, zq3, i64_w, i32_w]
    rfl
   refine pure_ (i := 3) (N := some 24) (v := ?_) (a' := ?_) (ab 19 13) rfl rfl (by kernel_rfl) (fun _ _ _ h => h) (Or.inl ⟨by rfl, ?_⟩) ?_ ?_
   rotate_left
   ·intro w'
    go_simp
    with_reducible rfl
   rotate_left
   ·simp only [Act.put, zq1, zq2, zq3, i64_w, i32_w]
    rfl
   refine pure_ (i := 5) (N := some 26) (v := ?_) (a' := ?_) (ab 19 45) rfl rfl (by kernel_rfl) (fun _ _ _ h => h) (Or.inl ⟨by rfl, ?_⟩) ?_ ?_
   rotate_left
   ·intro w'
    go_simp
    with_reducible rfl
   rotate_left
   ·simp only [Act.put, zq1, zq2, zq3, i64_w, i32_w]
    rfl
   refine pure_ (i := 7) (N := some 28) (v := ?_) (a' := ?_) (ab 19 173) rfl rfl (by kernel_rfl) (fun _ _ _ h => h) (Or.inl ⟨by rfl, ?_⟩) ?_ ?_
   rotate_left
   ·intro w'
    go_simp
    with_reducible rfl
   rotate_left
   ·simp only [Act.put, zq1, zq2, zq3, i64_w, i32_w]
    rfl
   refine pure_ (i := 8) (N := some 29) (v := ?_) (a' := ?_) (ab 19 429) rfl rfl (by kernel_rfl) (fun _ _ _ h => h) (Or.inl ⟨by rfl, ?_⟩) ?_ ?_
   rotate_left
   ·intro w'
    go_simp
    with_reducible rfl
   rotate_left
   ·simp only [Act.put, zq1, zq2, zq3, i64_w, i32_w]
    rfl
   refine pure_ (i := 10) (N := some 31) (v := ?_) (a' := ?_) (ab 19 1453) rfl rfl (by kernel_rfl) (fun _ _ _ h => h) (Or.inl ⟨by rfl, ?_⟩) ?_ ?_
   rotate_left
   ·intro w'
    go_simp
    with_reducible rfl
   rotate_left
   ·simp only [Act.put, zq1, zq2, zq3, i64_w, i32_w]
    rfl
   refine pure_ (i := 12) (N := some 33) (v := ?_) (a' := ?_) (ab 19 5549) rfl rfl (by kernel_rfl) (fun _ _ _ h => h) (Or.inl ⟨by rfl, ?_⟩) ?_ ?_
   rotate_left
   ·intro w'
    go_simp
    with_reducible rfl
   rotate_left
   ·simp only [Act.put, zq1, zq2, zq3, i64_w, i32_w]
    rfl
   refine pure_ (i := 13) (N := some 34) (v := ?_) (a' := ?_) (ab 19 13741) rfl rfl (by kernel_rfl) (fun _ _ _ h => h) (Or.inl ⟨by rfl, ?_⟩) ?_ ?_
   rotate_left
   ·intro w'
    go_simp
    with_reducible rfl
   rotate_left
   ·simp only [Act.put, zq1, zq2, zq3, i64_w, i32_w]
    rfl
   refine pure_ (i := 15) (N := some 36) (v := ?_) (a' := ?_) (ab 19 46509) rfl rfl (by kernel_rfl) (fun _ _ _ h => h) (Or.inl ⟨by rfl, ?_⟩) ?_ ?_
   rotate_left
   ·intro w'
    go_simp
    with_reducible rfl
   rotate_left
   ·simp only [Act.put, zq1, zq2, zq3, i64_w, i32_w]
    rfl
   refine take_ (i := 4) (N := some 25) (v := ?_) (a' := ?_) (ab 19 46525) rfl rfl (by kernel_rfl) (fun _ _ _ h => h) (Or.inl ⟨by rfl, ?_⟩) hHeld ?_ ?_
   rotate_left
   ·rintro w' ⟨s0, s1, s2⟩
    go_simp
    with_reducible rfl
   rotate_left
   ·simp only [Act.put, zq1, zq2, zq3, i64_w, i32_w]
    rfl
   refine take_ (i := 9) (N := some 30) (v := ?_) (a' := ?_) (ab 19 47037) rfl rfl (by kernel_rfl) (fun _ _ _ h => h) (Or.inl ⟨by rfl, ?_⟩) hHeld ?_ ?_
   rotate_left
   ·rintro w' ⟨s0, s1, s2⟩
    go_simp
    with_reducible rfl
   rotate_left
   ·simp only [Act.put, zq1, zq2, zq3, i64_w, i32_w]
    rfl
   refine take_ (i := 14) (N := some 35) (v := ?_) (a' := ?_) (ab 19 63421) rfl rfl (by kernel_rfl) (fun _ _ _ h => h) (Or.inl ⟨by rfl, ?_⟩) hHeld ?_ ?_
   rotate_left
   ·rintro w' ⟨s0, s1, s2⟩
    go_simp
    with_reducible rfl
   rotate_left
   ·simp only [Act.put, zq1, zq2, zq3, i64_w, i32_w]
    rfl
   refine one_ (i := 1) (N := some 22) (ab 19 63423) rfl rfl (by kernel_rfl) (by decide) (fun K hK => ?_)
   refine goes_ Try.func41 (by kernel_rfl) rfl #[.int .i64 (a1 / 2)] (by rfl) rfl rfl (by simp only [List.map_toArray, List.map_cons, List.map_nil]; rfl) ?_
   with_reducible refine (trig_Cos.calls (a1 / 2) cs _ F2.out).mono ?_
   rintro e w5 ⟨rfl, hb⟩
   refine ⟨_, rfl, ?_⟩
   have B4 := Aside0.mk (blk_below B4.out hb)
   have HB := Aside0.mk (below_step HB.out hb)
   have C0 := Aside0.mk (pw_cell_below hb C0.out)
   have C1 := Aside0.mk (pw_cell_below hb C1.out)
   have C2 := Aside0.mk (pw_cell_below hb C2.out)
   clear hb
   refine hK.out _ _ ⟨C0.out, C1.out, C2.out⟩ (fun hHeld => ?_)
   clear hK K
   refine norm_ (a' := ?_) ?_ ?_
   rotate_left
   ·show Act.put _ (some 22) _ = _
    simp only [Act.put, zq1, zq2, zq3, i64_w, i32_w]
    rfl
   refine one_ (i := 6) (N := some 27) (ab 19 63487) rfl rfl (by kernel_rfl) (by decide) (fun K hK => ?_)
   refine goes_ Try.func24 (by kernel_rfl) rfl #[.int .i64 (rd ul 0), .int .i64 sn] (by rfl) rfl rfl (by simp only [List.map_toArray, List.map_cons, List.map_nil]; rfl) ?_
   with_reducible refine (fix_Mul.calls k (rd ul 0) sn x _ F3.out).mono ?_
   rintro e w6 ⟨rfl, hb⟩
   refine ⟨_, rfl, ?_⟩
   have B4 := Aside0.mk (blk_below B4.out hb)
   have HB := Aside0.mk (below_step HB.out hb)
   have C0 := Aside0.mk (pw_cell_below hb C0.out)
   have C1 := Aside0.mk (pw_cell_below hb C1.out)
   have C2 := Aside0.mk (pw_cell_below hb C2.out)
   clear hb
   refine hK.out _ _ ⟨C0.out, C1.out, C2.out⟩ (fun hHeld => ?_)
   clear hK K
   refine norm_ (a' := ?_) ?_ ?_
   rotate_left
   ·show Act.put _ (some 27) _ = _
    simp only [Act.put, zq1, zq2, zq3, i64_w, i32_w]
    rfl
   refine one_ (i := 11) (N := some 32) (ab 19 65535) rfl rfl (by kernel_rfl) (by decide) (fun K hK => ?_)
   refine goes_ Try.func24 (by kernel_rfl) rfl #[.int .i64 (rd ul 1), .int .i64 sn] (by rfl) rfl rfl (by simp only [List.map_toArray, List.map_cons, List.map_nil]; rfl) ?_
   with_reducible refine (fix_Mul.calls k (rd ul 1) sn y _ F4.out).mono ?_
   rintro e w7 ⟨rfl, hb⟩
   refine ⟨_, rfl, ?_⟩
   have B4 := Aside0.mk (blk_below B4.out hb)
   have HB := Aside0.mk (below_step HB.out hb)
   have C0 := Aside0.mk (pw_cell_below hb C0.out)
   have C1 := Aside0.mk (pw_cell_below hb C1.out)
   have C2 := Aside0.mk (pw_cell_below hb C2.out)
   clear hb
   refine hK.out _ _ ⟨C0.out, C1.out, C2.out⟩ (fun hHeld => ?_)
   clear hK K
   refine norm_ (a' := ?_) ?_ ?_
   rotate_left
   ·show Act.put _ (some 32) _ = _
    simp only [Act.put, zq1, zq2, zq3, i64_w, i32_w]
    rfl
   refine one_ (i := 16) (N := some 37) (ab 19 131071) rfl rfl (by kernel_rfl) (by decide) (fun K hK => ?_)
   refine goes_ Try.func24 (by kernel_rfl) rfl #[.int .i64 (rd ul 2), .int .i64 sn] (by rfl) rfl rfl (by simp only [List.map_toArray, List.map_cons, List.map_nil]; rfl) ?_
   with_reducible refine (fix_Mul.calls k (rd ul 2) sn z _ F5.out).mono ?_
   rintro e w8 ⟨rfl, hb⟩
   refine ⟨_, rfl, ?_⟩
   have B4 := Aside0.mk (blk_below B4.out hb)
   have HB := Aside0.mk (below_step HB.out hb)
   have C0 := Aside0.mk (pw_cell_below hb C0.out)
   have C1 := Aside0.mk (pw_cell_below hb C1.out)
   have C2 := Aside0.mk (pw_cell_below hb C2.out)
   clear hb
   refine hK.out _ _ ⟨C0.out, C1.out, C2.out⟩ (fun hHeld => ?_)
   clear hK K
   refine norm_ (a' := ?_) ?_ ?_
   rotate_left
   ·show Act.put _ (some 37) _ = _
    simp only [Act.put, zq1, zq2, zq3, i64_w, i32_w]
    rfl
   refine pure_ (i := 17) (N := some 38) (v := ?_) (a' := ?_) (ab 19 262143) rfl rfl (by kernel_rfl) (fun _ _ _ h => h) (Or.inl ⟨by rfl, ?_⟩) ?_ ?_
   rotate_left
   ·intro w'
    go_simp
    with_reducible rfl
   rotate_left
   ·simp only [Act.put, zq1, zq2, zq3, i64_w, i32_w]
    rfl
   refine last_ (i := 18) (N := none) (ab 19 524287) rfl rfl (by kernel_rfl) (by decide) (fun K hK => ?_)
   obtain ⟨⟨ca0, ca1, ca2, ca3⟩, fz⟩ := quat_Of.four B4.out
   have cb0 := fz 0
   have cb1 := fz 1
   have cb2 := fz 2
   have cb3 := fz 3
   refine skip_ (w1 := ?_) (by rfl) rfl ?_ ?_
   rotate_left
   ·go_simp
    rfl
   clear fz ca0 cb0 ca1 cb1 ca2 cb2 ca3 cb3
   refine hK.out _ _ ?_
   clear hK K
   refine done_ (by kernel_rfl) ?_

   go_wp2
   refine bodyPost_ret (results_cell_row rfl _ _ g4 37 #[.int .i64 cs, .int .i64 x, .int .i64 y, .int .i64 z] (0, 0) _ rfl (quat_Of.put4 B4.out _ _ _ _) Try.underlying37 rfl (by kernel_rfl)) rfl ?_
   exact ⟨rfl, below_set (below_set (below_set (below_set HB.out L4.out) L4.out) L4.out) L4.out⟩

/-! ### tourref5_Pose: function 19 -/
def tourref5_Pose.l0 : Nat → List (S37) → Int → Int → List Int → Int → Option ((List (S37)))
 | 0, _, _, _, _, _ => none
 | k + 1, x6, x9, x10, x333000, x333001 => if x10 < x9 then ((tourref5_Source_N.f x333000 x333001 9).bind fun bt333 => ((tourref5_Source_N.f x333000 bt333.2 9).bind fun bt335 => ((tourref5_Source_N.f x333000 bt335.2 4).bind fun bt337 => ((tourref5_Source_N.f x333000 bt337.2 65536).bind fun bt339 => ((quat_Of.f k (wrap64 (bt333.1 - 4)) (wrap64 (bt335.1 - 4)) (wrap64 (1 + bt337.1)) bt339.1).bind fun bt341 => (if x6.length < 4398046511104 then (tourref5_Pose.l0 k (x6 ++ [(⟨bt341.1, bt341.2.1, bt341.2.2.1, bt341.2.2.2⟩ : S37)]) x9 (wrap64 (x10 + 1)) x333000 bt339.2) else (none))))))) else (some x6)
def tourref5_Pose.f (k : Nat) (l0 : List Int) (a1 : Int) : Option ((List (S37))) := (tourref5_From.f l0).bind fun bt330 => (tourref5_Pose.l0 k ([] : List (S37)) a1 0 bt330.1 bt330.2)
theorem tourref5_Pose.mono_l : ∀ k, (∀ y0 y1 y2 y3 y4, LeO (tourref5_Pose.l0 k y0 y1 y2 y3 y4) (tourref5_Pose.l0 (k + 1) y0 y1 y2 y3 y4))
 | 0 => fun _ _ _ _ _ r h => by simp [tourref5_Pose.l0] at h
 | k + 1 => by
  have ih0 := tourref5_Pose.mono_l k
  ·intro y0 y1 y2 y3 y4
   unfold tourref5_Pose.l0
   repeat' first
   | (with_reducible exact ih0 _ _ _ _ _)
   | (with_reducible exact quat_Of.mono _ _ _ _ _)
   | (with_reducible exact LeO.refl _)
   | (with_reducible exact LeO.none _)
   | (with_reducible refine LeO.ite ?_ ?_)
   | (with_reducible refine LeO.bind ?_ (fun _ => ?_))
   | exact ih0 _ _ _ _ _
   | exact quat_Of.mono _ _ _ _ _
   | exact LeO.none _
   | refine LeO.ite ?_ ?_
   | refine LeO.bind ?_ (fun _ => ?_)
theorem tourref5_Pose.mono : ∀ a0 a1 k, LeO (tourref5_Pose.f k a0 a1) (tourref5_Pose.f (k + 1) a0 a1) := by
 intro a0 a1 k
 have ih0 := tourref5_Pose.mono_l k
 unfold tourref5_Pose.f
 repeat' first
   | (with_reducible exact ih0 _ _ _ _ _)
   | (with_reducible exact quat_Of.mono _ _ _ _ _)
   | (with_reducible exact LeO.refl _)
   | (with_reducible exact LeO.none _)
   | (with_reducible refine LeO.ite ?_ ?_)
   | (with_reducible refine LeO.bind ?_ (fun _ => ?_))
   | exact ih0 _ _ _ _ _
   | exact quat_Of.mono _ _ _ _ _
   | exact LeO.none _
   | refine LeO.ite ?_ ?_
   | refine LeO.bind ?_ (fun _ => ?_)
set_option maxHeartbeats 8000000 in
set_option maxRecDepth 100000 in
theorem tourref5_Pose.calls (k : Nat) (A0 : Option Addr) (c0 : Nat) (l0 : List Int) (a1 : Int) (r : List (S37)) (w : World) (hr0 : Kd.C (Kd.int .i64) w A0 l0.length l0) (hc0 : l0.length ≤ c0) (h : tourref5_Pose.f k l0 a1 = some r) :
  Calls Try.prog 19 #[.slice A0 l0.length c0, .int .i64 a1] w fun e w' => ∃ v0_ : Value, e = .returned (v0_) ∧ Kd.R k37 37 w' w.heap.size (fun _ => True) v0_ r ∧ Below w.heap.size w w' := by
 have hu33 := Try.underlying33
 have HR0 := Aside0.mk hr0
 have HC0 := Aside0.mk hc0
 clear hr0 hc0
 have HB := Aside0.mk (Below.refl w.heap.size w)
 have H : ((tourref5_From.f l0).bind fun bt330 => (tourref5_Pose.l0 k ([] : List (S37)) a1 0 bt330.1 bt330.2)) = some r := h
 clear h
 replace H := Option.bind_eq_some_iff.mp H
 obtain ⟨⟨t330, t331⟩, A30, H⟩ := H
 replace H : (tourref5_Pose.l0 k ([] : List (S37)) a1 0 t330 t331) = some r := H
 have A3 := Aside0.mk A30
 clear A30
 have H' := Aside0.mk H
 clear H
 go_enter Try.func19, Try.ntmps19
 go_wp2_with (first | ((with_reducible refine gate_callee (f := 25) rfl ?_); refine goesL_ (some 8) rfl rfl Try.func25 (by kernel_rfl) rfl #[.slice A0 l0.length c0] rfl (by (try simp only [zm1, zm2, zm3]); first | done | rfl) ?_; (with_reducible refine (tourref5_From.calls _ _ l0 t330 t331 w _ ?side1 ?side2 ?side3 A3.out).mono ?_); (case side1 => repeat (first | (with_reducible first | exact HB.out | apply below_alloc | apply pw_below_drewN | apply below_drew1) | exact HB.out)); (case side2 => exact HR0.out); (case side3 => exact HC0.out); rintro e w4 ⟨g332, rfl, hi, hb, hb2⟩; refine ⟨_, rfl, ?_⟩; have n0_ := Aside0.mk (hb); have n1_ := Aside0.mk (hi); clear HB; have HB := n0_; have HI332 := n1_; clear n0_ n1_; (try clear hb); (try clear hb2); (try clear hk); (try clear hi)))
 go_loopg [6, 10] k (fun kq v6 v10 w' => ∃ (x6_1 : List (S37)) (x10_1 : Int) (x333001_1 : Int), v10 = .int .i64 x10_1 ∧ Aside0 (tourref5_Pose.l0 kq x6_1 a1 x10_1 t330 x333001_1 = some r) ∧ Aside0 (kq ≤ k) ∧ Aside0 (Kd.R k37 37 w' w.heap.size (fun _ => True) v6 x6_1) ∧ Aside0 (IsS80 w w' g332 t330 x333001_1) ∧ Aside0 (Below w.heap.size w w'))
 case atStart => exact ⟨(([] : List (S37))), (0), (t331), (by first | rfl | (simp; done) | (simp [*]; done)), H', ⟨Nat.le_refl _⟩, ⟨by first | exact Kd.R_nil _ _ _ _ _ | exact Kd.N_nil _ _ _ _ _ | exact Kd.V_nil _ _ _ _ _ | exact Kd.Q_nil _ _ _ _ _ | exact Kd.S_nil _ _ _ _ _⟩, ⟨by repeat (first | (with_reducible first | exact HI332.out | apply IsS80.alloc | apply IsS80.drewN | apply IsS80.drew | apply IsS80.set_1) | exact HI332.out)⟩, ⟨by repeat (first | (with_reducible first | exact HB.out | apply below_alloc | apply pw_below_drewN | apply below_drew1 | refine below_set ?_ (IsS80.ge HI332.out)) | exact HB.out)⟩⟩
 case round =>
  clear H'
  try clear c1; try clear c2; try clear p2
  obtain ⟨x6_1, x10_1, x333001_1, rfl, HA, HK1, HO_6, HI332, HB⟩ := hrel
  cases gk with
  | zero => exact absurd HA.out (by simp [tourref5_Pose.l0])
  | succ k1 =>
   have H := HA.out
   clear HA
   simp only [tourref5_Pose.l0] at H
   by_cases c5 : x10_1 < a1
   ·rw [if_pos c5] at H
    have c5b0 : decide (x10_1 < a1) = true := decide_eq_true c5
    clear c5
    replace H := Option.bind_eq_some_iff.mp H
    obtain ⟨⟨t333, t334⟩, A60, H⟩ := H
    replace H : ((tourref5_Source_N.f t330 t334 9).bind fun bt335 => ((tourref5_Source_N.f t330 bt335.2 4).bind fun bt337 => ((tourref5_Source_N.f t330 bt337.2 65536).bind fun bt339 => ((quat_Of.f k1 (wrap64 (t333 - 4)) (wrap64 (bt335.1 - 4)) (wrap64 (1 + bt337.1)) bt339.1).bind fun bt341 => (if x6_1.length < 4398046511104 then (tourref5_Pose.l0 k1 (x6_1 ++ [(⟨bt341.1, bt341.2.1, bt341.2.2.1, bt341.2.2.2⟩ : S37)]) a1 (wrap64 (x10_1 + 1)) t330 bt339.2) else (none)))))) = some r := H
    have A6 := Aside0.mk A60
    clear A60
    replace H := Option.bind_eq_some_iff.mp H
    obtain ⟨⟨t335, t336⟩, A70, H⟩ := H
    replace H : ((tourref5_Source_N.f t330 t336 4).bind fun bt337 => ((tourref5_Source_N.f t330 bt337.2 65536).bind fun bt339 => ((quat_Of.f k1 (wrap64 (t333 - 4)) (wrap64 (t335 - 4)) (wrap64 (1 + bt337.1)) bt339.1).bind fun bt341 => (if x6_1.length < 4398046511104 then (tourref5_Pose.l0 k1 (x6_1 ++ [(⟨bt341.1, bt341.2.1, bt341.2.2.1, bt341.2.2.2⟩ : S37)]) a1 (wrap64 (x10_1 + 1)) t330 bt339.2) else (none))))) = some r := H
    have A7 := Aside0.mk A70
    clear A70
    replace H := Option.bind_eq_some_iff.mp H
    obtain ⟨⟨t337, t338⟩, A80, H⟩ := H
    replace H : ((tourref5_Source_N.f t330 t338 65536).bind fun bt339 => ((quat_Of.f k1 (wrap64 (t333 - 4)) (wrap64 (t335 - 4)) (wrap64 (1 + t337)) bt339.1).bind fun bt341 => (if x6_1.length < 4398046511104 then (tourref5_Pose.l0 k1 (x6_1 ++ [(⟨bt341.1, bt341.2.1, bt341.2.2.1, bt341.2.2.2⟩ : S37)]) a1 (wrap64 (x10_1 + 1)) t330 bt339.2) else (none)))) = some r := H
    have A8 := Aside0.mk A80
    clear A80
    replace H := Option.bind_eq_some_iff.mp H
    obtain ⟨⟨t339, t340⟩, A90, H⟩ := H
    replace H : ((quat_Of.f k1 (wrap64 (t333 - 4)) (wrap64 (t335 - 4)) (wrap64 (1 + t337)) t339).bind fun bt341 => (if x6_1.length < 4398046511104 then (tourref5_Pose.l0 k1 (x6_1 ++ [(⟨bt341.1, bt341.2.1, bt341.2.2.1, bt341.2.2.2⟩ : S37)]) a1 (wrap64 (x10_1 + 1)) t330 t340) else (none))) = some r := H
    have A9 := Aside0.mk A90
    clear A90
    replace H := Option.bind_eq_some_iff.mp H
    obtain ⟨⟨t341, t342, t343, t344⟩, A100, H⟩ := H
    replace H : (if x6_1.length < 4398046511104 then (tourref5_Pose.l0 k1 (x6_1 ++ [(⟨t341, t342, t343, t344⟩ : S37)]) a1 (wrap64 (x10_1 + 1)) t330 t340) else (none)) = some r := H
    have A10 := Aside0.mk A100
    clear A100
    by_cases c11 : x6_1.length < 4398046511104
    ·rw [if_pos c11] at H
     have LMc11 := Aside0.mk c11
     clear c11
     obtain ⟨y345, hy345⟩ : ∃ y_ : List (S37), y_ = (x6_1 ++ [(⟨t341, t342, t343, t344⟩ : S37)]) := ⟨_, rfl⟩
     replace H : (tourref5_Pose.l0 k1 y345 a1 (wrap64 (x10_1 + 1)) t330 t340) = some r := by first | (rw [hy345]; with_reducible exact H) | (have H2_ := (Option.bind_some _ _).symm.trans H; rw [hy345]; with_reducible exact H2_) | (have H2_ := (Option.bind_some _ _).symm.trans H; with_reducible exact H2_) | with_reducible exact H | (rw [hy345]; exact H) | exact H
     have Ny345 := Aside0.mk hy345
     clear hy345
     have H' := Aside0.mk H
     clear H
     go_wp2_with (first | ((with_reducible refine gate_callee (f := 26) rfl ?_); refine goesL_ (some 14) rfl rfl Try.func26 (by kernel_rfl) rfl #[.pointer (some ⟨g332, 0, none⟩), .int .i64 9] rfl (by (try simp only [zm1, zm2, zm3]); first | done | rfl) ?_; (with_reducible refine (tourref5_Source_N.calls g332 t330 x333001_1 9 t333 t334 w _ ?side1 ?side2 A6.out).mono ?_); (case side1 => repeat (first | (with_reducible first | exact HI332.out | apply IsS80.alloc | apply IsS80.drewN | apply IsS80.drew | apply IsS80.set_1) | exact HI332.out)); (case side2 => repeat (first | (with_reducible first | exact HB.out | apply below_alloc | apply pw_below_drewN | apply below_drew1 | refine below_set ?_ (IsS80.ge HI332.out)) | exact HB.out)); rintro e w12 ⟨rfl, hi, hb, hk⟩; refine ⟨_, rfl, ?_⟩; have n0_ := Aside0.mk (Kd.R_mono (Kd.R_keep (IsS80.apart (show IsS80 w _ g332 t330 x333001_1 from by repeat (first | (with_reducible first | exact HI332.out | apply IsS80.alloc | apply IsS80.drewN | apply IsS80.drew | apply IsS80.set_1) | exact HI332.out)) (by (with_reducible repeat (first | apply Kd.R_alloc | apply Kd.R_drewN | apply Kd.R_drew)); exact HO_6.out) (by decide)) hk (fun _ h => h.2)) (fun _ h => h.1)); have n1_ := Aside0.mk (hb); have n2_ := Aside0.mk (hi); clear HO_6; clear HB; clear HI332; have HO_6 := n0_; have HB := n1_; have HI332 := n2_; clear n0_ n1_ n2_; (try clear hb); (try clear hb2); (try clear hk); (try clear hi)) | ((with_reducible refine gate_callee (f := 26) rfl ?_); refine goesL_ (some 17) rfl rfl Try.func26 (by kernel_rfl) rfl #[.pointer (some ⟨g332, 0, none⟩), .int .i64 9] rfl (by (try simp only [zm1, zm2, zm3]); first | done | rfl) ?_; (with_reducible refine (tourref5_Source_N.calls g332 t330 t334 9 t335 t336 w _ ?side1 ?side2 A7.out).mono ?_); (case side1 => repeat (first | (with_reducible first | exact HI332.out | apply IsS80.alloc | apply IsS80.drewN | apply IsS80.drew | apply IsS80.set_1) | exact HI332.out)); (case side2 => repeat (first | (with_reducible first | exact HB.out | apply below_alloc | apply pw_below_drewN | apply below_drew1 | refine below_set ?_ (IsS80.ge HI332.out)) | exact HB.out)); rintro e w13 ⟨rfl, hi, hb, hk⟩; refine ⟨_, rfl, ?_⟩; have n0_ := Aside0.mk (Kd.R_mono (Kd.R_keep (IsS80.apart (show IsS80 w _ g332 t330 t334 from by repeat (first | (with_reducible first | exact HI332.out | apply IsS80.alloc | apply IsS80.drewN | apply IsS80.drew | apply IsS80.set_1) | exact HI332.out)) (by (with_reducible repeat (first | apply Kd.R_alloc | apply Kd.R_drewN | apply Kd.R_drew)); exact HO_6.out) (by decide)) hk (fun _ h => h.2)) (fun _ h => h.1)); have n1_ := Aside0.mk (hb); have n2_ := Aside0.mk (hi); clear HO_6; clear HB; clear HI332; have HO_6 := n0_; have HB := n1_; have HI332 := n2_; clear n0_ n1_ n2_; (try clear hb); (try clear hb2); (try clear hk); (try clear hi)) | ((with_reducible refine gate_callee (f := 26) rfl ?_); refine goesL_ (some 20) rfl rfl Try.func26 (by kernel_rfl) rfl #[.pointer (some ⟨g332, 0, none⟩), .int .i64 4] rfl (by (try simp only [zm1, zm2, zm3]); first | done | rfl) ?_; (with_reducible refine (tourref5_Source_N.calls g332 t330 t336 4 t337 t338 w _ ?side1 ?side2 A8.out).mono ?_); (case side1 => repeat (first | (with_reducible first | exact HI332.out | apply IsS80.alloc | apply IsS80.drewN | apply IsS80.drew | apply IsS80.set_1) | exact HI332.out)); (case side2 => repeat (first | (with_reducible first | exact HB.out | apply below_alloc | apply pw_below_drewN | apply below_drew1 | refine below_set ?_ (IsS80.ge HI332.out)) | exact HB.out)); rintro e w14 ⟨rfl, hi, hb, hk⟩; refine ⟨_, rfl, ?_⟩; have n0_ := Aside0.mk (Kd.R_mono (Kd.R_keep (IsS80.apart (show IsS80 w _ g332 t330 t336 from by repeat (first | (with_reducible first | exact HI332.out | apply IsS80.alloc | apply IsS80.drewN | apply IsS80.drew | apply IsS80.set_1) | exact HI332.out)) (by (with_reducible repeat (first | apply Kd.R_alloc | apply Kd.R_drewN | apply Kd.R_drew)); exact HO_6.out) (by decide)) hk (fun _ h => h.2)) (fun _ h => h.1)); have n1_ := Aside0.mk (hb); have n2_ := Aside0.mk (hi); clear HO_6; clear HB; clear HI332; have HO_6 := n0_; have HB := n1_; have HI332 := n2_; clear n0_ n1_ n2_; (try clear hb); (try clear hb2); (try clear hk); (try clear hi)) | ((with_reducible refine gate_callee (f := 26) rfl ?_); refine goesL_ (some 24) rfl rfl Try.func26 (by kernel_rfl) rfl #[.pointer (some ⟨g332, 0, none⟩), .int .i64 65536] rfl (by (try simp only [zm1, zm2, zm3]); first | done | rfl) ?_; (with_reducible refine (tourref5_Source_N.calls g332 t330 t338 65536 t339 t340 w _ ?side1 ?side2 A9.out).mono ?_); (case side1 => repeat (first | (with_reducible first | exact HI332.out | apply IsS80.alloc | apply IsS80.drewN | apply IsS80.drew | apply IsS80.set_1) | exact HI332.out)); (case side2 => repeat (first | (with_reducible first | exact HB.out | apply below_alloc | apply pw_below_drewN | apply below_drew1 | refine below_set ?_ (IsS80.ge HI332.out)) | exact HB.out)); rintro e w15 ⟨rfl, hi, hb, hk⟩; refine ⟨_, rfl, ?_⟩; have n0_ := Aside0.mk (Kd.R_mono (Kd.R_keep (IsS80.apart (show IsS80 w _ g332 t330 t338 from by repeat (first | (with_reducible first | exact HI332.out | apply IsS80.alloc | apply IsS80.drewN | apply IsS80.drew | apply IsS80.set_1) | exact HI332.out)) (by (with_reducible repeat (first | apply Kd.R_alloc | apply Kd.R_drewN | apply Kd.R_drew)); exact HO_6.out) (by decide)) hk (fun _ h => h.2)) (fun _ h => h.1)); have n1_ := Aside0.mk (hb); have n2_ := Aside0.mk (hi); clear HO_6; clear HB; clear HI332; have HO_6 := n0_; have HB := n1_; have HI332 := n2_; clear n0_ n1_ n2_; (try clear hb); (try clear hb2); (try clear hk); (try clear hi)) | ((with_reducible refine gate_callee (f := 35) rfl ?_); refine goesL_ (some 25) rfl rfl Try.func35 (by kernel_rfl) rfl #[.agg #[.int .i64 (wrap64 (t333 - 4)), .int .i64 (wrap64 (t335 - 4)), .int .i64 (wrap64 (1 + t337))], .int .i64 t339] rfl (by (try simp only [List.map_toArray, List.map_cons, List.map_nil]); first | done | rfl | (simp only [List.length_drop, List.length_take]; rfl) | (rw [show wrap64 (t333 - 4) = t333 - 4 from by unfold wrap64; omega]; rw [show wrap64 (t335 - 4) = t335 - 4 from by unfold wrap64; omega]; rw [show wrap64 (1 + t337) = 1 + t337 from by unfold wrap64; omega]; rfl)) ?_; (with_reducible refine (quat_Of.calls k1 (wrap64 (t333 - 4)) (wrap64 (t335 - 4)) (wrap64 (1 + t337)) t339 t341 t342 t343 t344 _ A10.out).mono ?_); rintro e w16 ⟨rfl, hb⟩; refine ⟨_, rfl, ?_⟩; have n0_ := Aside0.mk (Kd.R_below (by (with_reducible repeat (first | apply Kd.R_alloc | apply Kd.R_drewN | apply Kd.R_drew)); exact HO_6.out) hb); have n1_ := Aside0.mk (IsS80.below (by repeat (first | (with_reducible first | exact HI332.out | apply IsS80.alloc | apply IsS80.drewN | apply IsS80.drew | apply IsS80.set_1) | exact HI332.out)) hb); have n2_ := Aside0.mk (below_step (by repeat (first | (with_reducible first | exact HB.out | apply below_alloc | apply pw_below_drewN | apply below_drew1 | refine below_set ?_ (IsS80.ge HI332.out)) | exact HB.out)) hb); clear HO_6; clear HI332; clear HB; have HO_6 := n0_; have HI332 := n1_; have HB := n2_; clear n0_ n1_ n2_; (try clear hb); (try clear hb2); (try clear hk); (try clear hi)) | ((with_reducible refine gate_builtin (b := .append) (xs := #[.tmp 12, .tmp 26]) rfl ?_); at_builtin; refine Kd.R_append k37 (w0 := w) w.heap.size rfl (.tmp 12) (.tmp 26) 30 37 (.agg #[(.int .i64 0), (.int .i64 0), (.int .i64 0), (.int .i64 0)]) 32 rfl Try.underlying30 info37 rfl (by decide) (by omega) u6 x6_1 (⟨t341, t342, t343, t344⟩ : S37) [.int .i64 t341, .int .i64 t342, .int .i64 t343, .int .i64 t344] (fun _ => True) (fun _ => False) rfl rfl ?aP (fun _ hk => hk.elim) ?aF ?aO ?aB ?aS ?aL ?_; (case aP => exact k37_mkM _ _ _ (⟨t341, t342, t343, t344⟩ : S37)); (case aB => exact (by repeat (first | (with_reducible first | exact HB.out | apply below_alloc | apply pw_below_drewN | apply below_drew1 | refine below_set ?_ (IsS80.ge HI332.out)) | exact HB.out))); (case aF => exact (fun _ _ => trivial)); (case aO => exact (by (with_reducible repeat (first | apply Kd.R_alloc | apply Kd.R_drewN | apply Kd.R_drew)); exact HO_6.out)); (case aS => exact (below_size (by repeat (first | (with_reducible first | exact HB.out | apply below_alloc | apply pw_below_drewN | apply below_drew1 | refine below_set ?_ (IsS80.ge HI332.out)) | exact HB.out)))); (case aL => have := LMc11.out; omega); intro v346 w17 ho hb hg hat; rw [← Ny345.out] at ho; have n0_ := Aside0.mk (IsS80.grown (by repeat (first | (with_reducible first | exact HI332.out | apply IsS80.alloc | apply IsS80.drewN | apply IsS80.drew | apply IsS80.set_1) | exact HI332.out)) hg (IsS80.own_ne HI332.out HO_6.out (by decide))); have n1_ := Aside0.mk (hb); have n2_ := Aside0.mk (ho); clear HI332; clear HB; clear HO_6; have HI332 := n0_; have HB := n1_; have HO347 := n2_; clear n0_ n1_ n2_; clear ho hb hg hat))
     go_roundg k1
     case measure => have := HK1.out; omega
     case rel => exact ⟨(y345), (wrap64 (x10_1 + 1)), (t340), (by first | rfl | (simp; done) | (simp [*]; done)), H', ⟨by have := HK1.out; omega⟩, ⟨by (with_reducible repeat (first | apply Kd.R_alloc | apply Kd.R_drewN | apply Kd.R_drew)); exact HO347.out⟩, ⟨by repeat (first | (with_reducible first | exact HI332.out | apply IsS80.alloc | apply IsS80.drewN | apply IsS80.drew | apply IsS80.set_1) | exact HI332.out)⟩, ⟨by repeat (first | (with_reducible first | exact HB.out | apply below_alloc | apply pw_below_drewN | apply below_drew1 | refine below_set ?_ (IsS80.ge HI332.out)) | exact HB.out)⟩⟩
    ·rw [if_neg c11] at H
     exact absurd H (by simp)
   ·rw [if_neg c5] at H
    have c5b0 : decide (x10_1 < a1) = false := decide_eq_false c5
    clear c5
    obtain rfl := Option.some.inj H
    go_wp2
    go_ret
    exact ⟨_, by first | rfl | (simp [errW_none, errW_some] <;> rfl) | (simp [*, errW_none, errW_some] <;> rfl), by (with_reducible repeat (first | apply Kd.R_alloc | apply Kd.R_drewN | apply Kd.R_drew)); exact HO_6.out, by repeat (first | (with_reducible first | exact HB.out | apply below_alloc | apply pw_below_drewN | apply below_drew1 | refine below_set ?_ (IsS80.ge HI332.out)) | exact HB.out)⟩

end Go.Proofs.Ytfallkiaojefnaa.PBonesBlend
