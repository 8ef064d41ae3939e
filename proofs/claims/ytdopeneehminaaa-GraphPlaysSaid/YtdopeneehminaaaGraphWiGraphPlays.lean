/- Where a thing within another lies: no way without an answer. -/
import Derived.Test.YtdopeneehminaaaGraphAddGraphPlays
import Derived.Test.YtdopeneehminaaaNumGraphPlays
import Derived.Laws.BitsLemmas
namespace Go.Proofs.Ytdopeneehminaaa.GraphWiGraphPlays
open Go Go.RowKit Go.Proofs.YtdopeneehminaaaW.PrintWords Go.Proofs.YtdopeneehminaaaW.PrintLast Go.Proofs.YtdopeneehminaaaW.PrintMore Go.Proofs.Ytdopeneehminaaa.Fnv Go.Proofs.Ytdopeneehminaaa.PGraphPlays Go.Proofs.Ytdopeneehminaaa.GraphMemGraphPlays Go.Proofs.Ytdopeneehminaaa.GraphAtGraphPlays Go.Proofs.Ytdopeneehminaaa.GraphSetGraphPlays Go.Proofs.Ytdopeneehminaaa.NumGraphPlays
set_option linter.unusedVariables false
theorem and_turn (a : Int) : Go.bits .and .i64 a 65535 = a % 65536 := by
  have h : (BitVec.ofInt 64 a &&& BitVec.ofInt 64 65535).toNat = (a % 18446744073709551616).toNat % 65536 := by
    rw [BitVec.toNat_and, BitVec.toNat_ofInt, BitVec.toNat_ofInt, show ((65535 : Int) % ((2 ^ 64 : Nat) : Int)).toNat = 2 ^ 16 - 1 from by decide, Nat.and_two_pow_sub_one_eq_mod]
    rfl
  show IntKind.i64.wrap ((BitVec.ofInt 64 a &&& BitVec.ofInt 64 65535).toNat : Int) = _
  rw [IntKind.wrap_i64]
  have : ((BitVec.ofInt 64 a &&& BitVec.ofInt 64 65535).toNat : Int) = a % 65536 := by rw [h]; omega
  omega
theorem first_ex (a : Int) (h0 : 0 ≤ a) (h1 : a ≤ 16384) : ∃ r, trig_first.f a = some r := by
  unfold trig_first.f
  rw [if_pos ⟨h0, h1⟩]
  split <;> exact ⟨_, rfl⟩
theorem sin_ex (a : Int) : ∃ r, trig_Sin.f a = some r := by
  have hb := and_turn a
  generalize Go.bits .and .i64 a 65535 = b at hb
  unfold trig_Sin.f
  rw [and_turn, ← hb]
  have ht : Int.tmod b 16384 = b % 16384 := Int.tmod_eq_emod_of_nonneg (by omega)
  obtain ⟨r1, e1⟩ := first_ex (Int.tmod b 16384) (by omega) (by omega)
  obtain ⟨r2, e2⟩ := first_ex (wrap64 (16384 - Int.tmod b 16384)) (by unfold wrap64; omega) (by unfold wrap64; omega)
  rw [e1, e2]
  split
  · exact ⟨_, rfl⟩
  · split
    · exact ⟨_, rfl⟩
    · split <;> exact ⟨_, rfl⟩
noncomputable def sinV (a : Int) : Int := (trig_Sin.f a).getD 0
theorem sin_eq (a : Int) : trig_Sin.f a = some (sinV a) := by
  obtain ⟨r, h⟩ := sin_ex a
  unfold sinV; rw [h]; rfl
noncomputable def cosV (a : Int) : Int := sinV (wrap64 (Go.bits .and .i64 a 65535 + 16384))
theorem cos_eq (a : Int) : trig_Cos.f a = some (cosV a) := by
  unfold trig_Cos.f; rw [sin_eq]; rfl
theorem sin_zero : sinV 0 = 0 := by unfold sinV; have : trig_Sin.f 0 = some 0 := by decide +kernel
                                    rw [this]; rfl
theorem cos_zero : cosV 0 = 65536 := by
  unfold cosV; rw [and_turn]
  unfold sinV; have : trig_Sin.f (wrap64 (0 % 65536 + 16384)) = some 65536 := by decide +kernel
  rw [this]; rfl
noncomputable def turnV (x y a : Int) : Int × Int := (subV (mulV x (cosV a)) (mulV y (sinV a)), addV (mulV x (sinV a)) (mulV y (cosV a)))
theorem turn_ev (x y a : Int) : Ev (fun k => vec_Turn.f k x y a) (turnV x y a) := by
  obtain ⟨k1, h1⟩ := mul_ev x (cosV a)
  obtain ⟨k2, h2⟩ := mul_ev y (sinV a)
  obtain ⟨k3, h3⟩ := mul_ev x (sinV a)
  obtain ⟨k4, h4⟩ := mul_ev y (cosV a)
  refine ⟨k1 + k2 + k3 + k4, fun k hk => ?_⟩
  show vec_Turn.f k x y a = _
  unfold vec_Turn.f
  rw [cos_eq, Option.bind_some, sin_eq, Option.bind_some, show fix_Mul.f k x (cosV a) = _ from h1 k (by omega), Option.bind_some, show fix_Mul.f k y (sinV a) = _ from h2 k (by omega), Option.bind_some, sub_eq, Option.bind_some, show fix_Mul.f k x (sinV a) = _ from h3 k (by omega), Option.bind_some, show fix_Mul.f k y (cosV a) = _ from h4 k (by omega), Option.bind_some, add_eq, Option.bind_some]
  rfl
/-- A thing's place within another's. -/
noncomputable def wiV (q p : Pl) : Pl :=
  ⟨addV q.x (turnV (mulV p.x q.s) (mulV p.y q.s) q.a).1, addV q.y (turnV (mulV p.x q.s) (mulV p.y q.s) q.a).2, Go.bits .and .i64 (wrap64 (q.a + p.a)) 65535, mulV q.s p.s⟩
theorem wi_ev (q p : Pl) : Ev (fun k => wiF k q p) (wiV q p) := by
  obtain ⟨k1, h1⟩ := scale_ev p.x p.y q.s
  obtain ⟨k2, h2⟩ := turn_ev (mulV p.x q.s) (mulV p.y q.s) q.a
  obtain ⟨k3, h3⟩ := mul_ev q.s p.s
  refine ⟨k1 + k2 + k3, fun k hk => ?_⟩
  show wiF k q p = _
  unfold wiF graph_Within.f
  rw [show vec_Scale.f k p.x p.y q.s = _ from h1 k (by omega), Option.bind_some, show vec_Turn.f k (mulV p.x q.s) (mulV p.y q.s) q.a = _ from h2 k (by omega), Option.bind_some, vadd_eq, Option.bind_some, show fix_Mul.f k q.s p.s = _ from h3 k (by omega), Option.bind_some]
  rfl
end Go.Proofs.Ytdopeneehminaaa.GraphWiGraphPlays
