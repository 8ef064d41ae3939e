/- '==' of arrays of two and three elements, element by element. Under no condition. -/
import Derived.Test.YtfallkiaojefnaaProg
import Derived.WalkKit
import Derived.Laws.StructEq
import Derived.Laws.Entries
namespace Go.Proofs.Ytfallkiaojefnaa.Ary
open Go Go.Op
set_option linter.unusedSimpArgs false
theorem equalIn_array2 {P : Program} {w : World} {d t e n : Nat} {xs ys : Array Value} {a0 a1 b0 b1 : Value} {r0 r1 : Bool} (hu : P.underlying t = some (.array 2 e)) (hn : (sizeOf e).run P w = .ok n w)
  (h0 : (part e xs 0).run P w = .ok a0 w) (k0 : (part e ys 0).run P w = .ok b0 w) (e0 : (Op.equalIn d e a0 b0).run P w = .ok r0 w)
  (h1 : (part e xs n).run P w = .ok a1 w) (k1 : (part e ys n).run P w = .ok b1 w) (e1 : (Op.equalIn d e a1 b1).run P w = .ok r1 w) :
    (Op.equalIn (d + 1) t (.agg xs) (.agg ys)).run P w = .ok (r0 && r1) w := by
  simp only [Op.equalIn, Sem.run_bind, run_underlying hu, Result.andThen_ok, hn]
  rw [Std.Legacy.Range.forIn_eq_forIn_range']
  simp only [show List.range' 0 (Std.Legacy.Range.size [0:2]) 1 = [0, 1] from rfl, List.forIn_cons, List.forIn_nil, Sem.run_bind, Nat.zero_mul, Nat.one_mul, h0, k0, e0, Result.andThen_ok]
  cases r0
  · simp
  · cases r1 <;> simp [h1, k1, e1]
theorem equalIn_array3 {P : Program} {w : World} {d t e n : Nat} {xs ys : Array Value} {a0 a1 a2 b0 b1 b2 : Value} {r0 r1 r2 : Bool} (hu : P.underlying t = some (.array 3 e)) (hn : (sizeOf e).run P w = .ok n w)
  (h0 : (part e xs 0).run P w = .ok a0 w) (k0 : (part e ys 0).run P w = .ok b0 w) (e0 : (Op.equalIn d e a0 b0).run P w = .ok r0 w)
  (h1 : (part e xs n).run P w = .ok a1 w) (k1 : (part e ys n).run P w = .ok b1 w) (e1 : (Op.equalIn d e a1 b1).run P w = .ok r1 w)
  (h2 : (part e xs (2 * n)).run P w = .ok a2 w) (k2 : (part e ys (2 * n)).run P w = .ok b2 w) (e2 : (Op.equalIn d e a2 b2).run P w = .ok r2 w) :
    (Op.equalIn (d + 1) t (.agg xs) (.agg ys)).run P w = .ok (r0 && (r1 && r2)) w := by
  simp only [Op.equalIn, Sem.run_bind, run_underlying hu, Result.andThen_ok, hn]
  rw [Std.Legacy.Range.forIn_eq_forIn_range']
  simp only [show List.range' 0 (Std.Legacy.Range.size [0:3]) 1 = [0, 1, 2] from rfl, List.forIn_cons, List.forIn_nil, Sem.run_bind, Nat.zero_mul, Nat.one_mul, h0, k0, e0, Result.andThen_ok]
  cases r0
  · simp
  · cases r1
    · simp [h1, k1, e1]
    · cases r2 <;> simp [h1, k1, e1, h2, k2, e2]
/-- An element of an array that is a value. -/
@[go_sem] theorem run_index_array {P : Program} {w : World} (t : TypeId) (cs : Array Value) (k : IntKind) (i : Int) (h : P.underlying t = some (.array (P.arrayLen t) (P.elem t))) :
    (Instr.index t (.agg cs) (.int k i)).run P w = if 0 ≤ i ∧ i < P.arrayLen t then ((sizeOf (P.elem t)).run P w).andThen fun s w => (part (P.elem t) cs (i.toNat * s)).run P w else (boundsPanic k i (P.arrayLen t) .index).run P w := by
  simp only [Instr.index, run_underlying h, Sem.run_bind, asIntOf, Sem.run_pure, Result.andThen_ok]
  split
  · simp only [Sem.run_bind]
  · rfl
end Go.Proofs.Ytfallkiaojefnaa.Ary
