/- math/bits.Add64 as the walk wants it. Under the condition that the carry is no more than 1. -/
import Derived.Test.YtfallkiaojefnaaProg
import Derived.WalkKit
import Derived.KernelRfl
import Derived.Laws.Externs
namespace Go.Proofs.Ytfallkiaojefnaa.Ext
def add64lo (x y c : Int) : Int := (((x.toNat + y.toNat + c.toNat) % 18446744073709551616 : Nat) : Int)
def add64hi (x y c : Int) : Int := (((x.toNat + y.toNat + c.toNat) / 18446744073709551616 : Nat) : Int)

theorem add64_entry (P : Program) (x y c : Int) (hc : c ≤ 1) (w : World) : (add64Entry #[.int .u64 x, .int .u64 y, .int .u64 c]).run P w = .ok (.tuple #[.int .u64 (add64lo x y c), .int .u64 (add64hi x y c)]) w := by
  match c, hc with
  | .negSucc n, _ => rfl
  | .ofNat 0, _ => rfl
  | .ofNat 1, _ => rfl
  | .ofNat (n + 2), h => exact absurd h (by simp only [Int.ofNat_eq_natCast]; omega)

@[go_sem] theorem add64 (x y c : Int) (hc : c ≤ 1) (w : World) :
    (callFunc 43 #[.int .u64 x, .int .u64 y, .int .u64 c]).run Try.prog w = .ok (.value (.tuple #[.int .u64 (add64lo x y c), .int .u64 (add64hi x y c)])) w := by
  rw [run_callFunc_extern Try.func43 (by kernel_rfl) (by kernel_rfl) (by kernel_rfl) (e := add64Entry) (by kernel_rfl), add64_entry _ x y c hc]
  rfl
end Go.Proofs.Ytfallkiaojefnaa.Ext
