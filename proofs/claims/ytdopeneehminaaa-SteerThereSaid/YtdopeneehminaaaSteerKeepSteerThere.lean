/- The makers of movers of the laws, over what the print wrote of a law. Under no condition but what stands at each. -/
import Derived.Test.YtdopeneehminaaaSteerApartSteerThere
namespace Go.Proofs.Ytdopeneehminaaa.SteerKeepSteerThere
open Go.RowKit Go.Proofs.YtdopeneehminaaaW.PrintWords Go.Proofs.YtdopeneehminaaaW.PrintLast Go.Proofs.YtdopeneehminaaaW.PrintMore Go.Proofs.Ytdopeneehminaaa.PSteerThere Go.Proofs.Ytdopeneehminaaa.NumSteerThere Go.Proofs.Ytdopeneehminaaa.SteerSteerThere Go.Proofs.Ytdopeneehminaaa.SteerApartSteerThere
set_option linter.unusedVariables false

theorem below_eq (x n : Int) (hn : 0 < n) (hn1 : n ≤ 4611686018427387904) : tourref5_Below.f x n = some (x % n) := by
  have h0 := Int.emod_nonneg x (by omega : n ≠ 0)
  have h1 := Int.emod_lt_of_pos x hn
  unfold tourref5_Below.f
  rw [if_neg (by omega)]
  have e : (x.tmod n = x % n ∨ x.tmod n = x % n - n) := by
    rw [Int.tmod_eq_emod]
    split
    · left; omega
    · right
      have : (n.natAbs : Int) = n := by omega
      omega
  by_cases h : x.tmod n < 0
  · rw [if_pos h, wrap_in (by omega) (by omega)]
    congr 1; omega
  · rw [if_neg h]
    congr 1; omega

theorem seeks_true : Ev (fun k => tourkeep5_seeks.f k) true := Ev.of (fun k => tourkeep5_seeks.mono k) (k := 200) (by decide +kernel)

def off (n : Int) : Int := n % 13107200 - 6553600
theorem off_le (n : Int) : -6553600 ≤ off n ∧ off n ≤ 6553600 := by unfold off; omega
def moverV (x y u v fast turn : Int) : S29 := ⟨⟨off x, off y⟩, ⟨Int.tdiv (off u) 8, Int.tdiv (off v) 8⟩, fast % 1310720, turn % 1310720⟩
theorem eighth (n : Int) : -819200 ≤ Int.tdiv (off n) 8 ∧ Int.tdiv (off n) 8 ≤ 819200 := by
  have h := off_le n
  rw [Int.tdiv_eq_ediv]
  split <;> (try (rw [show (8 : Int).sign = 1 from rfl])) <;> omega
theorem one_eq (n : Int) : tourkeep5_mover_1.f n = some (off n) := by
  have h := off_le n
  unfold tourkeep5_mover_1.f
  rw [below_eq n 13107200 (by omega) (by omega)]
  unfold off at *
  simp only [Option.bind_some]
  rw [wrap_in (by omega) (by omega)]
theorem mover_eq (x y u v fast turn : Int) : tourkeep5_mover.f x y u v fast turn = some ((moverV x y u v fast turn).f0.f0, (moverV x y u v fast turn).f0.f1, (moverV x y u v fast turn).f1.f0, (moverV x y u v fast turn).f1.f1, (moverV x y u v fast turn).f2, (moverV x y u v fast turn).f3) := by
  have h1 := eighth u
  have h2 := eighth v
  unfold tourkeep5_mover.f moverV
  simp only [one_eq, Option.bind_some, below_eq fast 1310720 (by omega) (by omega), below_eq turn 1310720 (by omega) (by omega)]
  rw [wrap_in (by omega) (by omega), wrap_in (by omega) (by omega)]
theorem mover_right (x y u v fast turn : Int) : faultOf (moverV x y u v fast turn) = 0 := by
  have h1 := eighth u
  have h2 := eighth v
  have h3 := off_le x
  have h4 := off_le y
  unfold faultOf faultV moverV
  simp only [clamp_same]
  rw [if_pos ⟨by omega, by omega, by omega, by omega⟩, if_pos ⟨by omega, by omega, by omega, by omega⟩]
end Go.Proofs.Ytdopeneehminaaa.SteerKeepSteerThere
