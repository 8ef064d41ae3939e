/- Numbers out of a source: tourref5's Below and Source.N. Under the conditions that stand at each. -/
import Derived.Test.YtfallkiaojefnaaPBonesLongx
namespace Go.Proofs.Ytfallkiaojefnaa.SrcBonesLong
open Go.RowKit Go.Proofs.YtfallkiaojefnaaW.PrintWords Go.Proofs.YtfallkiaojefnaaW.PrintLast Go.Proofs.YtfallkiaojefnaaW.PrintMore Go.Proofs.Ytfallkiaojefnaa.PBonesLong
set_option linter.unusedVariables false

theorem swrap_in {x : Int} (h0 : -9223372036854775808 ≤ x) (h1 : x ≤ 9223372036854775807) : wrap64 x = x := by
  unfold wrap64; omega
theorem below_ok (a n : Int) (hn : 0 < n ∧ n ≤ 4611686018427387904) : ∃ b, tourref5_Below.f a n = some b ∧ 0 ≤ b ∧ b < n := by
  have h3 := Int.tmod_lt_of_pos a hn.1
  have h4 := Int.lt_tmod_of_pos a hn.1
  unfold tourref5_Below.f
  rw [if_neg (by omega)]
  by_cases c : Int.tmod a n < 0
  · rw [if_pos c, swrap_in (by omega) (by omega)]; exact ⟨_, rfl, by omega, by omega⟩
  · rw [if_neg c]; exact ⟨_, rfl, by omega, by omega⟩
theorem n_ok (l : List Int) (hl : l.length ≤ 4611686018427387904) (i n : Int) (hi : 0 ≤ i ∧ i ≤ l.length) (hn : 0 < n ∧ n ≤ 4611686018427387904) :
    ∃ b j, tourref5_Source_N.f l i n = some (b, j) ∧ (0 ≤ b ∧ b < n) ∧ 0 ≤ j ∧ j ≤ l.length := by
  unfold tourref5_Source_N.f
  by_cases h : i ≥ (l.length : Int)
  · rw [if_pos h]; exact ⟨0, i, rfl, by omega, hi⟩
  · rw [if_neg h, swrap_in (x := i + 1) (by omega) (by omega), swrap_in (x := i + 1 - 1) (by omega) (by omega), if_pos (by omega), if_pos (by omega)]
    obtain ⟨b, e, h0, h1⟩ := below_ok (rd l (i + 1 - 1)) n hn
    rw [e]
    exact ⟨b, i + 1, rfl, ⟨h0, h1⟩, by omega, by omega⟩
end Go.Proofs.Ytfallkiaojefnaa.SrcBonesLong
