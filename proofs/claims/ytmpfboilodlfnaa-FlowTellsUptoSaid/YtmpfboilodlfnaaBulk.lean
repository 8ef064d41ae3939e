/- How long a slice is that reads as something of a given bulk. Under no condition but what stands at each. -/
import Derived.Test.YtmpfboilodlfnaaRows
import Derived.Deep.Slices
namespace Go.Proofs.Ytmpfboilodlfnaa.Bulk
open Go Go.Proofs.Ytmpfboilodlfnaa
theorem some_bulk {H : Type} (d : DataW H) : 0 < Rows.uptoBulk d := by
  rcases d with l | _ | _ | _ | _ | _ | _ | _
  · cases l <;> simp [Rows.uptoBulk]
  all_goals simp [Rows.uptoBulk]
theorem len_bulk {H : Type} : ∀ l : List (DataW H), l.length ≤ Rows.uptoBulkAll l
  | [] => Nat.zero_le _
  | d :: l => by
    have h1 := some_bulk d
    have h2 := len_bulk l
    simp only [Rows.uptoBulkAll, List.length_cons]
    omega
theorem mem_bulk {H : Type} {d : DataW H} : ∀ {l : List (DataW H)}, d ∈ l → Rows.uptoBulk d ≤ Rows.uptoBulkAll l
  | x :: l, h => by
    simp only [Rows.uptoBulkAll]
    rcases List.mem_cons.1 h with rfl | h
    · omega
    · have := mem_bulk h; omega
theorem slice_bulk {H : Type} {enc : TypeId × Value → H} {P : Program} {W : World} {base : Nat} {spare : Nat → Bool} {held : Bool} {fuel : Nat} {t e : TypeId} {A : Option Addr} {n c : Nat} {x : DataW H × List MemPlace} (ht : P.underlying t = some (.slice e)) (h : DataW.trod enc P W base spare held fuel t [.slice A n c] = some x) : n ≤ Rows.uptoBulk x.1 := by
  rcases Deep.open_slice ht h with ⟨h1, _⟩ | ⟨a, len, cap, m, k, D, Pl, h1, _, _, _, _, hxx, _⟩
  · injection h1 with h1 _
    injection h1 with _ h1 _
    omega
  · injection h1 with h1 _
    injection h1 with _ h1 _
    subst hxx
    have := len_bulk ((List.range len).map D)
    simp only [Rows.uptoBulk, List.length_map, List.length_range] at this ⊢
    omega
/-- The bound of a slice among the arguments. -/
theorem slice_upto {H : Type} {enc : TypeId × Value → H} {P : Program} {W : World} {base : Nat} {spare : Nat → Bool} {held : Bool} {fuel : Nat} {t e : TypeId} {A : Option Addr} {n c : Nat} {x : DataW H × List MemPlace} {ds : List (DataW H)} (ht : P.underlying t = some (.slice e)) (h : DataW.trod enc P W base spare held fuel t [.slice A n c] = some x) (hm : x.1 ∈ ds) (hk : Rows.uptoSmall H ds = true) : n ≤ 1048576 := by
  have h1 := slice_bulk ht h
  have h2 := mem_bulk hm
  have h3 : Rows.uptoBulkAll ds ≤ 1048576 := of_decide_eq_true hk
  omega
end Go.Proofs.Ytmpfboilodlfnaa.Bulk
