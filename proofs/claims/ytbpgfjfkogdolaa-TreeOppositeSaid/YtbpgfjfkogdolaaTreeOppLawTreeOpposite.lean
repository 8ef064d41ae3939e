/- What TreeOpposite compares, in plain words. Under no condition but what stands at each. -/
import Derived.Test.YtbpgfjfkogdolaaTreeOppTreeOpposite
import Derived.Test.YtbpgfjfkogdolaaTreeMadeTreeOpposite
namespace Go.Proofs.Ytbpgfjfkogdolaa.TreeOppLawTreeOpposite
open Go Go.RowKit Go.Proofs.YtbpgfjfkogdolaaW.PrintWords Go.Proofs.YtbpgfjfkogdolaaW.PrintLast Go.Proofs.YtbpgfjfkogdolaaW.PrintMore Go.Proofs.Ytbpgfjfkogdolaa.PTreeOpposite Go.Proofs.Ytbpgfjfkogdolaa.Fnv Go.Proofs.Ytbpgfjfkogdolaa.TreePlainTreeOpposite Go.Proofs.Ytbpgfjfkogdolaa.TreeEvTreeOpposite Go.Proofs.Ytbpgfjfkogdolaa.TreeTTreeOpposite Go.Proofs.Ytbpgfjfkogdolaa.TreeRightTreeOpposite Go.Proofs.Ytbpgfjfkogdolaa.TreeTopTreeOpposite Go.Proofs.Ytbpgfjfkogdolaa.TreeOppTreeOpposite
set_option linter.unusedVariables false
set_option linter.unusedSimpArgs false
def aB : ByteArray := ⟨#[97]⟩
def askN : Nd := ⟨1, aB, 0, []⟩
theorem one_not (n : Nd) : One (notN n) := ⟨by show (1 : Int) ≤ 5; decide, by show (5 : Int) ≤ 8; decide, fun h => absurd h (by simp [notN]), fun _ => rfl, fun h => absurd h (by simp [notN])⟩
theorem well_not {d : Nat} {n : Nd} (h : Well d n) : Well (d + 1) (notN n) := ⟨one_not n, by simpa [notN] using h⟩
theorem well_any {d : Nat} {a b : Nd} (ha : Well d a) (hb : Well d b) : Well (d + 1) (anyN a b) := ⟨⟨by show (1 : Int) ≤ 4; decide, by show (4 : Int) ≤ 8; decide, fun h => absurd h (by simp [anyN]), fun h => absurd h (by simp [anyN]), fun h => absurd h (by simp [anyN])⟩, by simpa [anyN] using ⟨ha, hb⟩⟩
theorem well_all {d : Nat} {a b : Nd} (ha : Well d a) (hb : Well d b) : Well (d + 1) (allN a b) := ⟨⟨by show (1 : Int) ≤ 3; decide, by show (3 : Int) ≤ 8; decide, fun h => absurd h (by simp [allN]), fun h => absurd h (by simp [allN]), fun h => absurd h (by simp [allN])⟩, by simpa [allN] using ⟨ha, hb⟩⟩
theorem sz_any (d : Nat) (a b : Nd) : szD (d + 1) (anyN a b) = 1 + (szD d a + szD d b) := by simp [szD, anyN]
theorem sz_opp (d : Nat) (a b : Nd) : szD (d + 3) (oppN a b) = 2 + ((1 + szD d a) + (1 + szD d b)) := by simp [szD, oppN, allN, notN]; omega
theorem first_law (an : Unit → ByteArray → Int × Unit) (h : (an () aB).1 = 0) : ∃ m, Evt (fun k => topF an k (notN askN) [] ()) (1, m, 0, ()) := by
  have hw : Well 1 (notN askN) := well_not ⟨⟨by decide, by decide, fun _ => ⟨rfl, by decide, by decide⟩, fun h => absurd h (by decide), fun h => absurd h (by decide)⟩, rfl⟩
  have := top_ev an 1 (notN askN) hw (by decide) [] (zs 2) (Fit.zeros 1 _ (Well.good _ _ hw)) (.inr ⟨rfl, rfl⟩) ()
  have e : T an 0 askN [0] () = (0, [0], (an () aB).2) := by
    show nodeT an _ _ askN [0] () = _
    unfold nodeT
    rw [if_pos (.inl rfl)]
    show (leafV 1 (an () aB).1, [0], (an () aB).2) = _
    rw [h]
    rfl
  refine ⟨[0, 0], ?_⟩
  rw [show (zs 2) = 0 :: [0] from rfl, T_not an 0 askN 0 [0] (), e] at this
  exact this
/-- The two trees' memories between two rounds. -/
def Rel (a b : Nd) (m n : List Int) : Prop := (m = [] ∧ n = []) ∨ (Same2 3 a b m n ∧ Fit 4 (anyN a b) m ∧ Fit 6 (oppN a b) n)
theorem round_law (a b : Nd) (ha : Well 3 a) (hb : Well 3 b) (sa : szD 3 a ≤ 40) (sb : szD 3 b ≤ 40) (an : Unit → ByteArray → Int × Unit) (m n : List Int) (h : Rel a b m n) :
    ∃ r m' n', Evt (fun k => topF an k (anyN a b) m ()) (r, m', 0, ()) ∧ Evt (fun k => topF an k (oppN a b) n ()) (r, n', 0, ()) ∧ Rel a b m' n' ∧ m'.length ≤ 200 ∧ n'.length ≤ 200 := by
  have wx : Well 4 (anyN a b) := well_any ha hb
  have wy : Well 6 (oppN a b) := well_not (well_all (well_not ha) (well_not hb))
  have zx : szD 4 (anyN a b) ≤ 200 := by rw [sz_any]; omega
  have zy : szD 6 (oppN a b) ≤ 200 := by rw [sz_opp]; omega
  obtain ⟨μ, ν, hs, fx, fy, hm, hn⟩ : ∃ μ ν, Same2 3 a b μ ν ∧ Fit 4 (anyN a b) μ ∧ Fit 6 (oppN a b) ν ∧ (m = μ ∨ m = [] ∧ μ = zs (szD 4 (anyN a b))) ∧ (n = ν ∨ n = [] ∧ ν = zs (szD 6 (oppN a b))) := by
    rcases h with ⟨rfl, rfl⟩ | ⟨h1, h2, h3⟩
    · exact ⟨_, _, Same2.zeros 3 a b (Well.good _ _ ha) (Well.good _ _ hb) _ _ (sz_any 3 a b) (sz_opp 3 a b), Fit.zeros 4 _ (Well.good _ _ wx), Fit.zeros 6 _ (Well.good _ _ wy), .inr ⟨rfl, rfl⟩, .inr ⟨rfl, rfl⟩⟩
    · exact ⟨m, n, h1, h2, h3, .inl rfl, .inl rfl⟩
  have ga := Well.good _ _ ha
  have gb := Well.good _ _ hb
  have tx := top_ev an 4 (anyN a b) wx zx m μ fx hm ()
  have ty := top_ev an 6 (oppN a b) wy zy n ν fy hn ()
  have gx := T_fit an 4 (anyN a b) (Well.good _ _ wx) μ () fx
  have gy := T_fit an 6 (oppN a b) (Well.good _ _ wy) ν () fy
  obtain ⟨h1, h2, h3⟩ := opp_step an 3 a b ga gb μ ν () hs
  have lx := Fit.len _ _ _ gx
  have ly := Fit.len _ _ _ gy
  exact ⟨_, _, _, tx, by rw [h1]; exact ty, .inr ⟨h3, gx, gy⟩, Nat.le_trans (Nat.le_of_eq lx) zx, Nat.le_trans (Nat.le_of_eq ly) zy⟩
end Go.Proofs.Ytbpgfjfkogdolaa.TreeOppLawTreeOpposite
