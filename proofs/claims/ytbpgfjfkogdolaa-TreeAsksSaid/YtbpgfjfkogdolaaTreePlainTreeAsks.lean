/- What the walker of a behaviour tree computes, as plain functions. Under no condition. -/
import Derived.Test.YtbpgfjfkogdolaaPTreeAsksx
namespace Go.Proofs.Ytbpgfjfkogdolaa.TreePlainTreeAsks
open Go Go.RowKit Go.Proofs.YtbpgfjfkogdolaaW.PrintWords Go.Proofs.YtbpgfjfkogdolaaW.PrintLast Go.Proofs.YtbpgfjfkogdolaaW.PrintMore Go.Proofs.Ytbpgfjfkogdolaa.PTreeAsks
set_option linter.unusedVariables false
abbrev Nd := S25
abbrev rdN := rd_T25
def leafV (kind r : Int) : Int := if r = 1 ∨ r = 2 ∧ kind = 2 then r else 0
def sizeF (k : Nat) (n : Nd) : Option Int := tree_Size.f k n.f0 n.f1 n.f2 n.f3
/-- The row with the cells from a to b made zero. -/
def wipe (m : List Int) (a b : Nat) : List Int := m.take a ++ List.replicate (b - a) 0 ++ m.drop b
def forgetF (k : Nat) (n : Nd) (a : Int) (m : List Int) : Option (List Int) :=
  (sizeF k n).bind fun z => if 0 ≤ a ∧ a < wrap64 (a + z) ∧ wrap64 (a + z) ≤ m.length then some (wipe m a.toNat (wrap64 (a + z)).toNat) else none
def onV (kind : Int) : Int := if kind = 4 ∨ kind = 8 then 0 else 1
/-- The row with other cells from a on. -/
def laid (m : List Int) (a : Nat) (l : List Int) : List Int := m.take a ++ l ++ m.drop (a + l.length)
section
variable {σ : Type} (an : σ → ByteArray → Int × σ)
mutual
def tickF : Nat → Nd → Int → List Int → σ → Option (Int × List Int × σ)
  | 0, _, _, _, _ => none
  | k + 1, n, a, m, s =>
    if n.f0 = 1 ∨ n.f0 = 2 then some (leafV n.f0 (an s n.f1).1, m, (an s n.f1).2)
    else if n.f0 = 5 then
      if 0 < n.f3.length then (tickF k (rdN n.f3 0) (wrap64 (a + 1)) m s).bind fun x => if x.1 = 2 then some (2, x.2.1, x.2.2) else some (wrap64 (1 - x.1), x.2.1, x.2.2) else none
    else if n.f0 = 6 then againF k n a m s
    else listF k n a m s
def againF : Nat → Nd → Int → List Int → σ → Option (Int × List Int × σ)
  | 0, _, _, _, _ => none
  | k + 1, n, a, m, s =>
    if 0 < n.f3.length then (tickF k (rdN n.f3 0) (wrap64 (a + 1)) m s).bind fun x =>
      if x.1 = 2 then some (2, x.2.1, x.2.2)
      else if 0 ≤ a ∧ a < x.2.1.length then (forgetF k n a x.2.1).bind fun m2 =>
        if x.1 = 1 ∧ wrap64 (rd x.2.1 a + 1) < n.f2 then some (2, m2.set a.toNat (wrap64 (rd x.2.1 a + 1)), x.2.2) else some (x.1, m2, x.2.2)
      else none
    else none
def listF : Nat → Nd → Int → List Int → σ → Option (Int × List Int × σ)
  | 0, _, _, _, _ => none
  | k + 1, n, a, m, s => if 0 ≤ a ∧ a < m.length then loopF k n a (rd m a) (wrap64 (a + 1)) 0 m s else none
def loopF : Nat → Nd → Int → Int → Int → Int → List Int → σ → Option (Int × List Int × σ)
  | 0, _, _, _, _, _, _, _ => none
  | k + 1, n, a, first, fr, i, m, s =>
    if i < n.f3.length then
      if 0 ≤ i then (sizeF k (rdN n.f3 i)).bind fun z =>
        if i ≥ first then (tickF k (rdN n.f3 i) fr m s).bind fun x =>
          if x.1 = 2 then
            if 0 ≤ fr ∧ fr < wrap64 (fr + z) ∧ wrap64 (fr + z) ≤ x.2.1.length then (forgetF k n a x.2.1).bind fun m2 =>
              if n.f0 = 3 ∨ n.f0 = 4 then some (2, (laid m2 fr.toNat ((x.2.1.drop fr.toNat).take (wrap64 (fr + z) - fr).toNat)).set a.toNat i, x.2.2)
              else some (2, laid m2 fr.toNat ((x.2.1.drop fr.toNat).take (wrap64 (fr + z) - fr).toNat), x.2.2)
            else none
          else if x.1 = onV n.f0 then loopF k n a first (wrap64 (fr + z)) (wrap64 (i + 1)) x.2.1 x.2.2
          else (forgetF k n a x.2.1).bind fun m2 => some (x.1, m2, x.2.2)
        else loopF k n a first (wrap64 (fr + z)) (wrap64 (i + 1)) m s
      else none
    else (forgetF k n a m).bind fun m2 => some (onV n.f0, m2, s)
end
end
end Go.Proofs.Ytbpgfjfkogdolaa.TreePlainTreeAsks
