/-
  No cell of these rows narrows 'for every input' (looked for: loops, veiled, ifaces, maps, wideKeys, modest, calm, conditions, laid).
  DERIVED. THE GIVEN ROWS OF THIS SEAT. 8 by the template 'for every input the law returns true; each argument reads behind the call as it read before'; 0 by the template 'total and deterministic' (their statements: YtijochlkmkmhdaaTotals.lean).
  GIVEN WITH THE SEED: the statements are not yours to turn. If you find one false, say at which input.
  Laid BY PROGRAM, IN A SANDBOX (cutbox-rows.mjs): the forced cells as the released guide's own fill.sh prints them over the translation e2ecb54842194434… (all of the seat's roots in one cut). By AI agents, Wed Nov 11 2026. No macro, syntax, notation, axiom, sorry.
-/
import Derived.Test.YtijochlkmkmhdaaChecked
import GoSem.Claim
import GoSem.ClaimJoined
import GoSem.ClaimMapViews
import Derived.JoinedTies
import Derived.KernelRfl
namespace Go.Proofs.Ytijochlkmkmhdaa
/- THE CELL 'sum', in the pinned program and in every row, IS THE sha256 OF THE DUMP (.gsa) THAT YtijochlkmkmhdaaProg.lean LOADS. Nothing in Lean hashes anything: it is a label: what it is worth is what the hold of that sum in a sandbox is worth. -/
noncomputable def Try.pinned : Pinned := { name := "ytijochlkmkmhdaa", sum := "e2ecb548421944348c397c48da187562b87b34bb3200fc118e980131e7aba827", checked := Try.checked }
namespace Rows
def none {H : Type} : Left H := { results := [], args := [] }

/-- 'tourlaw5.RasterTiles': WHATEVER THE INPUT: true; the input reads as it did. -/
def rasterTilesSpec : ChangeSpec := { name := "rasterTiles", fn := fun _ => fun
  | [d1, d2, d3] => { results := [.lit (.bool true)], args := [d1, d2, d3] }
  | _ => none }
def rasterTilesRow : OpenClaim := { program := "ytijochlkmkmhdaa", sum := "e2ecb548421944348c397c48da187562b87b34bb3200fc118e980131e7aba827", func := "tourney/tourlaw5.RasterTiles", spec := "rasterTiles", apart := false }
def RasterTilesSaid : Prop := rasterTilesRow.holds Try.pinned (OpenSpec.ofChange rasterTilesSpec)

/-- ITS FALSE NEIGHBOUR: 'it returns false'. Refute it at one input. -/
def rasterTilesWrong : ChangeSpec := { name := "rasterTiles", fn := fun _ => fun
  | [d1, d2, d3] => { results := [.lit (.bool false)], args := [d1, d2, d3] }
  | _ => none }
def RasterTilesWrongFalsely : Prop := rasterTilesRow.holds Try.pinned (OpenSpec.ofChange rasterTilesWrong)

/-- 'tourlaw5.RasterTells': WHATEVER THE INPUT: true; the input reads as it did. -/
def rasterTellsSpec : ChangeSpec := { name := "rasterTells", fn := fun _ => fun
  | [d1, d2] => { results := [.lit (.bool true)], args := [d1, d2] }
  | _ => none }
def rasterTellsRow : OpenClaim := { program := "ytijochlkmkmhdaa", sum := "e2ecb548421944348c397c48da187562b87b34bb3200fc118e980131e7aba827", func := "tourney/tourlaw5.RasterTells", spec := "rasterTells", apart := false }
def RasterTellsSaid : Prop := rasterTellsRow.holds Try.pinned (OpenSpec.ofChange rasterTellsSpec)

/-- ITS FALSE NEIGHBOUR: 'it returns false'. Refute it at one input. -/
def rasterTellsWrong : ChangeSpec := { name := "rasterTells", fn := fun _ => fun
  | [d1, d2] => { results := [.lit (.bool false)], args := [d1, d2] }
  | _ => none }
def RasterTellsWrongFalsely : Prop := rasterTellsRow.holds Try.pinned (OpenSpec.ofChange rasterTellsWrong)

/-- 'tourlaw5.RasterMade': WHATEVER THE INPUT: true; the input reads as it did. -/
def rasterMadeSpec : ChangeSpec := { name := "rasterMade", fn := fun _ => fun
  | [d1, d2, d3, d4, d5] => { results := [.lit (.bool true)], args := [d1, d2, d3, d4, d5] }
  | _ => none }
def rasterMadeRow : OpenClaim := { program := "ytijochlkmkmhdaa", sum := "e2ecb548421944348c397c48da187562b87b34bb3200fc118e980131e7aba827", func := "tourney/tourlaw5.RasterMade", spec := "rasterMade", apart := false }
def RasterMadeSaid : Prop := rasterMadeRow.holds Try.pinned (OpenSpec.ofChange rasterMadeSpec)

/-- ITS FALSE NEIGHBOUR: 'it returns false'. Refute it at one input. -/
def rasterMadeWrong : ChangeSpec := { name := "rasterMade", fn := fun _ => fun
  | [d1, d2, d3, d4, d5] => { results := [.lit (.bool false)], args := [d1, d2, d3, d4, d5] }
  | _ => none }
def RasterMadeWrongFalsely : Prop := rasterMadeRow.holds Try.pinned (OpenSpec.ofChange rasterMadeWrong)

/-- 'tourkeep5.RasterLine': WHATEVER THE INPUT: true; the input reads as it did. -/
def rasterLineSpec : ChangeSpec := { name := "rasterLine", fn := fun _ => fun
  | [d1, d2, d3, d4] => { results := [.lit (.bool true)], args := [d1, d2, d3, d4] }
  | _ => none }
def rasterLineRow : OpenClaim := { program := "ytijochlkmkmhdaa", sum := "e2ecb548421944348c397c48da187562b87b34bb3200fc118e980131e7aba827", func := "tourney/tourkeep5.RasterLine", spec := "rasterLine", apart := false }
def RasterLineSaid : Prop := rasterLineRow.holds Try.pinned (OpenSpec.ofChange rasterLineSpec)

/-- ITS FALSE NEIGHBOUR: 'it returns false'. Refute it at one input. -/
def rasterLineWrong : ChangeSpec := { name := "rasterLine", fn := fun _ => fun
  | [d1, d2, d3, d4] => { results := [.lit (.bool false)], args := [d1, d2, d3, d4] }
  | _ => none }
def RasterLineWrongFalsely : Prop := rasterLineRow.holds Try.pinned (OpenSpec.ofChange rasterLineWrong)

/-- 'tourkeep5.RasterOver': WHATEVER THE INPUT: true; the input reads as it did. -/
def rasterOverSpec : ChangeSpec := { name := "rasterOver", fn := fun _ => fun
  | [d1, d2] => { results := [.lit (.bool true)], args := [d1, d2] }
  | _ => none }
def rasterOverRow : OpenClaim := { program := "ytijochlkmkmhdaa", sum := "e2ecb548421944348c397c48da187562b87b34bb3200fc118e980131e7aba827", func := "tourney/tourkeep5.RasterOver", spec := "rasterOver", apart := false }
def RasterOverSaid : Prop := rasterOverRow.holds Try.pinned (OpenSpec.ofChange rasterOverSpec)

/-- ITS FALSE NEIGHBOUR: 'it returns false'. Refute it at one input. -/
def rasterOverWrong : ChangeSpec := { name := "rasterOver", fn := fun _ => fun
  | [d1, d2] => { results := [.lit (.bool false)], args := [d1, d2] }
  | _ => none }
def RasterOverWrongFalsely : Prop := rasterOverRow.holds Try.pinned (OpenSpec.ofChange rasterOverWrong)

/-- 'tourkeep5.RasterShared': WHATEVER THE INPUT: true; the input reads as it did. -/
def rasterSharedSpec : ChangeSpec := { name := "rasterShared", fn := fun _ => fun
  | [d] => { results := [.lit (.bool true)], args := [d] }
  | _ => none }
def rasterSharedRow : OpenClaim := { program := "ytijochlkmkmhdaa", sum := "e2ecb548421944348c397c48da187562b87b34bb3200fc118e980131e7aba827", func := "tourney/tourkeep5.RasterShared", spec := "rasterShared", unfollowed := true, recurses := true, apart := false }
def RasterSharedSaid : Prop := rasterSharedRow.holds Try.pinned (OpenSpec.ofChange rasterSharedSpec)

/-- ITS FALSE NEIGHBOUR: 'it returns false'. Refute it at one input. -/
def rasterSharedWrong : ChangeSpec := { name := "rasterShared", fn := fun _ => fun
  | [d] => { results := [.lit (.bool false)], args := [d] }
  | _ => none }
def RasterSharedWrongFalsely : Prop := rasterSharedRow.holds Try.pinned (OpenSpec.ofChange rasterSharedWrong)

/-- 'tourlaw5.CullTells': WHATEVER THE INPUT: true; the input reads as it did. -/
def cullTellsSpec : ChangeSpec := { name := "cullTells", fn := fun _ => fun
  | [d1, d2] => { results := [.lit (.bool true)], args := [d1, d2] }
  | _ => none }
def cullTellsRow : OpenClaim := { program := "ytijochlkmkmhdaa", sum := "e2ecb548421944348c397c48da187562b87b34bb3200fc118e980131e7aba827", func := "tourney/tourlaw5.CullTells", spec := "cullTells", unfollowed := true, recurses := true, apart := false }
def CullTellsSaid : Prop := cullTellsRow.holds Try.pinned (OpenSpec.ofChange cullTellsSpec)

/-- ITS FALSE NEIGHBOUR: 'it returns false'. Refute it at one input. -/
def cullTellsWrong : ChangeSpec := { name := "cullTells", fn := fun _ => fun
  | [d1, d2] => { results := [.lit (.bool false)], args := [d1, d2] }
  | _ => none }
def CullTellsWrongFalsely : Prop := cullTellsRow.holds Try.pinned (OpenSpec.ofChange cullTellsWrong)

/-- 'tourkeep5.CullLess': WHATEVER THE INPUT: true; the input reads as it did. -/
def cullLessSpec : ChangeSpec := { name := "cullLess", fn := fun _ => fun
  | [d1, d2, d3, d4] => { results := [.lit (.bool true)], args := [d1, d2, d3, d4] }
  | _ => none }
def cullLessRow : OpenClaim := { program := "ytijochlkmkmhdaa", sum := "e2ecb548421944348c397c48da187562b87b34bb3200fc118e980131e7aba827", func := "tourney/tourkeep5.CullLess", spec := "cullLess", unfollowed := true, recurses := true, apart := false }
def CullLessSaid : Prop := cullLessRow.holds Try.pinned (OpenSpec.ofChange cullLessSpec)

/-- ITS FALSE NEIGHBOUR: 'it returns false'. Refute it at one input. -/
def cullLessWrong : ChangeSpec := { name := "cullLess", fn := fun _ => fun
  | [d1, d2, d3, d4] => { results := [.lit (.bool false)], args := [d1, d2, d3, d4] }
  | _ => none }
def CullLessWrongFalsely : Prop := cullLessRow.holds Try.pinned (OpenSpec.ofChange cullLessWrong)

/- THE SECOND FORM. 'bulk': how many values and letters a reading holds, each counted each time it is reached (what is shared counts as often as it is met; a slice's spare places count too). A statement '..UptoSaid' is the law's where the arguments, and the package variables that the reading takes, are together of bulk at most 1048576: NARROWER than '..Said'. Prove '..Said' where nothing that the law and all that it calls make is longer than what came in: it says more and counts as full. Else prove '..UptoSaid'. A law counts once. -/
mutual
def uptoBulk {H : Type} : DataW H → Nat
  | .lit (.string bytes) => bytes.length + 1
  | .lit _ => 1
  | .nil => 1
  | .ptr d => uptoBulk d + 1
  | .slice elems spare => uptoBulkAll elems + uptoBulkAll spare + 1
  | .agg parts => uptoBulkAll parts + 1
  | .iface _ d => uptoBulk d + 1
  | .map entries => uptoBulkEntries entries + 1
  | .held _ => 1
def uptoBulkAll {H : Type} : List (DataW H) → Nat
  | [] => 0
  | d :: r => uptoBulk d + uptoBulkAll r
def uptoBulkEntries {H : Type} : List (Lit × DataW H) → Nat
  | [] => 0
  | x :: r => uptoBulkEntry x + uptoBulkEntries r
def uptoBulkEntry {H : Type} : Lit × DataW H → Nat
  | (.string bytes, d) => bytes.length + uptoBulk d + 1
  | (_, d) => uptoBulk d + 1
 end
def uptoSmall : (H : Type) → List (DataW H) → Bool := fun _ ds => decide (uptoBulkAll ds ≤ 1048576)
def OpenSpec.upto (s : _root_.Go.ChangeSpec) : _root_.Go.OpenSpec := { _root_.Go.OpenSpec.ofChange s with cond := some uptoSmall }

/-- 'tourlaw5.RasterTiles', WHERE WHAT IT READS IS OF BULK AT MOST 1048576: true; the input reads as it did. -/
def rasterTilesUptoRow : OpenClaim := { program := "ytijochlkmkmhdaa", sum := "e2ecb548421944348c397c48da187562b87b34bb3200fc118e980131e7aba827", func := "tourney/tourlaw5.RasterTiles", spec := "rasterTiles", apart := false, narrowed := true }
def RasterTilesUptoSaid : Prop := rasterTilesUptoRow.holds Try.pinned (OpenSpec.upto rasterTilesSpec)

/-- 'tourlaw5.RasterTells', WHERE WHAT IT READS IS OF BULK AT MOST 1048576: true; the input reads as it did. -/
def rasterTellsUptoRow : OpenClaim := { program := "ytijochlkmkmhdaa", sum := "e2ecb548421944348c397c48da187562b87b34bb3200fc118e980131e7aba827", func := "tourney/tourlaw5.RasterTells", spec := "rasterTells", apart := false, narrowed := true }
def RasterTellsUptoSaid : Prop := rasterTellsUptoRow.holds Try.pinned (OpenSpec.upto rasterTellsSpec)

/-- 'tourlaw5.RasterMade', WHERE WHAT IT READS IS OF BULK AT MOST 1048576: true; the input reads as it did. -/
def rasterMadeUptoRow : OpenClaim := { program := "ytijochlkmkmhdaa", sum := "e2ecb548421944348c397c48da187562b87b34bb3200fc118e980131e7aba827", func := "tourney/tourlaw5.RasterMade", spec := "rasterMade", apart := false, narrowed := true }
def RasterMadeUptoSaid : Prop := rasterMadeUptoRow.holds Try.pinned (OpenSpec.upto rasterMadeSpec)

/-- 'tourkeep5.RasterLine', WHERE WHAT IT READS IS OF BULK AT MOST 1048576: true; the input reads as it did. -/
def rasterLineUptoRow : OpenClaim := { program := "ytijochlkmkmhdaa", sum := "e2ecb548421944348c397c48da187562b87b34bb3200fc118e980131e7aba827", func := "tourney/tourkeep5.RasterLine", spec := "rasterLine", apart := false, narrowed := true }
def RasterLineUptoSaid : Prop := rasterLineUptoRow.holds Try.pinned (OpenSpec.upto rasterLineSpec)

/-- 'tourkeep5.RasterOver', WHERE WHAT IT READS IS OF BULK AT MOST 1048576: true; the input reads as it did. -/
def rasterOverUptoRow : OpenClaim := { program := "ytijochlkmkmhdaa", sum := "e2ecb548421944348c397c48da187562b87b34bb3200fc118e980131e7aba827", func := "tourney/tourkeep5.RasterOver", spec := "rasterOver", apart := false, narrowed := true }
def RasterOverUptoSaid : Prop := rasterOverUptoRow.holds Try.pinned (OpenSpec.upto rasterOverSpec)

/-- 'tourkeep5.RasterShared', WHERE WHAT IT READS IS OF BULK AT MOST 1048576: true; the input reads as it did. -/
def rasterSharedUptoRow : OpenClaim := { program := "ytijochlkmkmhdaa", sum := "e2ecb548421944348c397c48da187562b87b34bb3200fc118e980131e7aba827", func := "tourney/tourkeep5.RasterShared", spec := "rasterShared", unfollowed := true, recurses := true, apart := false, narrowed := true }
def RasterSharedUptoSaid : Prop := rasterSharedUptoRow.holds Try.pinned (OpenSpec.upto rasterSharedSpec)

/-- 'tourlaw5.CullTells', WHERE WHAT IT READS IS OF BULK AT MOST 1048576: true; the input reads as it did. -/
def cullTellsUptoRow : OpenClaim := { program := "ytijochlkmkmhdaa", sum := "e2ecb548421944348c397c48da187562b87b34bb3200fc118e980131e7aba827", func := "tourney/tourlaw5.CullTells", spec := "cullTells", unfollowed := true, recurses := true, apart := false, narrowed := true }
def CullTellsUptoSaid : Prop := cullTellsUptoRow.holds Try.pinned (OpenSpec.upto cullTellsSpec)

/-- 'tourkeep5.CullLess', WHERE WHAT IT READS IS OF BULK AT MOST 1048576: true; the input reads as it did. -/
def cullLessUptoRow : OpenClaim := { program := "ytijochlkmkmhdaa", sum := "e2ecb548421944348c397c48da187562b87b34bb3200fc118e980131e7aba827", func := "tourney/tourkeep5.CullLess", spec := "cullLess", unfollowed := true, recurses := true, apart := false, narrowed := true }
def CullLessUptoSaid : Prop := cullLessUptoRow.holds Try.pinned (OpenSpec.upto cullLessSpec)

end Rows
end Go.Proofs.Ytijochlkmkmhdaa
