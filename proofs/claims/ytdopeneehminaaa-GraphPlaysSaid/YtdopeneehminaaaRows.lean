/-
  No cell of these rows narrows 'for every input' (looked for: loops, veiled, ifaces, maps, wideKeys, modest, calm, conditions, laid).
  DERIVED. THE GIVEN ROWS OF THIS SEAT. 8 by the template 'for every input the law returns true; each argument reads behind the call as it read before'; 0 by the template 'total and deterministic' (their statements: YtdopeneehminaaaTotals.lean).
  GIVEN WITH THE SEED: the statements are not yours to turn. If you find one false, say at which input.
  Laid BY PROGRAM, IN A SANDBOX (cutbox-rows.mjs): the forced cells as the released guide's own fill.sh prints them over the translation 67cae0d4fe13b530… (all of the seat's roots in one cut). By AI agents, Wed Nov 11 2026. No macro, syntax, notation, axiom, sorry.
-/
import Derived.Test.YtdopeneehminaaaChecked
import GoSem.Claim
import GoSem.ClaimJoined
import GoSem.ClaimMapViews
import Derived.JoinedTies
import Derived.KernelRfl
namespace Go.Proofs.Ytdopeneehminaaa
/- THE CELL 'sum', in the pinned program and in every row, IS THE sha256 OF THE DUMP (.gsa) THAT YtdopeneehminaaaProg.lean LOADS. Nothing in Lean hashes anything: it is a label: what it is worth is what the hold of that sum in a sandbox is worth. -/
noncomputable def Try.pinned : Pinned := { name := "ytdopeneehminaaa", sum := "67cae0d4fe13b5301770a6777e680693fdae51b30fc628c8a2036190a58eef08", checked := Try.checked }
namespace Rows
def none {H : Type} : Left H := { results := [], args := [] }

/-- 'tourlaw5.SteerParts': WHATEVER THE INPUT: true; the input reads as it did. -/
def steerPartsSpec : ChangeSpec := { name := "steerParts", fn := fun _ => fun
  | [d1, d2] => { results := [.lit (.bool true)], args := [d1, d2] }
  | _ => none }
def steerPartsRow : OpenClaim := { program := "ytdopeneehminaaa", sum := "67cae0d4fe13b5301770a6777e680693fdae51b30fc628c8a2036190a58eef08", func := "tourney/tourlaw5.SteerParts", spec := "steerParts", inPlace := ["math/bits.Add64"], named := ["math/bits.divideError", "math/bits.overflowError"], apart := false }
def SteerPartsSaid : Prop := steerPartsRow.holds Try.pinned (OpenSpec.ofChange steerPartsSpec)

/-- ITS FALSE NEIGHBOUR: 'it returns false'. Refute it at one input. -/
def steerPartsWrong : ChangeSpec := { name := "steerParts", fn := fun _ => fun
  | [d1, d2] => { results := [.lit (.bool false)], args := [d1, d2] }
  | _ => none }
def SteerPartsWrongFalsely : Prop := steerPartsRow.holds Try.pinned (OpenSpec.ofChange steerPartsWrong)

/-- 'tourlaw5.SteerTells': WHATEVER THE INPUT: true; the input reads as it did. -/
def steerTellsSpec : ChangeSpec := { name := "steerTells", fn := fun _ => fun
  | [d1, d2, d3, d4] => { results := [.lit (.bool true)], args := [d1, d2, d3, d4] }
  | _ => none }
def steerTellsRow : OpenClaim := { program := "ytdopeneehminaaa", sum := "67cae0d4fe13b5301770a6777e680693fdae51b30fc628c8a2036190a58eef08", func := "tourney/tourlaw5.SteerTells", spec := "steerTells", inPlace := ["math/bits.Add64"], named := ["math/bits.divideError", "math/bits.overflowError"], apart := false }
def SteerTellsSaid : Prop := steerTellsRow.holds Try.pinned (OpenSpec.ofChange steerTellsSpec)

/-- ITS FALSE NEIGHBOUR: 'it returns false'. Refute it at one input. -/
def steerTellsWrong : ChangeSpec := { name := "steerTells", fn := fun _ => fun
  | [d1, d2, d3, d4] => { results := [.lit (.bool false)], args := [d1, d2, d3, d4] }
  | _ => none }
def SteerTellsWrongFalsely : Prop := steerTellsRow.holds Try.pinned (OpenSpec.ofChange steerTellsWrong)

/-- 'tourkeep5.SteerApart': WHATEVER THE INPUT: true; the input reads as it did. -/
def steerApartSpec : ChangeSpec := { name := "steerApart", fn := fun _ => fun
  | [d1, d2, d3, d4, d5, d6, d7] => { results := [.lit (.bool true)], args := [d1, d2, d3, d4, d5, d6, d7] }
  | _ => none }
def steerApartRow : OpenClaim := { program := "ytdopeneehminaaa", sum := "67cae0d4fe13b5301770a6777e680693fdae51b30fc628c8a2036190a58eef08", func := "tourney/tourkeep5.SteerApart", spec := "steerApart", inPlace := ["math/bits.Add64"], unfollowed := true, recurses := true, named := ["math/bits.divideError", "math/bits.overflowError"], apart := false }
def SteerApartSaid : Prop := steerApartRow.holds Try.pinned (OpenSpec.ofChange steerApartSpec)

/-- ITS FALSE NEIGHBOUR: 'it returns false'. Refute it at one input. -/
def steerApartWrong : ChangeSpec := { name := "steerApart", fn := fun _ => fun
  | [d1, d2, d3, d4, d5, d6, d7] => { results := [.lit (.bool false)], args := [d1, d2, d3, d4, d5, d6, d7] }
  | _ => none }
def SteerApartWrongFalsely : Prop := steerApartRow.holds Try.pinned (OpenSpec.ofChange steerApartWrong)

/-- 'tourkeep5.SteerThere': WHATEVER THE INPUT: true; the input reads as it did. -/
def steerThereSpec : ChangeSpec := { name := "steerThere", fn := fun _ => fun
  | [d1, d2, d3, d4, d5] => { results := [.lit (.bool true)], args := [d1, d2, d3, d4, d5] }
  | _ => none }
def steerThereRow : OpenClaim := { program := "ytdopeneehminaaa", sum := "67cae0d4fe13b5301770a6777e680693fdae51b30fc628c8a2036190a58eef08", func := "tourney/tourkeep5.SteerThere", spec := "steerThere", inPlace := ["math/bits.Add64"], unfollowed := true, recurses := true, named := ["math/bits.divideError", "math/bits.overflowError"], apart := false }
def SteerThereSaid : Prop := steerThereRow.holds Try.pinned (OpenSpec.ofChange steerThereSpec)

/-- ITS FALSE NEIGHBOUR: 'it returns false'. Refute it at one input. -/
def steerThereWrong : ChangeSpec := { name := "steerThere", fn := fun _ => fun
  | [d1, d2, d3, d4, d5] => { results := [.lit (.bool false)], args := [d1, d2, d3, d4, d5] }
  | _ => none }
def SteerThereWrongFalsely : Prop := steerThereRow.holds Try.pinned (OpenSpec.ofChange steerThereWrong)

/-- 'tourkeep5.SteerBounds': WHATEVER THE INPUT: true; the input reads as it did. -/
def steerBoundsSpec : ChangeSpec := { name := "steerBounds", fn := fun _ => fun
  | [d1, d2, d3, d4, d5, d6, d7] => { results := [.lit (.bool true)], args := [d1, d2, d3, d4, d5, d6, d7] }
  | _ => none }
def steerBoundsRow : OpenClaim := { program := "ytdopeneehminaaa", sum := "67cae0d4fe13b5301770a6777e680693fdae51b30fc628c8a2036190a58eef08", func := "tourney/tourkeep5.SteerBounds", spec := "steerBounds", inPlace := ["math/bits.Add64"], unfollowed := true, recurses := true, named := ["math/bits.divideError", "math/bits.overflowError"], apart := false }
def SteerBoundsSaid : Prop := steerBoundsRow.holds Try.pinned (OpenSpec.ofChange steerBoundsSpec)

/-- ITS FALSE NEIGHBOUR: 'it returns false'. Refute it at one input. -/
def steerBoundsWrong : ChangeSpec := { name := "steerBounds", fn := fun _ => fun
  | [d1, d2, d3, d4, d5, d6, d7] => { results := [.lit (.bool false)], args := [d1, d2, d3, d4, d5, d6, d7] }
  | _ => none }
def SteerBoundsWrongFalsely : Prop := steerBoundsRow.holds Try.pinned (OpenSpec.ofChange steerBoundsWrong)

/-- 'tourkeep5.GraphPlain': WHATEVER THE INPUT: true; the input reads as it did. -/
def graphPlainSpec : ChangeSpec := { name := "graphPlain", fn := fun _ => fun
  | [d1, d2] => { results := [.lit (.bool true)], args := [d1, d2] }
  | _ => none }
def graphPlainRow : OpenClaim := { program := "ytdopeneehminaaa", sum := "67cae0d4fe13b5301770a6777e680693fdae51b30fc628c8a2036190a58eef08", func := "tourney/tourkeep5.GraphPlain", spec := "graphPlain", recurses := true, named := ["math/bits.divideError", "math/bits.overflowError"], apart := false }
def GraphPlainSaid : Prop := graphPlainRow.holds Try.pinned (OpenSpec.ofChange graphPlainSpec)

/-- ITS FALSE NEIGHBOUR: 'it returns false'. Refute it at one input. -/
def graphPlainWrong : ChangeSpec := { name := "graphPlain", fn := fun _ => fun
  | [d1, d2] => { results := [.lit (.bool false)], args := [d1, d2] }
  | _ => none }
def GraphPlainWrongFalsely : Prop := graphPlainRow.holds Try.pinned (OpenSpec.ofChange graphPlainWrong)

/-- 'tourkeep5.GraphOnce': WHATEVER THE INPUT: true; the input reads as it did. -/
def graphOnceSpec : ChangeSpec := { name := "graphOnce", fn := fun _ => fun
  | [d1, d2, d3] => { results := [.lit (.bool true)], args := [d1, d2, d3] }
  | _ => none }
def graphOnceRow : OpenClaim := { program := "ytdopeneehminaaa", sum := "67cae0d4fe13b5301770a6777e680693fdae51b30fc628c8a2036190a58eef08", func := "tourney/tourkeep5.GraphOnce", spec := "graphOnce", recurses := true, named := ["math/bits.divideError", "math/bits.overflowError"], apart := false }
def GraphOnceSaid : Prop := graphOnceRow.holds Try.pinned (OpenSpec.ofChange graphOnceSpec)

/-- ITS FALSE NEIGHBOUR: 'it returns false'. Refute it at one input. -/
def graphOnceWrong : ChangeSpec := { name := "graphOnce", fn := fun _ => fun
  | [d1, d2, d3] => { results := [.lit (.bool false)], args := [d1, d2, d3] }
  | _ => none }
def GraphOnceWrongFalsely : Prop := graphOnceRow.holds Try.pinned (OpenSpec.ofChange graphOnceWrong)

/-- 'tourlaw5.GraphPlays': WHATEVER THE INPUT: true; the input reads as it did. -/
def graphPlaysSpec : ChangeSpec := { name := "graphPlays", fn := fun _ => fun
  | [d1, d2] => { results := [.lit (.bool true)], args := [d1, d2] }
  | _ => none }
def graphPlaysRow : OpenClaim := { program := "ytdopeneehminaaa", sum := "67cae0d4fe13b5301770a6777e680693fdae51b30fc628c8a2036190a58eef08", func := "tourney/tourlaw5.GraphPlays", spec := "graphPlays", recurses := true, named := ["math/bits.divideError", "math/bits.overflowError"], apart := false }
def GraphPlaysSaid : Prop := graphPlaysRow.holds Try.pinned (OpenSpec.ofChange graphPlaysSpec)

/-- ITS FALSE NEIGHBOUR: 'it returns false'. Refute it at one input. -/
def graphPlaysWrong : ChangeSpec := { name := "graphPlays", fn := fun _ => fun
  | [d1, d2] => { results := [.lit (.bool false)], args := [d1, d2] }
  | _ => none }
def GraphPlaysWrongFalsely : Prop := graphPlaysRow.holds Try.pinned (OpenSpec.ofChange graphPlaysWrong)

/- THE SECOND FORM. 'bulk': how many values and letters a reading holds, each counted each time it is reached (what is shared counts as often as it is met; a slice's spare places count too). A statement '..UptoSaid' is the law's where the arguments, and the package variables that the reading takes, are together of bulk at most 1048576: NARROWER than '..Said'. Prove '..Said' where nothing that the law and all that it calls make is longer than what came in: it says more and counts as full. Else prove '..UptoSaid'. A law counts once. -/
mutual
def uptoBulk {H : Type} : DataW H → Nat
  | .lit (.string bytes) => bytes.length + 1
  | .lit _ => 1
  | .nil => 1
  | .ptr d => uptoBulk d + 1
  | .slice elems spare => uptoBulkAll elems + uptoBulkAll spare + 1
  | .agg parts => uptoBulkAll parts + 1
  | .iface _ d => uptoBulk d + 1
  | .map entries => uptoBulkEntries entries + 1
  | .held _ => 1
def uptoBulkAll {H : Type} : List (DataW H) → Nat
  | [] => 0
  | d :: r => uptoBulk d + uptoBulkAll r
def uptoBulkEntries {H : Type} : List (Lit × DataW H) → Nat
  | [] => 0
  | x :: r => uptoBulkEntry x + uptoBulkEntries r
def uptoBulkEntry {H : Type} : Lit × DataW H → Nat
  | (.string bytes, d) => bytes.length + uptoBulk d + 1
  | (_, d) => uptoBulk d + 1
 end
def uptoSmall : (H : Type) → List (DataW H) → Bool := fun _ ds => decide (uptoBulkAll ds ≤ 1048576)
def OpenSpec.upto (s : _root_.Go.ChangeSpec) : _root_.Go.OpenSpec := { _root_.Go.OpenSpec.ofChange s with cond := some uptoSmall }

/-- 'tourlaw5.SteerParts', WHERE WHAT IT READS IS OF BULK AT MOST 1048576: true; the input reads as it did. -/
def steerPartsUptoRow : OpenClaim := { program := "ytdopeneehminaaa", sum := "67cae0d4fe13b5301770a6777e680693fdae51b30fc628c8a2036190a58eef08", func := "tourney/tourlaw5.SteerParts", spec := "steerParts", inPlace := ["math/bits.Add64"], named := ["math/bits.divideError", "math/bits.overflowError"], apart := false, narrowed := true }
def SteerPartsUptoSaid : Prop := steerPartsUptoRow.holds Try.pinned (OpenSpec.upto steerPartsSpec)

/-- 'tourlaw5.SteerTells', WHERE WHAT IT READS IS OF BULK AT MOST 1048576: true; the input reads as it did. -/
def steerTellsUptoRow : OpenClaim := { program := "ytdopeneehminaaa", sum := "67cae0d4fe13b5301770a6777e680693fdae51b30fc628c8a2036190a58eef08", func := "tourney/tourlaw5.SteerTells", spec := "steerTells", inPlace := ["math/bits.Add64"], named := ["math/bits.divideError", "math/bits.overflowError"], apart := false, narrowed := true }
def SteerTellsUptoSaid : Prop := steerTellsUptoRow.holds Try.pinned (OpenSpec.upto steerTellsSpec)

/-- 'tourkeep5.SteerApart', WHERE WHAT IT READS IS OF BULK AT MOST 1048576: true; the input reads as it did. -/
def steerApartUptoRow : OpenClaim := { program := "ytdopeneehminaaa", sum := "67cae0d4fe13b5301770a6777e680693fdae51b30fc628c8a2036190a58eef08", func := "tourney/tourkeep5.SteerApart", spec := "steerApart", inPlace := ["math/bits.Add64"], unfollowed := true, recurses := true, named := ["math/bits.divideError", "math/bits.overflowError"], apart := false, narrowed := true }
def SteerApartUptoSaid : Prop := steerApartUptoRow.holds Try.pinned (OpenSpec.upto steerApartSpec)

/-- 'tourkeep5.SteerThere', WHERE WHAT IT READS IS OF BULK AT MOST 1048576: true; the input reads as it did. -/
def steerThereUptoRow : OpenClaim := { program := "ytdopeneehminaaa", sum := "67cae0d4fe13b5301770a6777e680693fdae51b30fc628c8a2036190a58eef08", func := "tourney/tourkeep5.SteerThere", spec := "steerThere", inPlace := ["math/bits.Add64"], unfollowed := true, recurses := true, named := ["math/bits.divideError", "math/bits.overflowError"], apart := false, narrowed := true }
def SteerThereUptoSaid : Prop := steerThereUptoRow.holds Try.pinned (OpenSpec.upto steerThereSpec)

/-- 'tourkeep5.SteerBounds', WHERE WHAT IT READS IS OF BULK AT MOST 1048576: true; the input reads as it did. -/
def steerBoundsUptoRow : OpenClaim := { program := "ytdopeneehminaaa", sum := "67cae0d4fe13b5301770a6777e680693fdae51b30fc628c8a2036190a58eef08", func := "tourney/tourkeep5.SteerBounds", spec := "steerBounds", inPlace := ["math/bits.Add64"], unfollowed := true, recurses := true, named := ["math/bits.divideError", "math/bits.overflowError"], apart := false, narrowed := true }
def SteerBoundsUptoSaid : Prop := steerBoundsUptoRow.holds Try.pinned (OpenSpec.upto steerBoundsSpec)

/-- 'tourkeep5.GraphPlain', WHERE WHAT IT READS IS OF BULK AT MOST 1048576: true; the input reads as it did. -/
def graphPlainUptoRow : OpenClaim := { program := "ytdopeneehminaaa", sum := "67cae0d4fe13b5301770a6777e680693fdae51b30fc628c8a2036190a58eef08", func := "tourney/tourkeep5.GraphPlain", spec := "graphPlain", recurses := true, named := ["math/bits.divideError", "math/bits.overflowError"], apart := false, narrowed := true }
def GraphPlainUptoSaid : Prop := graphPlainUptoRow.holds Try.pinned (OpenSpec.upto graphPlainSpec)

/-- 'tourkeep5.GraphOnce', WHERE WHAT IT READS IS OF BULK AT MOST 1048576: true; the input reads as it did. -/
def graphOnceUptoRow : OpenClaim := { program := "ytdopeneehminaaa", sum := "67cae0d4fe13b5301770a6777e680693fdae51b30fc628c8a2036190a58eef08", func := "tourney/tourkeep5.GraphOnce", spec := "graphOnce", recurses := true, named := ["math/bits.divideError", "math/bits.overflowError"], apart := false, narrowed := true }
def GraphOnceUptoSaid : Prop := graphOnceUptoRow.holds Try.pinned (OpenSpec.upto graphOnceSpec)

/-- 'tourlaw5.GraphPlays', WHERE WHAT IT READS IS OF BULK AT MOST 1048576: true; the input reads as it did. -/
def graphPlaysUptoRow : OpenClaim := { program := "ytdopeneehminaaa", sum := "67cae0d4fe13b5301770a6777e680693fdae51b30fc628c8a2036190a58eef08", func := "tourney/tourlaw5.GraphPlays", spec := "graphPlays", recurses := true, named := ["math/bits.divideError", "math/bits.overflowError"], apart := false, narrowed := true }
def GraphPlaysUptoSaid : Prop := graphPlaysUptoRow.holds Try.pinned (OpenSpec.upto graphPlaysSpec)

end Rows
end Go.Proofs.Ytdopeneehminaaa
