/-
  No cell of these rows narrows 'for every input' (looked for: loops, veiled, ifaces, maps, wideKeys, modest, calm, conditions, laid).
  DERIVED. THE GIVEN ROWS OF THIS SEAT. 5 by the template 'for every input the law returns true; each argument reads behind the call as it read before'; 0 by the template 'total and deterministic' (their statements: YtfallkiaojefnaaTotals.lean).
  GIVEN WITH THE SEED: the statements are not yours to turn. If you find one false, say at which input.
  Laid BY PROGRAM, IN A SANDBOX (cutbox-rows.mjs): the forced cells as the released guide's own fill.sh prints them over the translation 15f43960c391098a… (all of the seat's roots in one cut). By AI agents, Wed Nov 11 2026. No macro, syntax, notation, axiom, sorry.
-/
import Derived.Test.YtfallkiaojefnaaChecked
import GoSem.Claim
import GoSem.ClaimJoined
import GoSem.ClaimMapViews
import Derived.JoinedTies
import Derived.KernelRfl
namespace Go.Proofs.Ytfallkiaojefnaa
/- THE CELL 'sum', in the pinned program and in every row, IS THE sha256 OF THE DUMP (.gsa) THAT YtfallkiaojefnaaProg.lean LOADS. Nothing in Lean hashes anything: it is a label: what it is worth is what the hold of that sum in a sandbox is worth. -/
noncomputable def Try.pinned : Pinned := { name := "ytfallkiaojefnaa", sum := "15f43960c391098a54e90e053562c2b8dfb7e78b0336159d4186c5546d1f3daa", checked := Try.checked }
namespace Rows
def none {H : Type} : Left H := { results := [], args := [] }

/-- 'tourkeep5.BonesRest': WHATEVER THE INPUT: true; the input reads as it did. -/
def bonesRestSpec : ChangeSpec := { name := "bonesRest", fn := fun _ => fun
  | [d] => { results := [.lit (.bool true)], args := [d] }
  | _ => none }
def bonesRestRow : OpenClaim := { program := "ytfallkiaojefnaa", sum := "15f43960c391098a54e90e053562c2b8dfb7e78b0336159d4186c5546d1f3daa", func := "tourney/tourkeep5.BonesRest", spec := "bonesRest", inPlace := ["math/bits.Add64"], unfollowed := true, recurses := true, named := ["math/bits.divideError", "math/bits.overflowError"], apart := false }
def BonesRestSaid : Prop := bonesRestRow.holds Try.pinned (OpenSpec.ofChange bonesRestSpec)

/-- ITS FALSE NEIGHBOUR: 'it returns false'. Refute it at one input. -/
def bonesRestWrong : ChangeSpec := { name := "bonesRest", fn := fun _ => fun
  | [d] => { results := [.lit (.bool false)], args := [d] }
  | _ => none }
def BonesRestWrongFalsely : Prop := bonesRestRow.holds Try.pinned (OpenSpec.ofChange bonesRestWrong)

/-- 'tourlaw5.BonesPlay': WHATEVER THE INPUT: true; the input reads as it did. -/
def bonesPlaySpec : ChangeSpec := { name := "bonesPlay", fn := fun _ => fun
  | [d1, d2, d3] => { results := [.lit (.bool true)], args := [d1, d2, d3] }
  | _ => none }
def bonesPlayRow : OpenClaim := { program := "ytfallkiaojefnaa", sum := "15f43960c391098a54e90e053562c2b8dfb7e78b0336159d4186c5546d1f3daa", func := "tourney/tourlaw5.BonesPlay", spec := "bonesPlay", inPlace := ["math/bits.Add64"], unfollowed := true, recurses := true, named := ["math/bits.divideError", "math/bits.overflowError"], apart := false }
def BonesPlaySaid : Prop := bonesPlayRow.holds Try.pinned (OpenSpec.ofChange bonesPlaySpec)

/-- ITS FALSE NEIGHBOUR: 'it returns false'. Refute it at one input. -/
def bonesPlayWrong : ChangeSpec := { name := "bonesPlay", fn := fun _ => fun
  | [d1, d2, d3] => { results := [.lit (.bool false)], args := [d1, d2, d3] }
  | _ => none }
def BonesPlayWrongFalsely : Prop := bonesPlayRow.holds Try.pinned (OpenSpec.ofChange bonesPlayWrong)

/-- 'tourlaw5.BonesTell': WHATEVER THE INPUT: true; the input reads as it did. -/
def bonesTellSpec : ChangeSpec := { name := "bonesTell", fn := fun _ => fun
  | [d1, d2, d3, d4] => { results := [.lit (.bool true)], args := [d1, d2, d3, d4] }
  | _ => none }
def bonesTellRow : OpenClaim := { program := "ytfallkiaojefnaa", sum := "15f43960c391098a54e90e053562c2b8dfb7e78b0336159d4186c5546d1f3daa", func := "tourney/tourlaw5.BonesTell", spec := "bonesTell", inPlace := ["math/bits.Add64"], unfollowed := true, recurses := true, named := ["math/bits.divideError", "math/bits.overflowError"], apart := false }
def BonesTellSaid : Prop := bonesTellRow.holds Try.pinned (OpenSpec.ofChange bonesTellSpec)

/-- ITS FALSE NEIGHBOUR: 'it returns false'. Refute it at one input. -/
def bonesTellWrong : ChangeSpec := { name := "bonesTell", fn := fun _ => fun
  | [d1, d2, d3, d4] => { results := [.lit (.bool false)], args := [d1, d2, d3, d4] }
  | _ => none }
def BonesTellWrongFalsely : Prop := bonesTellRow.holds Try.pinned (OpenSpec.ofChange bonesTellWrong)

/-- 'tourkeep5.BonesLong': WHATEVER THE INPUT: true; the input reads as it did. -/
def bonesLongSpec : ChangeSpec := { name := "bonesLong", fn := fun _ => fun
  | [d1, d2] => { results := [.lit (.bool true)], args := [d1, d2] }
  | _ => none }
def bonesLongRow : OpenClaim := { program := "ytfallkiaojefnaa", sum := "15f43960c391098a54e90e053562c2b8dfb7e78b0336159d4186c5546d1f3daa", func := "tourney/tourkeep5.BonesLong", spec := "bonesLong", inPlace := ["math/bits.Add64"], unfollowed := true, recurses := true, named := ["math/bits.divideError", "math/bits.overflowError"], apart := false }
def BonesLongSaid : Prop := bonesLongRow.holds Try.pinned (OpenSpec.ofChange bonesLongSpec)

/-- ITS FALSE NEIGHBOUR: 'it returns false'. Refute it at one input. -/
def bonesLongWrong : ChangeSpec := { name := "bonesLong", fn := fun _ => fun
  | [d1, d2] => { results := [.lit (.bool false)], args := [d1, d2] }
  | _ => none }
def BonesLongWrongFalsely : Prop := bonesLongRow.holds Try.pinned (OpenSpec.ofChange bonesLongWrong)

/-- 'tourkeep5.BonesBlend': WHATEVER THE INPUT: true; the input reads as it did. -/
def bonesBlendSpec : ChangeSpec := { name := "bonesBlend", fn := fun _ => fun
  | [d1, d2, d3, d4] => { results := [.lit (.bool true)], args := [d1, d2, d3, d4] }
  | _ => none }
def bonesBlendRow : OpenClaim := { program := "ytfallkiaojefnaa", sum := "15f43960c391098a54e90e053562c2b8dfb7e78b0336159d4186c5546d1f3daa", func := "tourney/tourkeep5.BonesBlend", spec := "bonesBlend", inPlace := ["math/bits.Add64"], unfollowed := true, recurses := true, named := ["math/bits.divideError", "math/bits.overflowError"], apart := false }
def BonesBlendSaid : Prop := bonesBlendRow.holds Try.pinned (OpenSpec.ofChange bonesBlendSpec)

/-- ITS FALSE NEIGHBOUR: 'it returns false'. Refute it at one input. -/
def bonesBlendWrong : ChangeSpec := { name := "bonesBlend", fn := fun _ => fun
  | [d1, d2, d3, d4] => { results := [.lit (.bool false)], args := [d1, d2, d3, d4] }
  | _ => none }
def BonesBlendWrongFalsely : Prop := bonesBlendRow.holds Try.pinned (OpenSpec.ofChange bonesBlendWrong)

/- THE SECOND FORM. 'bulk': how many values and letters a reading holds, each counted each time it is reached (what is shared counts as often as it is met; a slice's spare places count too). A statement '..UptoSaid' is the law's where the arguments, and the package variables that the reading takes, are together of bulk at most 1048576: NARROWER than '..Said'. Prove '..Said' where nothing that the law and all that it calls make is longer than what came in: it says more and counts as full. Else prove '..UptoSaid'. A law counts once. -/
mutual
def uptoBulk {H : Type} : DataW H → Nat
  | .lit (.string bytes) => bytes.length + 1
  | .lit _ => 1
  | .nil => 1
  | .ptr d => uptoBulk d + 1
  | .slice elems spare => uptoBulkAll elems + uptoBulkAll spare + 1
  | .agg parts => uptoBulkAll parts + 1
  | .iface _ d => uptoBulk d + 1
  | .map entries => uptoBulkEntries entries + 1
  | .held _ => 1
def uptoBulkAll {H : Type} : List (DataW H) → Nat
  | [] => 0
  | d :: r => uptoBulk d + uptoBulkAll r
def uptoBulkEntries {H : Type} : List (Lit × DataW H) → Nat
  | [] => 0
  | x :: r => uptoBulkEntry x + uptoBulkEntries r
def uptoBulkEntry {H : Type} : Lit × DataW H → Nat
  | (.string bytes, d) => bytes.length + uptoBulk d + 1
  | (_, d) => uptoBulk d + 1
 end
def uptoSmall : (H : Type) → List (DataW H) → Bool := fun _ ds => decide (uptoBulkAll ds ≤ 1048576)
def OpenSpec.upto (s : _root_.Go.ChangeSpec) : _root_.Go.OpenSpec := { _root_.Go.OpenSpec.ofChange s with cond := some uptoSmall }

/-- 'tourkeep5.BonesRest', WHERE WHAT IT READS IS OF BULK AT MOST 1048576: true; the input reads as it did. -/
def bonesRestUptoRow : OpenClaim := { program := "ytfallkiaojefnaa", sum := "15f43960c391098a54e90e053562c2b8dfb7e78b0336159d4186c5546d1f3daa", func := "tourney/tourkeep5.BonesRest", spec := "bonesRest", inPlace := ["math/bits.Add64"], unfollowed := true, recurses := true, named := ["math/bits.divideError", "math/bits.overflowError"], apart := false, narrowed := true }
def BonesRestUptoSaid : Prop := bonesRestUptoRow.holds Try.pinned (OpenSpec.upto bonesRestSpec)

/-- 'tourlaw5.BonesPlay', WHERE WHAT IT READS IS OF BULK AT MOST 1048576: true; the input reads as it did. -/
def bonesPlayUptoRow : OpenClaim := { program := "ytfallkiaojefnaa", sum := "15f43960c391098a54e90e053562c2b8dfb7e78b0336159d4186c5546d1f3daa", func := "tourney/tourlaw5.BonesPlay", spec := "bonesPlay", inPlace := ["math/bits.Add64"], unfollowed := true, recurses := true, named := ["math/bits.divideError", "math/bits.overflowError"], apart := false, narrowed := true }
def BonesPlayUptoSaid : Prop := bonesPlayUptoRow.holds Try.pinned (OpenSpec.upto bonesPlaySpec)

/-- 'tourlaw5.BonesTell', WHERE WHAT IT READS IS OF BULK AT MOST 1048576: true; the input reads as it did. -/
def bonesTellUptoRow : OpenClaim := { program := "ytfallkiaojefnaa", sum := "15f43960c391098a54e90e053562c2b8dfb7e78b0336159d4186c5546d1f3daa", func := "tourney/tourlaw5.BonesTell", spec := "bonesTell", inPlace := ["math/bits.Add64"], unfollowed := true, recurses := true, named := ["math/bits.divideError", "math/bits.overflowError"], apart := false, narrowed := true }
def BonesTellUptoSaid : Prop := bonesTellUptoRow.holds Try.pinned (OpenSpec.upto bonesTellSpec)

/-- 'tourkeep5.BonesLong', WHERE WHAT IT READS IS OF BULK AT MOST 1048576: true; the input reads as it did. -/
def bonesLongUptoRow : OpenClaim := { program := "ytfallkiaojefnaa", sum := "15f43960c391098a54e90e053562c2b8dfb7e78b0336159d4186c5546d1f3daa", func := "tourney/tourkeep5.BonesLong", spec := "bonesLong", inPlace := ["math/bits.Add64"], unfollowed := true, recurses := true, named := ["math/bits.divideError", "math/bits.overflowError"], apart := false, narrowed := true }
def BonesLongUptoSaid : Prop := bonesLongUptoRow.holds Try.pinned (OpenSpec.upto bonesLongSpec)

/-- 'tourkeep5.BonesBlend', WHERE WHAT IT READS IS OF BULK AT MOST 1048576: true; the input reads as it did. -/
def bonesBlendUptoRow : OpenClaim := { program := "ytfallkiaojefnaa", sum := "15f43960c391098a54e90e053562c2b8dfb7e78b0336159d4186c5546d1f3daa", func := "tourney/tourkeep5.BonesBlend", spec := "bonesBlend", inPlace := ["math/bits.Add64"], unfollowed := true, recurses := true, named := ["math/bits.divideError", "math/bits.overflowError"], apart := false, narrowed := true }
def BonesBlendUptoSaid : Prop := bonesBlendUptoRow.holds Try.pinned (OpenSpec.upto bonesBlendSpec)

end Rows
end Go.Proofs.Ytfallkiaojefnaa
