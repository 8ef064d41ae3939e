/-
  No cell of these rows narrows 'for every input' (looked for: loops, veiled, ifaces, maps, wideKeys, modest, calm, conditions, laid).
  DERIVED. THE GIVEN ROWS OF THIS SEAT. 6 by the template 'for every input the law returns true; each argument reads behind the call as it read before'; 0 by the template 'total and deterministic' (their statements: YtkoopdoeehoigaaTotals.lean).
  GIVEN WITH THE SEED: the statements are not yours to turn. If you find one false, say at which input.
  Laid BY PROGRAM, IN A SANDBOX (cutbox-rows.mjs): the forced cells as the released guide's own fill.sh prints them over the translation 1d617186088d1c75… (all of the seat's roots in one cut). By AI agents, Wed Nov 11 2026. No macro, syntax, notation, axiom, sorry.
-/
import Derived.Test.YtkoopdoeehoigaaChecked
import GoSem.Claim
import GoSem.ClaimJoined
import GoSem.ClaimMapViews
import Derived.JoinedTies
import Derived.KernelRfl
namespace Go.Proofs.Ytkoopdoeehoigaa
/- THE CELL 'sum', in the pinned program and in every row, IS THE sha256 OF THE DUMP (.gsa) THAT YtkoopdoeehoigaaProg.lean LOADS. Nothing in Lean hashes anything: it is a label: what it is worth is what the hold of that sum in a sandbox is worth. -/
noncomputable def Try.pinned : Pinned := { name := "ytkoopdoeehoigaa", sum := "1d617186088d1c751d77f59e82e5b187b09f1c096a0766f43d39ca5d0ded94b0", checked := Try.checked }
namespace Rows
def none {H : Type} : Left H := { results := [], args := [] }

/-- 'tourlaw5.SoundTells': WHATEVER THE INPUT: true; the input reads as it did. -/
def soundTellsSpec : ChangeSpec := { name := "soundTells", fn := fun _ => fun
  | [d] => { results := [.lit (.bool true)], args := [d] }
  | _ => none }
def soundTellsRow : OpenClaim := { program := "ytkoopdoeehoigaa", sum := "1d617186088d1c751d77f59e82e5b187b09f1c096a0766f43d39ca5d0ded94b0", func := "tourney/tourlaw5.SoundTells", spec := "soundTells", unfollowed := true, recurses := true, apart := false }
def SoundTellsSaid : Prop := soundTellsRow.holds Try.pinned (OpenSpec.ofChange soundTellsSpec)

/-- ITS FALSE NEIGHBOUR: 'it returns false'. Refute it at one input. -/
def soundTellsWrong : ChangeSpec := { name := "soundTells", fn := fun _ => fun
  | [d] => { results := [.lit (.bool false)], args := [d] }
  | _ => none }
def SoundTellsWrongFalsely : Prop := soundTellsRow.holds Try.pinned (OpenSpec.ofChange soundTellsWrong)

/-- 'tourlaw5.VmTells': WHATEVER THE INPUT: true; the input reads as it did. -/
def vmTellsSpec : ChangeSpec := { name := "vmTells", fn := fun _ => fun
  | [d1, d2, d3, d4] => { results := [.lit (.bool true)], args := [d1, d2, d3, d4] }
  | _ => none }
def vmTellsRow : OpenClaim := { program := "ytkoopdoeehoigaa", sum := "1d617186088d1c751d77f59e82e5b187b09f1c096a0766f43d39ca5d0ded94b0", func := "tourney/tourlaw5.VmTells", spec := "vmTells", unfollowed := true, recurses := true, apart := false }
def VmTellsSaid : Prop := vmTellsRow.holds Try.pinned (OpenSpec.ofChange vmTellsSpec)

/-- ITS FALSE NEIGHBOUR: 'it returns false'. Refute it at one input. -/
def vmTellsWrong : ChangeSpec := { name := "vmTells", fn := fun _ => fun
  | [d1, d2, d3, d4] => { results := [.lit (.bool false)], args := [d1, d2, d3, d4] }
  | _ => none }
def VmTellsWrongFalsely : Prop := vmTellsRow.holds Try.pinned (OpenSpec.ofChange vmTellsWrong)

/-- 'tourlaw5.CoRefuses': WHATEVER THE INPUT: true; the input reads as it did. -/
def coRefusesSpec : ChangeSpec := { name := "coRefuses", fn := fun _ => fun
  | [d1, d2, d3] => { results := [.lit (.bool true)], args := [d1, d2, d3] }
  | _ => none }
def coRefusesRow : OpenClaim := { program := "ytkoopdoeehoigaa", sum := "1d617186088d1c751d77f59e82e5b187b09f1c096a0766f43d39ca5d0ded94b0", func := "tourney/tourlaw5.CoRefuses", spec := "coRefuses", unfollowed := true, recurses := true, apart := false }
def CoRefusesSaid : Prop := coRefusesRow.holds Try.pinned (OpenSpec.ofChange coRefusesSpec)

/-- ITS FALSE NEIGHBOUR: 'it returns false'. Refute it at one input. -/
def coRefusesWrong : ChangeSpec := { name := "coRefuses", fn := fun _ => fun
  | [d1, d2, d3] => { results := [.lit (.bool false)], args := [d1, d2, d3] }
  | _ => none }
def CoRefusesWrongFalsely : Prop := coRefusesRow.holds Try.pinned (OpenSpec.ofChange coRefusesWrong)

/-- 'tourkeep5.GcReached': WHATEVER THE INPUT: true; the input reads as it did. -/
def gcReachedSpec : ChangeSpec := { name := "gcReached", fn := fun _ => fun
  | [d1, d2] => { results := [.lit (.bool true)], args := [d1, d2] }
  | _ => none }
def gcReachedRow : OpenClaim := { program := "ytkoopdoeehoigaa", sum := "1d617186088d1c751d77f59e82e5b187b09f1c096a0766f43d39ca5d0ded94b0", func := "tourney/tourkeep5.GcReached", spec := "gcReached", recurses := true, apart := false }
def GcReachedSaid : Prop := gcReachedRow.holds Try.pinned (OpenSpec.ofChange gcReachedSpec)

/-- ITS FALSE NEIGHBOUR: 'it returns false'. Refute it at one input. -/
def gcReachedWrong : ChangeSpec := { name := "gcReached", fn := fun _ => fun
  | [d1, d2] => { results := [.lit (.bool false)], args := [d1, d2] }
  | _ => none }
def GcReachedWrongFalsely : Prop := gcReachedRow.holds Try.pinned (OpenSpec.ofChange gcReachedWrong)

/-- 'tourkeep5.GcAny': WHATEVER THE INPUT: true; the input reads as it did. -/
def gcAnySpec : ChangeSpec := { name := "gcAny", fn := fun _ => fun
  | [d1, d2] => { results := [.lit (.bool true)], args := [d1, d2] }
  | _ => none }
def gcAnyRow : OpenClaim := { program := "ytkoopdoeehoigaa", sum := "1d617186088d1c751d77f59e82e5b187b09f1c096a0766f43d39ca5d0ded94b0", func := "tourney/tourkeep5.GcAny", spec := "gcAny", recurses := true, apart := false }
def GcAnySaid : Prop := gcAnyRow.holds Try.pinned (OpenSpec.ofChange gcAnySpec)

/-- ITS FALSE NEIGHBOUR: 'it returns false'. Refute it at one input. -/
def gcAnyWrong : ChangeSpec := { name := "gcAny", fn := fun _ => fun
  | [d1, d2] => { results := [.lit (.bool false)], args := [d1, d2] }
  | _ => none }
def GcAnyWrongFalsely : Prop := gcAnyRow.holds Try.pinned (OpenSpec.ofChange gcAnyWrong)

/-- 'tourlaw5.GcPlays': WHATEVER THE INPUT: true; the input reads as it did. -/
def gcPlaysSpec : ChangeSpec := { name := "gcPlays", fn := fun _ => fun
  | [d1, d2] => { results := [.lit (.bool true)], args := [d1, d2] }
  | _ => none }
def gcPlaysRow : OpenClaim := { program := "ytkoopdoeehoigaa", sum := "1d617186088d1c751d77f59e82e5b187b09f1c096a0766f43d39ca5d0ded94b0", func := "tourney/tourlaw5.GcPlays", spec := "gcPlays", recurses := true, apart := false }
def GcPlaysSaid : Prop := gcPlaysRow.holds Try.pinned (OpenSpec.ofChange gcPlaysSpec)

/-- ITS FALSE NEIGHBOUR: 'it returns false'. Refute it at one input. -/
def gcPlaysWrong : ChangeSpec := { name := "gcPlays", fn := fun _ => fun
  | [d1, d2] => { results := [.lit (.bool false)], args := [d1, d2] }
  | _ => none }
def GcPlaysWrongFalsely : Prop := gcPlaysRow.holds Try.pinned (OpenSpec.ofChange gcPlaysWrong)

/- THE SECOND FORM. 'bulk': how many values and letters a reading holds, each counted each time it is reached (what is shared counts as often as it is met; a slice's spare places count too). A statement '..UptoSaid' is the law's where the arguments, and the package variables that the reading takes, are together of bulk at most 1048576: NARROWER than '..Said'. Prove '..Said' where nothing that the law and all that it calls make is longer than what came in: it says more and counts as full. Else prove '..UptoSaid'. A law counts once. -/
mutual
def uptoBulk {H : Type} : DataW H → Nat
  | .lit (.string bytes) => bytes.length + 1
  | .lit _ => 1
  | .nil => 1
  | .ptr d => uptoBulk d + 1
  | .slice elems spare => uptoBulkAll elems + uptoBulkAll spare + 1
  | .agg parts => uptoBulkAll parts + 1
  | .iface _ d => uptoBulk d + 1
  | .map entries => uptoBulkEntries entries + 1
  | .held _ => 1
def uptoBulkAll {H : Type} : List (DataW H) → Nat
  | [] => 0
  | d :: r => uptoBulk d + uptoBulkAll r
def uptoBulkEntries {H : Type} : List (Lit × DataW H) → Nat
  | [] => 0
  | x :: r => uptoBulkEntry x + uptoBulkEntries r
def uptoBulkEntry {H : Type} : Lit × DataW H → Nat
  | (.string bytes, d) => bytes.length + uptoBulk d + 1
  | (_, d) => uptoBulk d + 1
 end
def uptoSmall : (H : Type) → List (DataW H) → Bool := fun _ ds => decide (uptoBulkAll ds ≤ 1048576)
def OpenSpec.upto (s : _root_.Go.ChangeSpec) : _root_.Go.OpenSpec := { _root_.Go.OpenSpec.ofChange s with cond := some uptoSmall }

/-- 'tourlaw5.SoundTells', WHERE WHAT IT READS IS OF BULK AT MOST 1048576: true; the input reads as it did. -/
def soundTellsUptoRow : OpenClaim := { program := "ytkoopdoeehoigaa", sum := "1d617186088d1c751d77f59e82e5b187b09f1c096a0766f43d39ca5d0ded94b0", func := "tourney/tourlaw5.SoundTells", spec := "soundTells", unfollowed := true, recurses := true, apart := false, narrowed := true }
def SoundTellsUptoSaid : Prop := soundTellsUptoRow.holds Try.pinned (OpenSpec.upto soundTellsSpec)

/-- 'tourlaw5.VmTells', WHERE WHAT IT READS IS OF BULK AT MOST 1048576: true; the input reads as it did. -/
def vmTellsUptoRow : OpenClaim := { program := "ytkoopdoeehoigaa", sum := "1d617186088d1c751d77f59e82e5b187b09f1c096a0766f43d39ca5d0ded94b0", func := "tourney/tourlaw5.VmTells", spec := "vmTells", unfollowed := true, recurses := true, apart := false, narrowed := true }
def VmTellsUptoSaid : Prop := vmTellsUptoRow.holds Try.pinned (OpenSpec.upto vmTellsSpec)

/-- 'tourlaw5.CoRefuses', WHERE WHAT IT READS IS OF BULK AT MOST 1048576: true; the input reads as it did. -/
def coRefusesUptoRow : OpenClaim := { program := "ytkoopdoeehoigaa", sum := "1d617186088d1c751d77f59e82e5b187b09f1c096a0766f43d39ca5d0ded94b0", func := "tourney/tourlaw5.CoRefuses", spec := "coRefuses", unfollowed := true, recurses := true, apart := false, narrowed := true }
def CoRefusesUptoSaid : Prop := coRefusesUptoRow.holds Try.pinned (OpenSpec.upto coRefusesSpec)

/-- 'tourkeep5.GcReached', WHERE WHAT IT READS IS OF BULK AT MOST 1048576: true; the input reads as it did. -/
def gcReachedUptoRow : OpenClaim := { program := "ytkoopdoeehoigaa", sum := "1d617186088d1c751d77f59e82e5b187b09f1c096a0766f43d39ca5d0ded94b0", func := "tourney/tourkeep5.GcReached", spec := "gcReached", recurses := true, apart := false, narrowed := true }
def GcReachedUptoSaid : Prop := gcReachedUptoRow.holds Try.pinned (OpenSpec.upto gcReachedSpec)

/-- 'tourkeep5.GcAny', WHERE WHAT IT READS IS OF BULK AT MOST 1048576: true; the input reads as it did. -/
def gcAnyUptoRow : OpenClaim := { program := "ytkoopdoeehoigaa", sum := "1d617186088d1c751d77f59e82e5b187b09f1c096a0766f43d39ca5d0ded94b0", func := "tourney/tourkeep5.GcAny", spec := "gcAny", recurses := true, apart := false, narrowed := true }
def GcAnyUptoSaid : Prop := gcAnyUptoRow.holds Try.pinned (OpenSpec.upto gcAnySpec)

/-- 'tourlaw5.GcPlays', WHERE WHAT IT READS IS OF BULK AT MOST 1048576: true; the input reads as it did. -/
def gcPlaysUptoRow : OpenClaim := { program := "ytkoopdoeehoigaa", sum := "1d617186088d1c751d77f59e82e5b187b09f1c096a0766f43d39ca5d0ded94b0", func := "tourney/tourlaw5.GcPlays", spec := "gcPlays", recurses := true, apart := false, narrowed := true }
def GcPlaysUptoSaid : Prop := gcPlaysUptoRow.holds Try.pinned (OpenSpec.upto gcPlaysSpec)

end Rows
end Go.Proofs.Ytkoopdoeehoigaa
