/- The law SoundTells answers true, whatever the program. The condition: as many functions as a slice may have. -/
import Derived.Test.YtkoopdoeehoigaaSoundEndSoundTells
namespace Go.Proofs.Ytkoopdoeehoigaa.PureSoundTells
open Go Go.RowKit Go.Proofs.YtkoopdoeehoigaaW.PrintWords Go.Proofs.YtkoopdoeehoigaaW.PrintLast Go.Proofs.YtkoopdoeehoigaaW.PrintMore Go.Proofs.Ytkoopdoeehoigaa.PSoundTells
set_option linter.unusedVariables false
theorem walk (x : S24) (A : Option Addr) (c : Nat) {W : World} (hc : x.f0.length ≤ c) (hr : k29.C W A x.f0.length x.f0) {p q : Prop} (ok : (x.f0.length ≤ 9223372036854775807 ∧ p) ∧ q) :
    Calls Try.prog 3 #[.agg #[.slice A x.f0.length c, .int .i64 x.f1]] W fun e w' => e = .returned (.bool true) ∧ Below W.heap.size W w' := by
  obtain ⟨k, hk⟩ := Ev.rounds (SoundEndSoundTells.tells x.f0 x.f1 ok.1.1)
  exact tourlaw5_SoundTells.calls k _ _ _ _ true W hr hc hk
end Go.Proofs.Ytkoopdoeehoigaa.PureSoundTells
