/- The law FlowTells answers true, whatever the grid, the goals, the cell and the way. The condition: at most 1048576 goals. -/
import Derived.Test.YtmpfboilodlfnaaTellsLawFlowTells
namespace Go.Proofs.Ytmpfboilodlfnaa.PureFlowTells
open Go Go.RowKit Go.Proofs.YtmpfboilodlfnaaW.PrintWords Go.Proofs.YtmpfboilodlfnaaW.PrintLast Go.Proofs.YtmpfboilodlfnaaW.PrintMore Go.Proofs.Ytmpfboilodlfnaa.PFlowTells
set_option linter.unusedVariables false
theorem walk (x : S25) (A : Option Addr) (c : Nat) {W : World} (hc : x.f2.length ≤ c) (hr : (Kd.int .i64).C W A x.f2.length x.f2) {p : Prop} (_ : p) (A1 : Option Addr) (c1 : Nat) (l1 : List Int) (hr1 : Kd.C (Kd.int .i64) W A1 l1.length l1) (hc1 : l1.length ≤ c1) {q : Prop} (_ : q) (hb : l1.length ≤ 1048576) (a2 : Int) (_ : (Lit.int .i64 a2).wf = true) (a3 : Int) (_ : (Lit.int .i64 a3).wf = true) :
    Calls Try.prog 6 #[.agg #[.int .i64 x.f0, .int .i64 x.f1, .slice A x.f2.length c], .slice A1 l1.length c1, .int .i64 a2, .int .i64 a3] W fun e w' => e = .returned (.bool true) ∧ Below W.heap.size W w' := by
  obtain ⟨k, hk⟩ := Ev.rounds (TellsLawFlowTells.tells x.f0 x.f1 x.f2 l1 (by omega) a2 a3)
  exact tourlaw5_FlowTells.calls k _ _ _ _ _ _ _ _ _ _ true W hr hc hr1 hc1 hk
end Go.Proofs.Ytmpfboilodlfnaa.PureFlowTells
