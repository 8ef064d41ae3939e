/- The row of the law SteerParts: whatever the arguments, it answers true, and they read as before. Under no condition. -/
import Derived.Test.YtdopeneehminaaaRows
import Derived.Test.YtdopeneehminaaaPureSteerParts
import Derived.Test.YtdopeneehminaaaOpen
import Derived.WalkKit
import Derived.ProofKit
import Derived.OpenShut
import Derived.ShutString
import Derived.ChangeOld
import Derived.Below
import Derived.SizedLaws
namespace Go.Proofs.Ytdopeneehminaaa.steerParts
open Go.ChangeShapes Go.WideShapes Go.ChangeAt Go.RowKit Go.Proofs.YtdopeneehminaaaW.PrintWords Go.Proofs.YtdopeneehminaaaW.PrintLast Go.Proofs.YtdopeneehminaaaW.PrintMore Go.Proofs.Ytdopeneehminaaa.PSteerParts Go.Proofs.Ytdopeneehminaaa.Opens
open Go.ChangeMaps (open_string shut_string)
set_option linter.unusedVariables false
theorem own : ownKnob Try.prog.godebug = none := by kernel_rfl
theorem laidOut : laidOutB Try.prog = true := by kernel_rfl
theorem o27 (W : World) : Opens Try.prog W 27 k27 (fun s => (fun n => (Lit.int .i64 n).wf = true) s.f0 ∧ (fun n => (Lit.int .i64 n).wf = true) s.f1) := opens_mono (opens_iso (fun x : S27 => (x.f0, x.f1)) (fun x => ⟨x.1, x.2⟩) (fun _ => rfl) (opens_struct Try.underlying27 (by kernel_rfl) (opensAt_cons rfl (by kernel_rfl) (opens_int (k := .i64) Try.underlying3) (opensAt_one rfl (by kernel_rfl) (opens_int (k := .i64) Try.underlying3))))) (fun _ h => h)
theorem o29 (W : World) : Opens Try.prog W 29 k29 (fun s => (fun s => (fun n => (Lit.int .i64 n).wf = true) s.f0 ∧ (fun n => (Lit.int .i64 n).wf = true) s.f1) s.f0 ∧ (fun s => (fun n => (Lit.int .i64 n).wf = true) s.f0 ∧ (fun n => (Lit.int .i64 n).wf = true) s.f1) s.f1 ∧ (fun n => (Lit.int .i64 n).wf = true) s.f2 ∧ (fun n => (Lit.int .i64 n).wf = true) s.f3) := opens_mono (opens_iso (fun x : S29 => (x.f0, x.f1, x.f2, x.f3)) (fun x => ⟨x.1, x.2.1, x.2.2.1, x.2.2.2⟩) (fun _ => rfl) (opens_struct Try.underlying29 (by kernel_rfl) (opensAt_cons rfl (by kernel_rfl) (o27 W) (opensAt_cons rfl (by kernel_rfl) (o27 W) (opensAt_cons rfl (by kernel_rfl) (opens_int (k := .i64) Try.underlying3) (opensAt_one rfl (by kernel_rfl) (opens_int (k := .i64) Try.underlying3))))))) (fun _ h => h)
theorem o22 (W : World) : Opens Try.prog W 22 (Kd.slice 29 k29) (fun xs => xs.length ≤ 9223372036854775807 ∧ ∀ x ∈ xs, (fun s => (fun s => (fun n => (Lit.int .i64 n).wf = true) s.f0 ∧ (fun n => (Lit.int .i64 n).wf = true) s.f1) s.f0 ∧ (fun s => (fun n => (Lit.int .i64 n).wf = true) s.f0 ∧ (fun n => (Lit.int .i64 n).wf = true) s.f1) s.f1 ∧ (fun n => (Lit.int .i64 n).wf = true) s.f2 ∧ (fun n => (Lit.int .i64 n).wf = true) s.f3) x) := opens_slice 29 Try.underlying22 (by kernel_rfl) (o29 W)
set_option maxRecDepth 100000 in
theorem lifted (os : Os) (started : os.Started) (H : Type) (enc : TypeId × Value → H) :
    ReturnsInHanded {} Try.checked os 3 .any (Rows.steerPartsSpec.pre6 enc Try.prog Try.f3 Rows.steerPartsRow.domain false) (Rows.steerPartsSpec.post enc Try.prog Try.f3 false true false false) := by
  refine returnsInHanded_of_change_sized (C := Try.checked) own started (by kernel_rfl) Try.func3
    (ChangeSpec.witness6 (enc := enc) (C := Try.checked) false ⟨#[], #[.slice none 0 0, .int .i64 0], []⟩ 8 (by kernel_rfl) (by kernel_rfl) (by kernel_rfl) (by kernel_rfl)) ?_
  intro W base args ds gs before hval0 hW hcnd hsz0 _
  have hval : ∀ (j : Nat) t v, Try.f3.params[j]? = some t → args[j]? = some v → Value.okWide Try.prog W .any base t v := hval0
  have hW' := hW
  obtain ⟨p, q, hA0, hV, rfl, hfz, hnd⟩ := hW
  have hA : DataW.TrodAll enc Try.prog W 0 (fun _ => true) true Try.f3.params.toList args.toList ds p := hA0
  rw [Try.params3] at hA hval
  obtain ⟨v0, vs0, d0, ds0, p0, q0, hargs, rfl, rfl, h0, r0⟩ := trodAll_cons hA
  obtain ⟨v1, vs1, d1, ds1, p1, q1, rfl, rfl, rfl, h1, r1⟩ := trodAll_cons r0
  obtain ⟨rfl, rfl, rfl⟩ := trodAll_nil r1
  obtain rfl : args = #[v0, v1] := by cases args; simp_all
  obtain ⟨rfl, rfl⟩ := trodVars_none hV
  have k0' := h0
  have lt0 : ∀ x ∈ p0, x.block < W.heap.size := by obtain ⟨m, hm⟩ := k0'; exact DataW.trod_lt m _ _ _ hm
  obtain ⟨fu0, hf0⟩ := h0
  obtain ⟨x0, hK0, ok0⟩ := (o22 W) H enc 0 (fun _ => true) true fu0 _ _ hf0
  obtain ⟨A0, n0, c0, rfl⟩ := okWide_slice Try.underlying22 (hval 0 22 v0 rfl rfl)
  obtain ⟨A0', c0', e0, hc0, hr0⟩ := hK0
  obtain ⟨rfl, rfl, rfl⟩ : A0 = A0' ∧ n0 = x0.length ∧ c0 = c0' := by injection e0 with e _; injection e with e1 e2 e3; exact ⟨e1, e2, e3⟩
  have k1' := h1
  have lt1 : ∀ x ∈ p1, x.block < W.heap.size := by obtain ⟨m, hm⟩ := k1'; exact DataW.trod_lt m _ _ _ hm
  obtain ⟨fu1, hf1⟩ := h1
  obtain ⟨x1, hK1, ok1⟩ := (opens_int (k := .i64) Try.underlying3) H enc 0 (fun _ => true) true fu1 _ _ hf1
  obtain ⟨a1, rfl⟩ := okWide_int Try.underlying3 (hval 1 3 v1 rfl rfl)
  obtain rfl : a1 = x1 := by injection hK1 with e _; injection e
  clear hA0 hval0 hsz0
  refine (PureSteerParts.walk A0 c0 x0 hr0 hc0 ok0 a1 ok1).mono fun e W' ⟨he, bel⟩ => ?_
  subst he
  exact ⟨_, rfl, _, _, _, [], _, [], hW', trodAll_mk1 (shut_bool Try.underlying4 _), (trodAll_cons_mk (Below.trod laidOut (by kernel_rfl) (of_decide_eq_true (by kernel_rfl)) k0' bel lt0) (trodAll_cons_mk (Below.trod laidOut (by kernel_rfl) (of_decide_eq_true (by kernel_rfl)) k1' bel lt1) trodAll_mk0)), rfl, bel.frame _, fun h => by cases h⟩
theorem over : Rows.steerPartsRow.holds Try.pinned (OpenSpec.ofChange Rows.steerPartsSpec) :=
  OpenClaim.holds_of_wide 3 Try.f3 rfl rfl rfl rfl rfl rfl rfl ⟨rfl, rfl, rfl, rfl, rfl⟩ rfl rfl rfl rfl rfl (by kernel_rfl) Try.func3 (by kernel_rfl)
    (of_decide_eq_true (by kernel_rfl)) (by unfold Func.isWrapper; first | (rw [if_pos (by decide +kernel)]; kernel_rfl) | (rw [if_neg (by decide +kernel)]; exact ⟨rfl, rfl⟩))
    (fun os started H enc _ => lifted os started H enc)
theorem proved : Rows.SteerPartsSaid := over
#print axioms proved
end Go.Proofs.Ytdopeneehminaaa.steerParts
namespace Go.Proofs.Ytdopeneehminaaa
/-- The row, under a short name, for the claim. -/
theorem steerParts_holds : Rows.SteerPartsSaid := steerParts.proved
end Go.Proofs.Ytdopeneehminaaa
