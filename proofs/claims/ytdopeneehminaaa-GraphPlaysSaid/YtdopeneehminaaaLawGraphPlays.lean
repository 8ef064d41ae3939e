/- The row of the law GraphPlays: whatever the arguments, it answers true, and they read as before. Under no condition. -/
import Derived.Test.YtdopeneehminaaaRows
import Derived.Test.YtdopeneehminaaaGraphPlaysWalkGraphPlays
import Derived.Test.YtdopeneehminaaaOpen
import Derived.WalkKit
import Derived.ProofKit
import Derived.OpenShut
import Derived.ShutString
import Derived.ChangeOld
import Derived.Below
import Derived.SizedLaws
namespace Go.Proofs.Ytdopeneehminaaa.graphPlays
open Go.ChangeShapes Go.WideShapes Go.ChangeAt Go.RowKit Go.Proofs.YtdopeneehminaaaW.PrintWords Go.Proofs.YtdopeneehminaaaW.PrintLast Go.Proofs.YtdopeneehminaaaW.PrintMore Go.Proofs.Ytdopeneehminaaa.PGraphPlays Go.Proofs.Ytdopeneehminaaa.Opens
open Go.ChangeMaps (open_string shut_string)
set_option linter.unusedVariables false
theorem own : ownKnob Try.prog.godebug = none := by kernel_rfl
theorem laidOut : laidOutB Try.prog = true := by kernel_rfl
theorem o67 (W : World) : Opens Try.prog W 67 k67 (fun s => (Lit.int .i64 s.f0).wf = true ∧ (Lit.int .i64 s.f1).wf = true ∧ (Lit.int .i64 s.f2).wf = true) := opens_mono (opens_iso (fun x : S67 => (x.f0, x.f1, x.f2)) (fun x => ⟨x.1, x.2.1, x.2.2⟩) (fun _ => rfl) (opens_int3 Try.underlying67 (by kernel_rfl) (by kernel_rfl) Try.underlying3)) (fun _ h => h)
theorem o64 (W : World) : Opens Try.prog W 64 (Kd.slice 67 k67) (fun xs => xs.length ≤ 9223372036854775807 ∧ ∀ x ∈ xs, (fun s => (Lit.int .i64 s.f0).wf = true ∧ (Lit.int .i64 s.f1).wf = true ∧ (Lit.int .i64 s.f2).wf = true) x) := opens_slice 67 Try.underlying64 (by kernel_rfl) (o67 W)
theorem o27 (W : World) : Opens Try.prog W 27 k27 (fun s => (fun n => (Lit.int .i64 n).wf = true) s.f0 ∧ (fun n => (Lit.int .i64 n).wf = true) s.f1) := opens_mono (opens_iso (fun x : S27 => (x.f0, x.f1)) (fun x => ⟨x.1, x.2⟩) (fun _ => rfl) (opens_struct Try.underlying27 (by kernel_rfl) (opensAt_cons rfl (by kernel_rfl) (opens_int (k := .i64) Try.underlying3) (opensAt_one rfl (by kernel_rfl) (opens_int (k := .i64) Try.underlying3))))) (fun _ h => h)
theorem o52 (W : World) : Opens Try.prog W 52 k52 (fun s => (fun s => (fun n => (Lit.int .i64 n).wf = true) s.f0 ∧ (fun n => (Lit.int .i64 n).wf = true) s.f1) s.f0 ∧ (fun n => (Lit.int .i64 n).wf = true) s.f1 ∧ (fun n => (Lit.int .i64 n).wf = true) s.f2) := opens_mono (opens_iso (fun x : S52 => (x.f0, x.f1, x.f2)) (fun x => ⟨x.1, x.2.1, x.2.2⟩) (fun _ => rfl) (opens_struct Try.underlying52 (by kernel_rfl) (opensAt_cons rfl (by kernel_rfl) (o27 W) (opensAt_cons rfl (by kernel_rfl) (opens_int (k := .i64) Try.underlying3) (opensAt_one rfl (by kernel_rfl) (opens_int (k := .i64) Try.underlying3)))))) (fun _ h => h)
theorem o61 (W : World) : Opens Try.prog W 61 (Kd.slice 52 k52) (fun xs => xs.length ≤ 9223372036854775807 ∧ ∀ x ∈ xs, (fun s => (fun s => (fun n => (Lit.int .i64 n).wf = true) s.f0 ∧ (fun n => (Lit.int .i64 n).wf = true) s.f1) s.f0 ∧ (fun n => (Lit.int .i64 n).wf = true) s.f1 ∧ (fun n => (Lit.int .i64 n).wf = true) s.f2) x) := opens_slice 52 Try.underlying61 (by kernel_rfl) (o52 W)
set_option maxRecDepth 100000 in
theorem lifted (os : Os) (started : os.Started) (H : Type) (enc : TypeId × Value → H) :
    ReturnsInHanded {} Try.checked os 10 .any (Rows.graphPlaysSpec.pre6 enc Try.prog Try.f10 Rows.graphPlaysRow.domain false) (Rows.graphPlaysSpec.post enc Try.prog Try.f10 false true false false) := by
  refine returnsInHanded_of_change_sized (C := Try.checked) own started (by kernel_rfl) Try.func10
    (ChangeSpec.witness6 (enc := enc) (C := Try.checked) false ⟨#[], #[.slice none 0 0, .slice none 0 0], []⟩ 8 (by kernel_rfl) (by kernel_rfl) (by kernel_rfl) (by kernel_rfl)) ?_
  intro W base args ds gs before hval0 hW hcnd hsz0 _
  have hval : ∀ (j : Nat) t v, Try.f10.params[j]? = some t → args[j]? = some v → Value.okWide Try.prog W .any base t v := hval0
  have hW' := hW
  obtain ⟨p, q, hA0, hV, rfl, hfz, hnd⟩ := hW
  have hA : DataW.TrodAll enc Try.prog W 0 (fun _ => true) true Try.f10.params.toList args.toList ds p := hA0
  rw [Try.params10] at hA hval
  obtain ⟨v0, vs0, d0, ds0, p0, q0, hargs, rfl, rfl, h0, r0⟩ := trodAll_cons hA
  obtain ⟨v1, vs1, d1, ds1, p1, q1, rfl, rfl, rfl, h1, r1⟩ := trodAll_cons r0
  obtain ⟨rfl, rfl, rfl⟩ := trodAll_nil r1
  obtain rfl : args = #[v0, v1] := by cases args; simp_all
  obtain ⟨rfl, rfl⟩ := trodVars_none hV
  have k0' := h0
  have lt0 : ∀ x ∈ p0, x.block < W.heap.size := by obtain ⟨m, hm⟩ := k0'; exact DataW.trod_lt m _ _ _ hm
  obtain ⟨fu0, hf0⟩ := h0
  obtain ⟨x0, hK0, ok0⟩ := (o64 W) H enc 0 (fun _ => true) true fu0 _ _ hf0
  obtain ⟨A0, n0, c0, rfl⟩ := okWide_slice Try.underlying64 (hval 0 64 v0 rfl rfl)
  obtain ⟨A0', c0', e0, hc0, hr0⟩ := hK0
  obtain ⟨rfl, rfl, rfl⟩ : A0 = A0' ∧ n0 = x0.length ∧ c0 = c0' := by injection e0 with e _; injection e with e1 e2 e3; exact ⟨e1, e2, e3⟩
  have k1' := h1
  have lt1 : ∀ x ∈ p1, x.block < W.heap.size := by obtain ⟨m, hm⟩ := k1'; exact DataW.trod_lt m _ _ _ hm
  obtain ⟨fu1, hf1⟩ := h1
  obtain ⟨x1, hK1, ok1⟩ := (o61 W) H enc 0 (fun _ => true) true fu1 _ _ hf1
  obtain ⟨A1, n1, c1, rfl⟩ := okWide_slice Try.underlying61 (hval 1 61 v1 rfl rfl)
  obtain ⟨A1', c1', e1, hc1, hr1⟩ := hK1
  obtain ⟨rfl, rfl, rfl⟩ : A1 = A1' ∧ n1 = x1.length ∧ c1 = c1' := by injection e1 with e _; injection e with e1 e2 e3; exact ⟨e1, e2, e3⟩
  clear hA0 hval0 hsz0
  refine (GraphPlaysWalkGraphPlays.walk_ok A0 c0 x0 hr0 hc0 ok0 A1 c1 x1 hr1 hc1 ok1).mono fun e W' ⟨he, bel⟩ => ?_
  subst he
  exact ⟨_, rfl, _, _, _, [], _, [], hW', trodAll_mk1 (shut_bool Try.underlying4 _), (trodAll_cons_mk (Below.trod laidOut (by kernel_rfl) (of_decide_eq_true (by kernel_rfl)) k0' bel lt0) (trodAll_cons_mk (Below.trod laidOut (by kernel_rfl) (of_decide_eq_true (by kernel_rfl)) k1' bel lt1) trodAll_mk0)), rfl, bel.frame _, fun h => by cases h⟩
theorem over : Rows.graphPlaysRow.holds Try.pinned (OpenSpec.ofChange Rows.graphPlaysSpec) :=
  OpenClaim.holds_of_wide 10 Try.f10 rfl rfl rfl rfl rfl rfl rfl ⟨rfl, rfl, rfl, rfl, rfl⟩ rfl rfl rfl rfl rfl (by kernel_rfl) Try.func10 (by kernel_rfl)
    (of_decide_eq_true (by kernel_rfl)) (by unfold Func.isWrapper; first | (rw [if_pos (by decide +kernel)]; kernel_rfl) | (rw [if_neg (by decide +kernel)]; exact ⟨rfl, rfl⟩))
    (fun os started H enc _ => lifted os started H enc)
theorem proved : Rows.GraphPlaysSaid := over
#print axioms proved
end Go.Proofs.Ytdopeneehminaaa.graphPlays
namespace Go.Proofs.Ytdopeneehminaaa
/-- The row, under a short name, for the claim. -/
theorem graphPlays_holds : Rows.GraphPlaysSaid := graphPlays.proved
end Go.Proofs.Ytdopeneehminaaa
