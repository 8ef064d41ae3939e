/- The row of the law CullLess: whatever the arguments, it answers true, and they read as before. Under no condition. -/
import Derived.Test.YtijochlkmkmhdaaRows
import Derived.Test.YtijochlkmkmhdaaLessWalkCullLess
import Derived.Test.YtijochlkmkmhdaaOpen
import Derived.WalkKit
import Derived.ProofKit
import Derived.OpenShut
import Derived.ShutString
import Derived.ChangeOld
import Derived.Below
import Derived.SizedLaws
namespace Go.Proofs.Ytijochlkmkmhdaa.cullLess
open Go.ChangeShapes Go.WideShapes Go.ChangeAt Go.RowKit Go.Proofs.YtijochlkmkmhdaaW.PrintWords Go.Proofs.YtijochlkmkmhdaaW.PrintLast Go.Proofs.YtijochlkmkmhdaaW.PrintMore Go.Proofs.Ytijochlkmkmhdaa.PCullLess Go.Proofs.Ytijochlkmkmhdaa.Opens
open Go.ChangeMaps (open_string shut_string)
set_option linter.unusedVariables false
theorem own : ownKnob Try.prog.godebug = none := by kernel_rfl
theorem laidOut : laidOutB Try.prog = true := by kernel_rfl
theorem o34 (W : World) : Opens Try.prog W 34 (Kd.slice 3 (Kd.int .i64)) (fun xs => xs.length ≤ 9223372036854775807 ∧ ∀ x ∈ xs, (fun n => (Lit.int .i64 n).wf = true) x) := opens_slice 3 Try.underlying34 (by kernel_rfl) (opens_int (k := .i64) Try.underlying3)
theorem o46 (W : World) : Opens Try.prog W 46 k46 (fun s => (fun n => (Lit.int .i64 n).wf = true) s.f0 ∧ (fun n => (Lit.int .i64 n).wf = true) s.f1) := opens_mono (opens_iso (fun x : S46 => (x.f0, x.f1)) (fun x => ⟨x.1, x.2⟩) (fun _ => rfl) (opens_struct Try.underlying46 (by kernel_rfl) (opensAt_cons rfl (by kernel_rfl) (opens_int (k := .i64) Try.underlying3) (opensAt_one rfl (by kernel_rfl) (opens_int (k := .i64) Try.underlying3))))) (fun _ h => h)
theorem o57 (W : World) : Opens Try.prog W 57 k57 (fun s => (fun s => (fun n => (Lit.int .i64 n).wf = true) s.f0 ∧ (fun n => (Lit.int .i64 n).wf = true) s.f1) s.f0 ∧ (fun s => (fun n => (Lit.int .i64 n).wf = true) s.f0 ∧ (fun n => (Lit.int .i64 n).wf = true) s.f1) s.f1) := opens_mono (opens_iso (fun x : S57 => (x.f0, x.f1)) (fun x => ⟨x.1, x.2⟩) (fun _ => rfl) (opens_struct Try.underlying57 (by kernel_rfl) (opensAt_cons rfl (by kernel_rfl) (o46 W) (opensAt_one rfl (by kernel_rfl) (o46 W))))) (fun _ h => h)
set_option maxRecDepth 100000 in
theorem lifted (os : Os) (started : os.Started) (H : Type) (enc : TypeId × Value → H) :
    ReturnsInHanded {} Try.checked os 10 .any (Rows.cullLessSpec.pre6 enc Try.prog Try.f10 Rows.cullLessRow.domain false) (Rows.cullLessSpec.post enc Try.prog Try.f10 false true false false) := by
  refine returnsInHanded_of_change_sized (C := Try.checked) own started (by kernel_rfl) Try.func10
    (ChangeSpec.witness6 (enc := enc) (C := Try.checked) false ⟨#[], #[.slice none 0 0, .agg #[.int .i64 0, .int .i64 0, .int .i64 0, .int .i64 0], .int .i64 0, .int .i64 0], []⟩ 8 (by kernel_rfl) (by kernel_rfl) (by kernel_rfl) (by kernel_rfl)) ?_
  intro W base args ds gs before hval0 hW hcnd hsz0 _
  have hval : ∀ (j : Nat) t v, Try.f10.params[j]? = some t → args[j]? = some v → Value.okWide Try.prog W .any base t v := hval0
  have hW' := hW
  obtain ⟨p, q, hA0, hV, rfl, hfz, hnd⟩ := hW
  have hA : DataW.TrodAll enc Try.prog W 0 (fun _ => true) true Try.f10.params.toList args.toList ds p := hA0
  rw [Try.params10] at hA hval
  obtain ⟨v0, vs0, d0, ds0, p0, q0, hargs, rfl, rfl, h0, r0⟩ := trodAll_cons hA
  obtain ⟨v1, vs1, d1, ds1, p1, q1, rfl, rfl, rfl, h1, r1⟩ := trodAll_cons r0
  obtain ⟨v2, vs2, d2, ds2, p2, q2, rfl, rfl, rfl, h2, r2⟩ := trodAll_cons r1
  obtain ⟨v3, vs3, d3, ds3, p3, q3, rfl, rfl, rfl, h3, r3⟩ := trodAll_cons r2
  obtain ⟨rfl, rfl, rfl⟩ := trodAll_nil r3
  obtain rfl : args = #[v0, v1, v2, v3] := by cases args; simp_all
  obtain ⟨rfl, rfl⟩ := trodVars_none hV
  have k0' := h0
  have lt0 : ∀ x ∈ p0, x.block < W.heap.size := by obtain ⟨m, hm⟩ := k0'; exact DataW.trod_lt m _ _ _ hm
  obtain ⟨fu0, hf0⟩ := h0
  obtain ⟨x0, hK0, ok0⟩ := (o34 W) H enc 0 (fun _ => true) true fu0 _ _ hf0
  obtain ⟨A0, n0, c0, rfl⟩ := okWide_slice Try.underlying34 (hval 0 34 v0 rfl rfl)
  obtain ⟨A0', c0', e0, hc0, hr0⟩ := hK0
  obtain ⟨rfl, rfl, rfl⟩ : A0 = A0' ∧ n0 = x0.length ∧ c0 = c0' := by injection e0 with e _; injection e with e1 e2 e3; exact ⟨e1, e2, e3⟩
  have k1' := h1
  have lt1 : ∀ x ∈ p1, x.block < W.heap.size := by obtain ⟨m, hm⟩ := k1'; exact DataW.trod_lt m _ _ _ hm
  obtain ⟨fu1, hf1⟩ := h1
  obtain ⟨x1, hK1, ok1⟩ := (o57 W) H enc 0 (fun _ => true) true fu1 _ _ hf1
  obtain ⟨cs1, rfl, sz1⟩ := okWide_struct Try.underlying57 (hval 1 57 v1 rfl rfl)
  have e1 := k57_open hK1
  obtain rfl : cs1 = #[.int .i64 x1.f0.f0, .int .i64 x1.f0.f1, .int .i64 x1.f1.f0, .int .i64 x1.f1.f1] := Array.ext' e1
  have k2' := h2
  have lt2 : ∀ x ∈ p2, x.block < W.heap.size := by obtain ⟨m, hm⟩ := k2'; exact DataW.trod_lt m _ _ _ hm
  obtain ⟨fu2, hf2⟩ := h2
  obtain ⟨x2, hK2, ok2⟩ := (opens_int (k := .i64) Try.underlying3) H enc 0 (fun _ => true) true fu2 _ _ hf2
  obtain ⟨a2, rfl⟩ := okWide_int Try.underlying3 (hval 2 3 v2 rfl rfl)
  obtain rfl : a2 = x2 := by injection hK2 with e _; injection e
  have k3' := h3
  have lt3 : ∀ x ∈ p3, x.block < W.heap.size := by obtain ⟨m, hm⟩ := k3'; exact DataW.trod_lt m _ _ _ hm
  obtain ⟨fu3, hf3⟩ := h3
  obtain ⟨x3, hK3, ok3⟩ := (opens_int (k := .i64) Try.underlying3) H enc 0 (fun _ => true) true fu3 _ _ hf3
  obtain ⟨a3, rfl⟩ := okWide_int Try.underlying3 (hval 3 3 v3 rfl rfl)
  obtain rfl : a3 = x3 := by injection hK3 with e _; injection e
  clear hA0 hval0 hsz0
  refine (LessWalkCullLess.walk A0 c0 x0 hr0 hc0 ok0 x1 ok1 a2 ok2 a3 ok3).mono fun e W' ⟨he, bel⟩ => ?_
  subst he
  exact ⟨_, rfl, _, _, _, [], _, [], hW', trodAll_mk1 (shut_bool Try.underlying4 _), (trodAll_cons_mk (Below.trod laidOut (by kernel_rfl) (of_decide_eq_true (by kernel_rfl)) k0' bel lt0) (trodAll_cons_mk (Below.trod laidOut (by kernel_rfl) (of_decide_eq_true (by kernel_rfl)) k1' bel lt1) (trodAll_cons_mk (Below.trod laidOut (by kernel_rfl) (of_decide_eq_true (by kernel_rfl)) k2' bel lt2) (trodAll_cons_mk (Below.trod laidOut (by kernel_rfl) (of_decide_eq_true (by kernel_rfl)) k3' bel lt3) trodAll_mk0)))), rfl, bel.frame _, fun h => by cases h⟩
theorem over : Rows.cullLessRow.holds Try.pinned (OpenSpec.ofChange Rows.cullLessSpec) :=
  OpenClaim.holds_of_wide 10 Try.f10 rfl rfl rfl rfl rfl rfl rfl ⟨rfl, rfl, rfl, rfl, rfl⟩ rfl rfl rfl rfl rfl (by kernel_rfl) Try.func10 (by kernel_rfl)
    (of_decide_eq_true (by kernel_rfl)) (by unfold Func.isWrapper; first | (rw [if_pos (by decide +kernel)]; kernel_rfl) | (rw [if_neg (by decide +kernel)]; exact ⟨rfl, rfl⟩))
    (fun os started H enc _ => lifted os started H enc)
theorem proved : Rows.CullLessSaid := over
#print axioms proved
end Go.Proofs.Ytijochlkmkmhdaa.cullLess
namespace Go.Proofs.Ytijochlkmkmhdaa
/-- The row, under a short name, for the claim. -/
theorem cullLess_holds : Rows.CullLessSaid := cullLess.proved
end Go.Proofs.Ytijochlkmkmhdaa
