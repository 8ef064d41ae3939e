/- The row of the law BonesTell: whatever the arguments, it answers true, and they read as before. Under no condition. -/
import Derived.Test.YtfallkiaojefnaaRows
import Derived.Test.YtfallkiaojefnaaPureBonesTell
import Derived.Test.YtfallkiaojefnaaOpen
import Derived.WalkKit
import Derived.ProofKit
import Derived.OpenShut
import Derived.ShutString
import Derived.ChangeOld
import Derived.Below
import Derived.SizedLaws
namespace Go.Proofs.Ytfallkiaojefnaa.bonesTell
open Go.ChangeShapes Go.WideShapes Go.ChangeAt Go.RowKit Go.Proofs.YtfallkiaojefnaaW.PrintWords Go.Proofs.YtfallkiaojefnaaW.PrintLast Go.Proofs.YtfallkiaojefnaaW.PrintMore Go.Proofs.Ytfallkiaojefnaa.PBonesTell Go.Proofs.Ytfallkiaojefnaa.Opens
open Go.ChangeMaps (open_string shut_string)
set_option linter.unusedVariables false
theorem own : ownKnob Try.prog.godebug = none := by kernel_rfl
theorem laidOut : laidOutB Try.prog = true := by kernel_rfl
theorem o33 (W : World) : Opens Try.prog W 33 k33 (fun s => (Lit.int .i64 s.f0).wf = true ∧ (Lit.int .i64 s.f1).wf = true ∧ (Lit.int .i64 s.f2).wf = true) := opens_mono (opens_iso (fun x : S33 => (x.f0, x.f1, x.f2)) (fun x => ⟨x.1, x.2.1, x.2.2⟩) (fun _ => rfl) (opens_int3 Try.underlying33 (by kernel_rfl) (by kernel_rfl) Try.underlying3)) (fun _ h => h)
theorem o35 (W : World) : Opens Try.prog W 35 k35 (fun s => (fun n => (Lit.int .i64 n).wf = true) s.f0 ∧ (fun s => (Lit.int .i64 s.f0).wf = true ∧ (Lit.int .i64 s.f1).wf = true ∧ (Lit.int .i64 s.f2).wf = true) s.f1) := opens_mono (opens_iso (fun x : S35 => (x.f0, x.f1)) (fun x => ⟨x.1, x.2⟩) (fun _ => rfl) (opens_struct Try.underlying35 (by kernel_rfl) (opensAt_cons rfl (by kernel_rfl) (opens_int (k := .i64) Try.underlying3) (opensAt_one rfl (by kernel_rfl) (o33 W))))) (fun _ h => h)
theorem o24 (W : World) : Opens Try.prog W 24 (Kd.slice 35 k35) (fun xs => xs.length ≤ 9223372036854775807 ∧ ∀ x ∈ xs, (fun s => (fun n => (Lit.int .i64 n).wf = true) s.f0 ∧ (fun s => (Lit.int .i64 s.f0).wf = true ∧ (Lit.int .i64 s.f1).wf = true ∧ (Lit.int .i64 s.f2).wf = true) s.f1) x) := opens_slice 35 Try.underlying24 (by kernel_rfl) (o35 W)
theorem o37 (W : World) : Opens Try.prog W 37 k37 (fun s => (fun n => (Lit.int .i64 n).wf = true) s.f0 ∧ (fun n => (Lit.int .i64 n).wf = true) s.f1 ∧ (fun n => (Lit.int .i64 n).wf = true) s.f2 ∧ (fun n => (Lit.int .i64 n).wf = true) s.f3) := opens_mono (opens_iso (fun x : S37 => (x.f0, x.f1, x.f2, x.f3)) (fun x => ⟨x.1, x.2.1, x.2.2.1, x.2.2.2⟩) (fun _ => rfl) (opens_struct Try.underlying37 (by kernel_rfl) (opensAt_cons rfl (by kernel_rfl) (opens_int (k := .i64) Try.underlying3) (opensAt_cons rfl (by kernel_rfl) (opens_int (k := .i64) Try.underlying3) (opensAt_cons rfl (by kernel_rfl) (opens_int (k := .i64) Try.underlying3) (opensAt_one rfl (by kernel_rfl) (opens_int (k := .i64) Try.underlying3))))))) (fun _ h => h)
theorem o30 (W : World) : Opens Try.prog W 30 (Kd.slice 37 k37) (fun xs => xs.length ≤ 9223372036854775807 ∧ ∀ x ∈ xs, (fun s => (fun n => (Lit.int .i64 n).wf = true) s.f0 ∧ (fun n => (Lit.int .i64 n).wf = true) s.f1 ∧ (fun n => (Lit.int .i64 n).wf = true) s.f2 ∧ (fun n => (Lit.int .i64 n).wf = true) s.f3) x) := opens_slice 37 Try.underlying30 (by kernel_rfl) (o37 W)
set_option maxRecDepth 100000 in
theorem lifted (os : Os) (started : os.Started) (H : Type) (enc : TypeId × Value → H) :
    ReturnsInHanded {} Try.checked os 5 .any (Rows.bonesTellSpec.pre6 enc Try.prog Try.f5 Rows.bonesTellRow.domain false) (Rows.bonesTellSpec.post enc Try.prog Try.f5 false true false false) := by
  refine returnsInHanded_of_change_sized (C := Try.checked) own started (by kernel_rfl) Try.func5
    (ChangeSpec.witness6 (enc := enc) (C := Try.checked) false ⟨#[], #[.slice none 0 0, .slice none 0 0, .slice none 0 0, .int .i64 0], []⟩ 8 (by kernel_rfl) (by kernel_rfl) (by kernel_rfl) (by kernel_rfl)) ?_
  intro W base args ds gs before hval0 hW hcnd hsz0 _
  have hval : ∀ (j : Nat) t v, Try.f5.params[j]? = some t → args[j]? = some v → Value.okWide Try.prog W .any base t v := hval0
  have hW' := hW
  obtain ⟨p, q, hA0, hV, rfl, hfz, hnd⟩ := hW
  have hA : DataW.TrodAll enc Try.prog W 0 (fun _ => true) true Try.f5.params.toList args.toList ds p := hA0
  rw [Try.params5] at hA hval
  obtain ⟨v0, vs0, d0, ds0, p0, q0, hargs, rfl, rfl, h0, r0⟩ := trodAll_cons hA
  obtain ⟨v1, vs1, d1, ds1, p1, q1, rfl, rfl, rfl, h1, r1⟩ := trodAll_cons r0
  obtain ⟨v2, vs2, d2, ds2, p2, q2, rfl, rfl, rfl, h2, r2⟩ := trodAll_cons r1
  obtain ⟨v3, vs3, d3, ds3, p3, q3, rfl, rfl, rfl, h3, r3⟩ := trodAll_cons r2
  obtain ⟨rfl, rfl, rfl⟩ := trodAll_nil r3
  obtain rfl : args = #[v0, v1, v2, v3] := by cases args; simp_all
  obtain ⟨rfl, rfl⟩ := trodVars_none hV
  have k0' := h0
  have lt0 : ∀ x ∈ p0, x.block < W.heap.size := by obtain ⟨m, hm⟩ := k0'; exact DataW.trod_lt m _ _ _ hm
  obtain ⟨fu0, hf0⟩ := h0
  obtain ⟨x0, hK0, ok0⟩ := (o24 W) H enc 0 (fun _ => true) true fu0 _ _ hf0
  obtain ⟨A0, n0, c0, rfl⟩ := okWide_slice Try.underlying24 (hval 0 24 v0 rfl rfl)
  obtain ⟨A0', c0', e0, hc0, hr0⟩ := hK0
  obtain ⟨rfl, rfl, rfl⟩ : A0 = A0' ∧ n0 = x0.length ∧ c0 = c0' := by injection e0 with e _; injection e with e1 e2 e3; exact ⟨e1, e2, e3⟩
  have k1' := h1
  have lt1 : ∀ x ∈ p1, x.block < W.heap.size := by obtain ⟨m, hm⟩ := k1'; exact DataW.trod_lt m _ _ _ hm
  obtain ⟨fu1, hf1⟩ := h1
  obtain ⟨x1, hK1, ok1⟩ := (o30 W) H enc 0 (fun _ => true) true fu1 _ _ hf1
  obtain ⟨A1, n1, c1, rfl⟩ := okWide_slice Try.underlying30 (hval 1 30 v1 rfl rfl)
  obtain ⟨A1', c1', e1, hc1, hr1⟩ := hK1
  obtain ⟨rfl, rfl, rfl⟩ : A1 = A1' ∧ n1 = x1.length ∧ c1 = c1' := by injection e1 with e _; injection e with e1 e2 e3; exact ⟨e1, e2, e3⟩
  have k2' := h2
  have lt2 : ∀ x ∈ p2, x.block < W.heap.size := by obtain ⟨m, hm⟩ := k2'; exact DataW.trod_lt m _ _ _ hm
  obtain ⟨fu2, hf2⟩ := h2
  obtain ⟨x2, hK2, ok2⟩ := (o30 W) H enc 0 (fun _ => true) true fu2 _ _ hf2
  obtain ⟨A2, n2, c2, rfl⟩ := okWide_slice Try.underlying30 (hval 2 30 v2 rfl rfl)
  obtain ⟨A2', c2', e2, hc2, hr2⟩ := hK2
  obtain ⟨rfl, rfl, rfl⟩ : A2 = A2' ∧ n2 = x2.length ∧ c2 = c2' := by injection e2 with e _; injection e with e1 e2 e3; exact ⟨e1, e2, e3⟩
  have k3' := h3
  have lt3 : ∀ x ∈ p3, x.block < W.heap.size := by obtain ⟨m, hm⟩ := k3'; exact DataW.trod_lt m _ _ _ hm
  obtain ⟨fu3, hf3⟩ := h3
  obtain ⟨x3, hK3, ok3⟩ := (opens_int (k := .i64) Try.underlying3) H enc 0 (fun _ => true) true fu3 _ _ hf3
  obtain ⟨a3, rfl⟩ := okWide_int Try.underlying3 (hval 3 3 v3 rfl rfl)
  obtain rfl : a3 = x3 := by injection hK3 with e _; injection e
  clear hA0 hval0 hsz0
  refine (PureBonesTell.walk A0 c0 x0 hr0 hc0 ok0 A1 c1 x1 hr1 hc1 ok1 A2 c2 x2 hr2 hc2 ok2 a3 ok3).mono fun e W' ⟨he, bel⟩ => ?_
  subst he
  exact ⟨_, rfl, _, _, _, [], _, [], hW', trodAll_mk1 (shut_bool Try.underlying4 _), (trodAll_cons_mk (Below.trod laidOut (by kernel_rfl) (of_decide_eq_true (by kernel_rfl)) k0' bel lt0) (trodAll_cons_mk (Below.trod laidOut (by kernel_rfl) (of_decide_eq_true (by kernel_rfl)) k1' bel lt1) (trodAll_cons_mk (Below.trod laidOut (by kernel_rfl) (of_decide_eq_true (by kernel_rfl)) k2' bel lt2) (trodAll_cons_mk (Below.trod laidOut (by kernel_rfl) (of_decide_eq_true (by kernel_rfl)) k3' bel lt3) trodAll_mk0)))), rfl, bel.frame _, fun h => by cases h⟩
theorem over : Rows.bonesTellRow.holds Try.pinned (OpenSpec.ofChange Rows.bonesTellSpec) :=
  OpenClaim.holds_of_wide 5 Try.f5 rfl rfl rfl rfl rfl rfl rfl ⟨rfl, rfl, rfl, rfl, rfl⟩ rfl rfl rfl rfl rfl (by kernel_rfl) Try.func5 (by kernel_rfl)
    (of_decide_eq_true (by kernel_rfl)) (by unfold Func.isWrapper; first | (rw [if_pos (by decide +kernel)]; kernel_rfl) | (rw [if_neg (by decide +kernel)]; exact ⟨rfl, rfl⟩))
    (fun os started H enc _ => lifted os started H enc)
theorem proved : Rows.BonesTellSaid := over
#print axioms proved
end Go.Proofs.Ytfallkiaojefnaa.bonesTell
namespace Go.Proofs.Ytfallkiaojefnaa
/-- The row, under a short name, for the claim. -/
theorem bonesTell_holds : Rows.BonesTellSaid := bonesTell.proved
end Go.Proofs.Ytfallkiaojefnaa
