/- slices.Clone of whole numbers, where there are some. Under the conditions that stand at it. -/
import Derived.Test.YtbpgfjfkogdolaaTreeMemTreeAsks
import Derived.WalkSpells
namespace Go.Proofs.Ytbpgfjfkogdolaa.TreeCloneTreeAsks
open Go Go.RowKit Go.Proofs.YtbpgfjfkogdolaaW.PrintWords Go.Proofs.YtbpgfjfkogdolaaW.PrintLast Go.Proofs.YtbpgfjfkogdolaaW.PrintMore Go.Proofs.Ytbpgfjfkogdolaa.PTreeAsks Go.Proofs.Ytbpgfjfkogdolaa.Fnv Go.Proofs.Ytbpgfjfkogdolaa.TreePlainTreeAsks Go.Proofs.Ytbpgfjfkogdolaa.TreeMemTreeAsks
set_option linter.unusedVariables false
set_option linter.unusedSimpArgs false
theorem info3_ : (Try.prog.info? 3).map (fun i => (i.zero, i.size, i.bytes)) = some (some (.int .i64 0), 1, 8) := by kernel_rfl

set_option maxHeartbeats 2000000 in
set_option maxRecDepth 100000 in
theorem clone_any (A : Addr) (l : List Int) (c : Nat) {w : World} (hl : l.length ≤ 1000000000) (hC : Kd.C (Kd.int .i64) w (some A) l.length l) :
    Calls Try.prog 50 #[.slice (some A) l.length c] w fun e w' => ∃ v, e = .returned v ∧ Kd.R (Kd.int .i64) 3 w' w.heap.size (fun k => w.heap.size ≤ k) v l ∧ Below w.heap.size w w' := by
  have HC := Aside0.mk hC
  have HL := Aside0.mk hl
  clear hC hl
  have hn := fun (w : World) => Lib.run_eql_slice_nil (P := Try.prog) w 22 3 (some A) l.length c 0 0 Try.underlying22
  simp only [Option.isNone_some] at hn
  go_enter Try.func50, Try.ntmps50
  go_wp2_with (first | ((with_reducible refine gate_dst (N := 5) rfl ?_); refine Kd.R_lit (Kd.int .i64) w.heap.size 3 ?hg (N := 5) ?hd (xs := ([] : List Int)) (inner := []) (ok := fun k => w.heap.size ≤ k) (okp := fun _ => False) ?hr ?hp (fun _ h => h.elim) (Nat.le_refl _) (Below.refl _ _) (Nat.le_refl _) (by simp) ?_; (case hd => rfl); (case hg => rfl); (case hr => first | (go_simp; done) | (go_simp; rfl)); (case hp => exact Reps.none _ _); intro v1 w1 hR1 hb1 hg1 hx1; have HR1 := Aside0.mk hR1; have HB1 := Aside0.mk hb1; clear hR1 hb1 hg1 hx1) | ((with_reducible refine gate_builtin (b := .append) (xs := #[.tmp 5, .tmp 6]) rfl ?_); at_builtin; refine Kd.R_append_row (Value.int .i64) 0 (w0 := w) w.heap.size rfl (.tmp 5) (.tmp 6) 22 3 (.int .i64 0) 8 rfl Try.underlying22 info3_ rfl (by decide) v1 [] l (some A) l.length c (fun k => w.heap.size ≤ k) rfl rfl (fun k hk => Nat.le_trans HB1.out.size hk) HR1.out (Kd.C_below HC.out HB1.out) HB1.out HB1.out.size (by have := HL.out; simp; omega) ?_; intro v2 w2 hR2 hb2 hg2 hx2; have HR2 := Aside0.mk hR2; have HB2 := Aside0.mk hb2; clear hR2 hb2 hg2 hx2))
  go_ret
  exact ⟨v2, rfl, HR2.out, HB2.out⟩
end Go.Proofs.Ytbpgfjfkogdolaa.TreeCloneTreeAsks
