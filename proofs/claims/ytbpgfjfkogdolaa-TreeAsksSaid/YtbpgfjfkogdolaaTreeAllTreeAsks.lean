/- What a tree's walker does, all its functions; tree.Check. Under the conditions that stand at each. -/
import Derived.Test.YtbpgfjfkogdolaaTreeListTreeAsks
import Derived.Test.YtbpgfjfkogdolaaTreeCheckTreeAsks
namespace Go.Proofs.Ytbpgfjfkogdolaa.TreeAllTreeAsks
open Go Go.RowKit Go.Proofs.YtbpgfjfkogdolaaW.PrintWords Go.Proofs.YtbpgfjfkogdolaaW.PrintLast Go.Proofs.YtbpgfjfkogdolaaW.PrintMore Go.Proofs.Ytbpgfjfkogdolaa.PTreeAsks Go.Proofs.Ytbpgfjfkogdolaa.Fnv Go.Proofs.Ytbpgfjfkogdolaa.TreePlainTreeAsks Go.Proofs.Ytbpgfjfkogdolaa.TreeMemTreeAsks Go.Proofs.Ytbpgfjfkogdolaa.TreeTickTreeAsks Go.Proofs.Ytbpgfjfkogdolaa.TreeAgainTreeAsks Go.Proofs.Ytbpgfjfkogdolaa.TreeListTreeAsks Go.Proofs.Ytbpgfjfkogdolaa.TreeRowTreeAsks Go.Proofs.Ytbpgfjfkogdolaa.TreeCheckTreeAsks
set_option linter.unusedVariables false
set_option linter.unusedSimpArgs false
section
variable {σ : Type} {W0 : World} {ok : Nat → Prop} {Inv : World → σ → Prop} {B gW gM : Nat} {av : Value} {an : σ → ByteArray → Int × σ}
theorem tick_all (E : Env W0 ok Inv B gW gM av an) (k : Nat) : Does W0 ok Inv B gW gM av 31 (tickF an k) := by
  suffices h : Does W0 ok Inv B gW gM av 31 (tickF an k) ∧ Does W0 ok Inv B gW gM av 43 (againF an k) ∧ Does W0 ok Inv B gW gM av 44 (listF an k) from h.1
  induction k using Nat.strongRecOn with
  | ind k ih =>
    cases k with
    | zero => exact ⟨fun _ _ _ _ _ _ _ _ _ _ _ _ _ _ _ _ _ hF => absurd hF (by simp [tickF]), fun _ _ _ _ _ _ _ _ _ _ _ _ _ _ _ _ _ hF => absurd hF (by simp [againF]), fun _ _ _ _ _ _ _ _ _ _ _ _ _ _ _ _ _ hF => absurd hF (by simp [listF])⟩
    | succ k =>
      obtain ⟨h1, h2, h3⟩ := ih k (by omega)
      exact ⟨tick_of E k h1 h2 h3, again_of E k h1, list_of E k (fun j hj => (ih j (by omega)).1)⟩
end

set_option maxHeartbeats 8000000 in
set_option maxRecDepth 100000 in
theorem Check_any (k : Nat) (n : Nd) (A3 : Option Addr) (c3 : Nat) {ok : Nat → Prop} {w : World} (hok : ∀ k, ok k → k < w.heap.size) (hT : Tr w ok A3 n.f3) (hc : n.f3.length ≤ c3) {r c2 : Int} (hF : checkF k n 0 = some (r, c2)) :
    Calls Try.prog 14 #[.agg #[.int .i64 n.f0, .string n.f1, .int .i64 n.f2, .slice A3 n.f3.length c3]] w fun e w' => e = .returned (.int .i64 r) ∧ Below w.heap.size w w' := by
  have HT := Aside0.mk hT
  have HC := Aside0.mk hc
  have HF := Aside0.mk hF
  have HOK := Aside0.mk hok
  clear hT hc hF hok
  go_enter Try.func14, Try.ntmps14
  go_wp2_with (first | ((with_reducible refine gate_dst (N := 1) rfl ?_); refine box_event ?hg (N := 1) ?hd (cs := #[.int .i64 n.f0, .string n.f1, .int .i64 n.f2, .slice A3 n.f3.length c3]) (t := 25) ?hr ?_; (case hd => rfl); (case hg => rfl); (case hr => first | (go_simp; done) | (go_simp; rfl)); intro gb hg w1 hbox hb1; have BK := Aside0.mk hbox; have W1 := Aside0.mk hb1; have HG := Aside0.mk hg; clear hg hbox hb1; have cb0 := (blk_cell BK.out 0).trans rfl; have cb1 := (blk_cell BK.out 1).trans rfl; have cb2 := (blk_cell BK.out 2).trans rfl; have cb3 := (blk_cell BK.out 3).trans rfl) | ((with_reducible refine gate_dst (N := 3) rfl ?_); refine box_event ?hg (N := 3) ?hd (cs := #[.int .i64 0]) (t := 3) ?hr ?_; (case hd => rfl); (case hg => rfl); (case hr => first | (go_simp; done) | (go_simp; rfl)); intro gp hg w2 hbox hb1; have BP := Aside0.mk hbox; have W2 := Aside0.mk (Below.trans W1.out (hb1.mono W1.out.size)); have HP := Aside0.mk (show w.heap.size ≤ gp from (by rw [hg]; exact W1.out.size)); have BK2 := Aside0.mk (blk_below BK.out hb1); have NP := Aside0.mk (show gb ≠ gp from (by rw [hg]; exact Nat.ne_of_lt (blk_lt BK.out))); clear hg hbox hb1 cb0 cb1 cb2 cb3; have cb0 := (blk_cell BK2.out 0).trans rfl; have cb1 := (blk_cell BK2.out 1).trans rfl; have cb2 := (blk_cell BK2.out 2).trans rfl; have cb3 := (blk_cell BK2.out 3).trans rfl; have fp := blk_frozen BP.out 0; have cp := (blk_cell BP.out 0).trans rfl; have np := NP.out; have np2 := NP.out.symm) | ((with_reducible refine gate_callee (f := 35) rfl ?_); refine goesL_ (some 5) rfl rfl Try.func35 (by kernel_rfl) rfl #[.agg #[.int .i64 n.f0, .string n.f1, .int .i64 n.f2, .slice A3 n.f3.length c3], .pointer (some ⟨gp, 0, none⟩)] rfl (by (try simp only [zm1, zm2, zm3]); first | done | rfl) ?_; (with_reducible refine (Checks.on (check_all HOK.out HP.out rfl k) n (blk_put BP.out 0 _ rfl) (W2.out.setCell HP.out _) HT.out HC.out HF.out).mono ?_); rintro e w7 ⟨rfl, hP7, hB7, hK7⟩; refine ⟨_, rfl, ?_⟩; have HB7 := Aside0.mk hB7; clear hP7 hB7 hK7))
  go_ret
  exact ⟨rfl, HB7.out⟩
end Go.Proofs.Ytbpgfjfkogdolaa.TreeAllTreeAsks
