/- (*walker).leaf: the function that is asked is asked. Under the conditions that stand at it. -/
import Derived.Test.YtbpgfjfkogdolaaTreeMemTreeAsks
namespace Go.Proofs.Ytbpgfjfkogdolaa.TreeLeafTreeAsks
open Go Go.RowKit Go.Proofs.YtbpgfjfkogdolaaW.PrintWords Go.Proofs.YtbpgfjfkogdolaaW.PrintLast Go.Proofs.YtbpgfjfkogdolaaW.PrintMore Go.Proofs.Ytbpgfjfkogdolaa.PTreeAsks Go.Proofs.Ytbpgfjfkogdolaa.Fnv Go.Proofs.Ytbpgfjfkogdolaa.TreePlainTreeAsks Go.Proofs.Ytbpgfjfkogdolaa.TreeMemTreeAsks
set_option linter.unusedVariables false
set_option linter.unusedSimpArgs false
variable {σ : Type} {W0 : World} {ok : Nat → Prop} {Inv : World → σ → Prop} {B gW gM : Nat} {av : Value} {an : σ → ByteArray → Int × σ}

set_option maxHeartbeats 2000000 in
set_option maxRecDepth 100000 in
theorem leaf_any (E : Env W0 ok Inv B gW gM av an) (n0 n2 : Int) (n1 : ByteArray) (A3 : Option Addr) (nk c3 : Nat) {w : World} {m : List Int} {s : σ} (h : St Inv B gW gM av w m s) :
    Calls Try.prog 42 #[.pointer (some ⟨gW, 0, none⟩), .agg #[.int .i64 n0, .string n1, .int .i64 n2, .slice A3 nk c3]] w fun e w' => e = .returned (.int .i64 (leafV n0 (an s n1).1)) ∧ St Inv B gW gM av w' m (an s n1).2 ∧ Kp B gM w w' := by
  obtain ⟨g, lb, fn, rfl, hf, hname, hb, hask⟩ := E.ask
  have HE := Aside0.mk E
  have HS := Aside0.mk h
  have HA := Aside0.mk hask
  clear E h hask
  go_enter Try.func42, Try.ntmps42
  go_wp2_with (first | ((with_reducible refine gate_dst (N := 3) rfl ?_); refine box_event ?hg (N := 3) ?hd (cs := #[.int .i64 n0, .string n1, .int .i64 n2, .slice A3 nk c3]) (t := 25) ?hr ?_; (case hd => rfl); (case hg => rfl); (case hr => first | (go_simp; done) | (go_simp; rfl)); intro gb hg w1 hbox hb1; have BK := Aside0.mk hbox; have HB := Aside0.mk hb1; have HG := Aside0.mk hg; have HS1 := Aside0.mk (HS.out.below HE.out hb1); clear hg hbox hb1))
  have cw := (blk_cell HS1.out.hw 1).trans rfl
  have cb0 := (blk_cell BK.out 0).trans rfl
  have cb1 := (blk_cell BK.out 1).trans rfl
  go_still_tail 6, (by kernel_rfl)
  have HS2 := Aside0.mk (HS1.out.drew HE.out)
  have BK2 := Aside0.mk (blk_drew BK.out)
  clear cw cb0 cb1
  change wpList _ _ _ _ _ w1.drew
  have K2 := Aside0.mk (show Kp B gM w1 w1.drew from Kp.of (Below.refl _ _).drew)
  generalize w1.drew = w2 at *
  by_cases r1 : (an s n1).1 = 1
  all_goals
    have r1b : ((an s n1).1 == 1) = decide ((an s n1).1 = 1) := rfl
    by_cases r2 : (an s n1).1 = 2
    all_goals
     have r2b : ((an s n1).1 == 2) = decide ((an s n1).1 = 2) := rfl
     by_cases r3 : n0 = 2
     all_goals
      have r3b : (n0 == 2) = decide (n0 = 2) := rfl
      simp only [r1, r2, r3, decide_true, decide_false] at r1b r2b r3b
  all_goals
    go_wp2_with (first | ((with_reducible refine gate_fn rfl ?_); refine goesC_ (some 12) rfl rfl hf hname hb #[.string n1] rfl rfl (by (try simp only [zm1, zm2, zm3]); first | done | rfl) ?_; (with_reducible refine (HA.out _ s n1 HS2.out.iv HS2.out.le).mono ?_); rintro e w3 ⟨rfl, hI, hsz, hk⟩; refine ⟨_, rfl, ?_⟩; have HX := Aside0.mk (HS2.out.asked HE.out hI hsz hk); have BK3 := Aside0.mk ((hk gb (by rw [HG.out]; exact HS.out.le) (blk_lt BK2.out)).trans BK2.out); clear hI hsz hk BK2 HS2; have cb := (blk_cell BK3.out 0).trans rfl))
    all_goals
      go_ret
      exact ⟨by unfold leafV; simp_all, HX.out.1, (Kp.of HB.out).trans (K2.out.trans HX.out.2)⟩
end Go.Proofs.Ytbpgfjfkogdolaa.TreeLeafTreeAsks
