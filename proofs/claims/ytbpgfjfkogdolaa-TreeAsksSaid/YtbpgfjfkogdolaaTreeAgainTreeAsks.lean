/- (*walker).again, over what tick does. Under the conditions that stand at it. -/
import Derived.Test.YtbpgfjfkogdolaaTreeTickTreeAsks
namespace Go.Proofs.Ytbpgfjfkogdolaa.TreeAgainTreeAsks
open Go Go.RowKit Go.Proofs.YtbpgfjfkogdolaaW.PrintWords Go.Proofs.YtbpgfjfkogdolaaW.PrintLast Go.Proofs.YtbpgfjfkogdolaaW.PrintMore Go.Proofs.Ytbpgfjfkogdolaa.PTreeAsks Go.Proofs.Ytbpgfjfkogdolaa.Fnv Go.Proofs.Ytbpgfjfkogdolaa.TreePlainTreeAsks Go.Proofs.Ytbpgfjfkogdolaa.TreeMemTreeAsks Go.Proofs.Ytbpgfjfkogdolaa.TreeLeafTreeAsks Go.Proofs.Ytbpgfjfkogdolaa.TreeForgetTreeAsks Go.Proofs.Ytbpgfjfkogdolaa.TreeTickTreeAsks
set_option linter.unusedVariables false
set_option linter.unusedSimpArgs false
variable {σ : Type} {W0 : World} {ok : Nat → Prop} {Inv : World → σ → Prop} {B gW gM : Nat} {av : Value} {an : σ → ByteArray → Int × σ}

theorem cell_mem {w : World} {m : List Int} {s : σ} (h : St Inv B gW gM av w m s) {α : Nat} (hα : α < m.length) : w.cell? ⟨gM, α, none⟩ = some (.int .i64 (rd m α)) := by
  rw [blk_cell h.hm]
  simp [rd, hα]

set_option maxHeartbeats 4000000 in
set_option maxRecDepth 100000 in
theorem again_of (E : Env W0 ok Inv B gW gM av an) (k : Nat) (ht : Does W0 ok Inv B gW gM av 31 (tickF an k)) : Does W0 ok Inv B gW gM av 43 (againF an (k + 1)) := by
  intro n0 n2 n1 A3 c3 n3 a w m s r m2 s2 hS hT hc hm hF
  have HE := Aside0.mk E
  have HS := Aside0.mk hS
  have HT := Aside0.mk hT
  have HC := Aside0.mk hc
  have HM := Aside0.mk hm
  have IT := Aside0.mk ht
  clear E hS hT hc hm ht
  rw [againF] at hF
  dsimp only at hF
  by_cases cl : 0 < n3.length
  · rw [if_pos cl] at hF
    obtain ⟨⟨r1, m1, s1⟩, h1, hF⟩ := Option.bind_eq_some_iff.mp hF
    have H1 := Aside0.mk h1
    have HF := Aside0.mk hF
    clear h1 hF
    obtain ⟨ad, A4, c4, rfl, hc4, hT4, hcell⟩ := HT.out.elem0 cl
    have HC4 := Aside0.mk hc4
    have HT4 := Aside0.mk hT4
    have HX := Aside0.mk hcell
    clear hc4 hT4 hcell
    by_cases c2 : r1 = 2
    · have b3 := beqT c2
      have hF := HF.out
      clear HF
      rw [if_pos c2] at hF
      simp only [Option.some.injEq, Prod.mk.injEq] at hF
      obtain ⟨rfl, rfl, rfl⟩ := hF
      clear c2
      go_enter Try.func43, Try.ntmps43
      go_wp2_with (first | ((with_reducible refine gate_dst (N := 4) rfl ?_); refine box_event ?hg (N := 4) ?hd (cs := #[.int .i64 n0, .string n1, .int .i64 n2, .slice (some ad) n3.length c3]) (t := 25) ?hr ?_; (case hd => rfl); (case hg => rfl); (case hr => first | (go_simp; done) | (go_simp; rfl)); intro gb hg w1 hbox hb1; have BK := Aside0.mk hbox; have HB := Aside0.mk hb1; have HG := Aside0.mk hg; have HS1 := Aside0.mk (HS.out.below HE.out hb1); clear hg hbox hb1; have cb0 := (blk_cell BK.out 0).trans rfl; have cb1 := (blk_cell BK.out 1).trans rfl; have cb2 := (blk_cell BK.out 2).trans rfl; have cb3 := (blk_cell BK.out 3).trans rfl; obtain ⟨x0, x1, x2, x3⟩ := HX.out w1 (HE.out.tree HS1.out.iv); have NG := Aside0.mk (show gb ≠ gM from (by rw [HG.out]; exact Nat.ne_of_gt (blk_lt HS.out.hm))); have BG := Aside0.mk (show B ≤ gb from (by rw [HG.out]; exact HS.out.le))) | ((with_reducible refine gate_callee (f := 31) rfl ?_); refine goesL_ (some 16) rfl rfl Try.func31 (by kernel_rfl) rfl #[.pointer (some ⟨gW, 0, none⟩), .agg #[.int .i64 (rdN n3 0).f0, .string (rdN n3 0).f1, .int .i64 (rdN n3 0).f2, .slice A4 (rdN n3 0).f3.length c4], .int .i64 (wrap64 (a + 1))] rfl (by (try simp only [zm1, zm2, zm3]); first | done | rfl) ?_; (with_reducible refine (Does.on IT.out (rdN n3 0) HS1.out HT4.out HC4.out HM.out H1.out).mono ?_); rintro e w3 ⟨rfl, hS3, hK3⟩; refine ⟨_, rfl, ?_⟩; have HS3 := Aside0.mk hS3; have HK3 := Aside0.mk ((Kp.of (B := B) HB.out).trans hK3); have BK3 := Aside0.mk (hK3.blk BK.out BG.out NG.out); clear hS3 hK3 x0 x1 x2 x3 cb0 cb1 cb2 cb3; have cb0 := (blk_cell BK3.out 0).trans rfl; have cb1 := (blk_cell BK3.out 1).trans rfl; have cb2 := (blk_cell BK3.out 2).trans rfl; have cb3 := (blk_cell BK3.out 3).trans rfl; have cw := (blk_cell HS3.out.hw 0).trans rfl))
      go_ret
      exact ⟨rfl, HS3.out, HK3.out⟩
    · have b3 := beqF c2
      have hF := HF.out
      clear HF
      rw [if_neg c2] at hF
      clear c2
      by_cases c4 : 0 ≤ a ∧ a < m1.length
      · rw [if_pos c4] at hF
        obtain ⟨h0, h1⟩ := c4
        obtain ⟨α, rfl⟩ : ∃ α : Nat, a = α := ⟨a.toNat, by omega⟩
        have h2 : α < m1.length := by omega
        clear h0 h1
        obtain ⟨m4, h4, hF⟩ := Option.bind_eq_some_iff.mp hF
        have H4 := Aside0.mk h4
        clear h4
        by_cases c5 : r1 = 1 ∧ wrap64 (rd m1 α + 1) < n2
        · rw [if_pos c5] at hF
          simp only [Option.some.injEq, Prod.mk.injEq] at hF
          obtain ⟨rfl, rfl, rfl⟩ := hF
          have b4 := beqT c5.1
          have b5 : decide (wrap64 (rd m1 α + 1) < n2) = true := decide_eq_true c5.2
          clear c5
          go_enter Try.func43, Try.ntmps43
          go_wp2_with (first | ((with_reducible refine gate_dst (N := 4) rfl ?_); refine box_event ?hg (N := 4) ?hd (cs := #[.int .i64 n0, .string n1, .int .i64 n2, .slice (some ad) n3.length c3]) (t := 25) ?hr ?_; (case hd => rfl); (case hg => rfl); (case hr => first | (go_simp; done) | (go_simp; rfl)); intro gb hg w1 hbox hb1; have BK := Aside0.mk hbox; have HB := Aside0.mk hb1; have HG := Aside0.mk hg; have HS1 := Aside0.mk (HS.out.below HE.out hb1); clear hg hbox hb1; have cb0 := (blk_cell BK.out 0).trans rfl; have cb1 := (blk_cell BK.out 1).trans rfl; have cb2 := (blk_cell BK.out 2).trans rfl; have cb3 := (blk_cell BK.out 3).trans rfl; obtain ⟨x0, x1, x2, x3⟩ := HX.out w1 (HE.out.tree HS1.out.iv); have NG := Aside0.mk (show gb ≠ gM from (by rw [HG.out]; exact Nat.ne_of_gt (blk_lt HS.out.hm))); have BG := Aside0.mk (show B ≤ gb from (by rw [HG.out]; exact HS.out.le))) | ((with_reducible refine gate_callee (f := 31) rfl ?_); refine goesL_ (some 16) rfl rfl Try.func31 (by kernel_rfl) rfl #[.pointer (some ⟨gW, 0, none⟩), .agg #[.int .i64 (rdN n3 0).f0, .string (rdN n3 0).f1, .int .i64 (rdN n3 0).f2, .slice A4 (rdN n3 0).f3.length c4], .int .i64 (wrap64 ((α : Int) + 1))] rfl (by (try simp only [zm1, zm2, zm3]); first | done | rfl) ?_; (with_reducible refine (Does.on IT.out (rdN n3 0) HS1.out HT4.out HC4.out HM.out H1.out).mono ?_); rintro e w3 ⟨rfl, hS3, hK3⟩; refine ⟨_, rfl, ?_⟩; have HS3 := Aside0.mk hS3; have HK3 := Aside0.mk ((Kp.of (B := B) HB.out).trans hK3); have BK3 := Aside0.mk (hK3.blk BK.out BG.out NG.out); clear hS3 hK3 x0 x1 x2 x3 cb0 cb1 cb2 cb3; have cb0 := (blk_cell BK3.out 0).trans rfl; have cb1 := (blk_cell BK3.out 1).trans rfl; have cb2 := (blk_cell BK3.out 2).trans rfl; have cb3 := (blk_cell BK3.out 3).trans rfl; have cw := (blk_cell HS3.out.hw 0).trans rfl; have cm := cell_mem HS3.out h2) | ((with_reducible refine gate_callee (f := 49) rfl ?_); refine goesL_ (some 30) rfl rfl Try.func49 (by kernel_rfl) rfl #[.pointer (some ⟨gW, 0, none⟩), .agg #[.int .i64 n0, .string n1, .int .i64 n2, .slice (some ad) n3.length c3], .int .i64 (α : Int)] rfl (by (try simp only [zm1, zm2, zm3]); first | done | rfl) ?_; (with_reducible refine (forget_any HE.out k n0 n2 n1 (some ad) c3 n3 (α : Int) HS3.out HT.out HC.out H4.out).mono ?_); rintro e w4 ⟨rfl, hS4, hK4⟩; refine ⟨_, rfl, ?_⟩; have HS4 := Aside0.mk hS4; have HK4 := Aside0.mk (HK3.out.trans hK4); have BK4 := Aside0.mk (hK4.blk BK3.out BG.out NG.out); have h3 : α < m4.length := (by have := HS3.out.len HE.out HS4.out hK4; omega); clear hS4 hK4 cb0 cb1 cb2 cb3 cw cm; have cm := cell_mem HS4.out h3; have fm := blk_frozen HS4.out.hm α; have cb2 := (blk_cell BK4.out 2).trans rfl; have cw := (blk_cell HS4.out.hw 0).trans rfl))
          go_ret
          exact ⟨rfl, HS4.out.set HE.out α _, HK4.out.trans (Kp.set _ _ _)⟩
        · rw [if_neg c5] at hF
          simp only [Option.some.injEq, Prod.mk.injEq] at hF
          obtain ⟨rfl, rfl, rfl⟩ := hF
          have b45 : (r1 == 1) = false ∨ (r1 == 1) = true ∧ decide (wrap64 (rd m1 α + 1) < n2) = false := by
            by_cases d1 : r1 = 1
            · exact .inr ⟨beqT d1, decide_eq_false (fun h => c5 ⟨d1, h⟩)⟩
            · exact .inl (beqF d1)
          clear c5
          rcases b45 with b4 | ⟨b4, b5⟩
          all_goals
            go_enter Try.func43, Try.ntmps43
            go_wp2_with (first | ((with_reducible refine gate_dst (N := 4) rfl ?_); refine box_event ?hg (N := 4) ?hd (cs := #[.int .i64 n0, .string n1, .int .i64 n2, .slice (some ad) n3.length c3]) (t := 25) ?hr ?_; (case hd => rfl); (case hg => rfl); (case hr => first | (go_simp; done) | (go_simp; rfl)); intro gb hg w1 hbox hb1; have BK := Aside0.mk hbox; have HB := Aside0.mk hb1; have HG := Aside0.mk hg; have HS1 := Aside0.mk (HS.out.below HE.out hb1); clear hg hbox hb1; have cb0 := (blk_cell BK.out 0).trans rfl; have cb1 := (blk_cell BK.out 1).trans rfl; have cb2 := (blk_cell BK.out 2).trans rfl; have cb3 := (blk_cell BK.out 3).trans rfl; obtain ⟨x0, x1, x2, x3⟩ := HX.out w1 (HE.out.tree HS1.out.iv); have NG := Aside0.mk (show gb ≠ gM from (by rw [HG.out]; exact Nat.ne_of_gt (blk_lt HS.out.hm))); have BG := Aside0.mk (show B ≤ gb from (by rw [HG.out]; exact HS.out.le))) | ((with_reducible refine gate_callee (f := 31) rfl ?_); refine goesL_ (some 16) rfl rfl Try.func31 (by kernel_rfl) rfl #[.pointer (some ⟨gW, 0, none⟩), .agg #[.int .i64 (rdN n3 0).f0, .string (rdN n3 0).f1, .int .i64 (rdN n3 0).f2, .slice A4 (rdN n3 0).f3.length c4], .int .i64 (wrap64 ((α : Int) + 1))] rfl (by (try simp only [zm1, zm2, zm3]); first | done | rfl) ?_; (with_reducible refine (Does.on IT.out (rdN n3 0) HS1.out HT4.out HC4.out HM.out H1.out).mono ?_); rintro e w3 ⟨rfl, hS3, hK3⟩; refine ⟨_, rfl, ?_⟩; have HS3 := Aside0.mk hS3; have HK3 := Aside0.mk ((Kp.of (B := B) HB.out).trans hK3); have BK3 := Aside0.mk (hK3.blk BK.out BG.out NG.out); clear hS3 hK3 x0 x1 x2 x3 cb0 cb1 cb2 cb3; have cb0 := (blk_cell BK3.out 0).trans rfl; have cb1 := (blk_cell BK3.out 1).trans rfl; have cb2 := (blk_cell BK3.out 2).trans rfl; have cb3 := (blk_cell BK3.out 3).trans rfl; have cw := (blk_cell HS3.out.hw 0).trans rfl; have cm := cell_mem HS3.out h2) | ((with_reducible refine gate_callee (f := 49) rfl ?_); refine goesL_ (some 30) rfl rfl Try.func49 (by kernel_rfl) rfl #[.pointer (some ⟨gW, 0, none⟩), .agg #[.int .i64 n0, .string n1, .int .i64 n2, .slice (some ad) n3.length c3], .int .i64 (α : Int)] rfl (by (try simp only [zm1, zm2, zm3]); first | done | rfl) ?_; (with_reducible refine (forget_any HE.out k n0 n2 n1 (some ad) c3 n3 (α : Int) HS3.out HT.out HC.out H4.out).mono ?_); rintro e w4 ⟨rfl, hS4, hK4⟩; refine ⟨_, rfl, ?_⟩; have HS4 := Aside0.mk hS4; have HK4 := Aside0.mk (HK3.out.trans hK4); have BK4 := Aside0.mk (hK4.blk BK3.out BG.out NG.out); have h3 : α < m4.length := (by have := HS3.out.len HE.out HS4.out hK4; omega); clear hS4 hK4 cb0 cb1 cb2 cb3 cw cm; have cm := cell_mem HS4.out h3; have fm := blk_frozen HS4.out.hm α; have cb2 := (blk_cell BK4.out 2).trans rfl; have cw := (blk_cell HS4.out.hw 0).trans rfl))
            go_ret
            exact ⟨rfl, HS4.out, HK4.out⟩
      · rw [if_neg c4] at hF
        exact absurd hF (by simp)
  · rw [if_neg cl] at hF
    exact absurd hF (by simp)
end Go.Proofs.Ytbpgfjfkogdolaa.TreeAgainTreeAsks
