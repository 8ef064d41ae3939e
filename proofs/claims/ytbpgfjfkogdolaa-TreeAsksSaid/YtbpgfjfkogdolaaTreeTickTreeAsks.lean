/- (*walker).tick, over what again and list do. Under the conditions that stand at it. -/
import Derived.Test.YtbpgfjfkogdolaaTreeLeafTreeAsks
import Derived.Test.YtbpgfjfkogdolaaTreeForgetTreeAsks
import Derived.Test.YtbpgfjfkogdolaaTreeCloneTreeAsks
import Derived.Outline
namespace Go.Proofs.Ytbpgfjfkogdolaa.TreeTickTreeAsks
open Go Go.RowKit Go.Proofs.YtbpgfjfkogdolaaW.PrintWords Go.Proofs.YtbpgfjfkogdolaaW.PrintLast Go.Proofs.YtbpgfjfkogdolaaW.PrintMore Go.Proofs.Ytbpgfjfkogdolaa.PTreeAsks Go.Proofs.Ytbpgfjfkogdolaa.Fnv Go.Proofs.Ytbpgfjfkogdolaa.TreePlainTreeAsks Go.Proofs.Ytbpgfjfkogdolaa.TreeMemTreeAsks Go.Proofs.Ytbpgfjfkogdolaa.TreeLeafTreeAsks Go.Proofs.Ytbpgfjfkogdolaa.TreeForgetTreeAsks
set_option linter.unusedVariables false
set_option linter.unusedSimpArgs false
variable {σ : Type} {W0 : World} {ok : Nat → Prop} {Inv : World → σ → Prop} {B gW gM : Nat} {av : Value} {an : σ → ByteArray → Int × σ}

theorem beqT {a b : Int} (h : a = b) : (a == b) = true := beq_iff_eq.mpr h
theorem beqF {a b : Int} (h : ¬ a = b) : (a == b) = false := beq_eq_false_iff_ne.mpr h
/-- What a call of function f does that computes g. -/
def Does (W0 : World) (ok : Nat → Prop) (Inv : World → σ → Prop) (B gW gM : Nat) (av : Value) (f : FuncId) (g : Nd → Int → List Int → σ → Option (Int × List Int × σ)) : Prop :=
  ∀ (n0 n2 : Int) (n1 : ByteArray) (A3 : Option Addr) (c3 : Nat) (n3 : List Nd) (a : Int) (w : World) (m : List Int) (s : σ) (r : Int) (m2 : List Int) (s2 : σ),
    St Inv B gW gM av w m s → Tr W0 ok A3 n3 → n3.length ≤ c3 → m.length ≤ 1000000000 → g ⟨n0, n1, n2, n3⟩ a m s = some (r, m2, s2) →
    Calls Try.prog f #[.pointer (some ⟨gW, 0, none⟩), .agg #[.int .i64 n0, .string n1, .int .i64 n2, .slice A3 n3.length c3], .int .i64 a] w fun e w' => e = .returned (.int .i64 r) ∧ St Inv B gW gM av w' m2 s2 ∧ Kp B gM w w'
theorem Does.run {f : FuncId} {g : Nd → Int → List Int → σ → Option (Int × List Int × σ)} (h : Does W0 ok Inv B gW gM av f g) {n0 n2 : Int} {n1 : ByteArray} {A3 : Option Addr} {c3 : Nat} {n3 : List Nd} {a : Int} {w : World} {m : List Int} {s : σ} {r : Int} {m2 : List Int} {s2 : σ}
    (hS : St Inv B gW gM av w m s) (hT : Tr W0 ok A3 n3) (hc : n3.length ≤ c3) (hm : m.length ≤ 1000000000) (hF : g ⟨n0, n1, n2, n3⟩ a m s = some (r, m2, s2)) :
    Calls Try.prog f #[.pointer (some ⟨gW, 0, none⟩), .agg #[.int .i64 n0, .string n1, .int .i64 n2, .slice A3 n3.length c3], .int .i64 a] w fun e w' => e = .returned (.int .i64 r) ∧ St Inv B gW gM av w' m2 s2 ∧ Kp B gM w w' :=
  h n0 n2 n1 A3 c3 n3 a w m s r m2 s2 hS hT hc hm hF
theorem Does.on {f : FuncId} {g : Nd → Int → List Int → σ → Option (Int × List Int × σ)} (h : Does W0 ok Inv B gW gM av f g) (x : Nd) {A3 : Option Addr} {c3 : Nat} {a : Int} {w : World} {m : List Int} {s : σ} {r : Int} {m2 : List Int} {s2 : σ}
    (hS : St Inv B gW gM av w m s) (hT : Tr W0 ok A3 x.f3) (hc : x.f3.length ≤ c3) (hm : m.length ≤ 1000000000) (hF : g x a m s = some (r, m2, s2)) :
    Calls Try.prog f #[.pointer (some ⟨gW, 0, none⟩), .agg #[.int .i64 x.f0, .string x.f1, .int .i64 x.f2, .slice A3 x.f3.length c3], .int .i64 a] w fun e w' => e = .returned (.int .i64 r) ∧ St Inv B gW gM av w' m2 s2 ∧ Kp B gM w w' := by
  obtain ⟨x0, x1, x2, x3⟩ := x
  exact h x0 x2 x1 A3 c3 x3 a w m s r m2 s2 hS hT hc hm hF

set_option maxHeartbeats 4000000 in
set_option maxRecDepth 100000 in
theorem tick_of (E : Env W0 ok Inv B gW gM av an) (k : Nat)
    (ht : Does W0 ok Inv B gW gM av 31 (tickF an k)) (ha : Does W0 ok Inv B gW gM av 43 (againF an k)) (hl : Does W0 ok Inv B gW gM av 44 (listF an k)) :
    Does W0 ok Inv B gW gM av 31 (tickF an (k + 1)) := by
  intro n0 n2 n1 A3 c3 n3 a w m s r m2 s2 hS hT hc hm hF
  have HE := Aside0.mk E
  have HS := Aside0.mk hS
  have HT := Aside0.mk hT
  have HC := Aside0.mk hc
  have HM := Aside0.mk hm
  have IT := Aside0.mk ht
  have IA := Aside0.mk ha
  have IL := Aside0.mk hl
  clear E hS hT hc hm ht ha hl
  rw [tickF] at hF
  dsimp only at hF
  by_cases c1 : n0 = 1 ∨ n0 = 2
  · rw [if_pos c1] at hF
    simp only [Option.some.injEq, Prod.mk.injEq] at hF
    obtain ⟨rfl, rfl, rfl⟩ := hF
    have b12 : (n0 == 1) = true ∨ (n0 == 1) = false ∧ (n0 == 2) = true := by
      by_cases d1 : n0 = 1
      · exact .inl (beqT d1)
      · exact .inr ⟨beqF d1, beqT (c1.resolve_left d1)⟩
    clear c1
    rcases b12 with b1 | ⟨b1, b2⟩
    all_goals
      go_enter Try.func31, Try.ntmps31
      go_wp2_with (first | ((with_reducible refine gate_dst (N := 4) rfl ?_); refine box_event ?hg (N := 4) ?hd (cs := #[.int .i64 n0, .string n1, .int .i64 n2, .slice A3 n3.length c3]) (t := 25) ?hr ?_; (case hd => rfl); (case hg => rfl); (case hr => first | (go_simp; done) | (go_simp; rfl)); intro gb hg w1 hbox hb1; have BK := Aside0.mk hbox; have HB := Aside0.mk hb1; have HG := Aside0.mk hg; have HS1 := Aside0.mk (HS.out.below HE.out hb1); clear hg hbox hb1; have cb0 := (blk_cell BK.out 0).trans rfl; have cb1 := (blk_cell BK.out 1).trans rfl; have cb2 := (blk_cell BK.out 2).trans rfl; have cb3 := (blk_cell BK.out 3).trans rfl) | ((with_reducible refine gate_callee (f := 42) rfl ?_); refine goesL_ (some 15) rfl rfl Try.func42 (by kernel_rfl) rfl #[.pointer (some ⟨gW, 0, none⟩), .agg #[.int .i64 n0, .string n1, .int .i64 n2, .slice A3 n3.length c3]] rfl (by (try simp only [zm1, zm2, zm3]); first | done | rfl) ?_; (with_reducible refine (leaf_any HE.out n0 n2 n1 A3 n3.length c3 HS1.out).mono ?_); rintro e w3 ⟨rfl, hS3, hK3⟩; refine ⟨_, rfl, ?_⟩; have HS3 := Aside0.mk hS3; have HK3 := Aside0.mk hK3; clear hS3 hK3))
      go_ret
      exact ⟨rfl, HS3.out, (Kp.of HB.out).trans HK3.out⟩
  · rw [if_neg c1] at hF
    have b1 := beqF (fun h => c1 (.inl h))
    have b2 := beqF (fun h => c1 (.inr h))
    clear c1
    by_cases c5 : n0 = 5
    · rw [if_pos c5] at hF
      have b5 := beqT c5
      clear c5
      by_cases cl : 0 < n3.length
      · rw [if_pos cl] at hF
        obtain ⟨⟨r1, m1, s1⟩, h1, hF⟩ := Option.bind_eq_some_iff.mp hF
        have H1 := Aside0.mk h1
        have HF := Aside0.mk hF
        clear h1 hF
        obtain ⟨ad, A4, c4, rfl, hc4, hT4, hcell⟩ := HT.out.elem0 cl
        have HC4 := Aside0.mk hc4
        have HT4 := Aside0.mk hT4
        have HX := Aside0.mk hcell
        clear hc4 hT4 hcell
        by_cases c2 : r1 = 2
        · have b3 := beqT c2
          have hF := HF.out
          clear HF
          rw [if_pos c2] at hF
          simp only [Option.some.injEq, Prod.mk.injEq] at hF
          obtain ⟨rfl, rfl, rfl⟩ := hF
          clear c2
          go_enter Try.func31, Try.ntmps31
          go_wp2_with (first | ((with_reducible refine gate_dst (N := 4) rfl ?_); refine box_event ?hg (N := 4) ?hd (cs := #[.int .i64 n0, .string n1, .int .i64 n2, .slice (some ad) n3.length c3]) (t := 25) ?hr ?_; (case hd => rfl); (case hg => rfl); (case hr => first | (go_simp; done) | (go_simp; rfl)); intro gb hg w1 hbox hb1; have BK := Aside0.mk hbox; have HB := Aside0.mk hb1; have HG := Aside0.mk hg; have HS1 := Aside0.mk (HS.out.below HE.out hb1); clear hg hbox hb1; have cb0 := (blk_cell BK.out 0).trans rfl; have cb1 := (blk_cell BK.out 1).trans rfl; have cb2 := (blk_cell BK.out 2).trans rfl; have cb3 := (blk_cell BK.out 3).trans rfl; obtain ⟨x0, x1, x2, x3⟩ := HX.out w1 (HE.out.tree HS1.out.iv)) | ((with_reducible refine gate_callee (f := 31) rfl ?_); refine goesL_ (some 25) rfl rfl Try.func31 (by kernel_rfl) rfl #[.pointer (some ⟨gW, 0, none⟩), .agg #[.int .i64 (rdN n3 0).f0, .string (rdN n3 0).f1, .int .i64 (rdN n3 0).f2, .slice A4 (rdN n3 0).f3.length c4], .int .i64 (wrap64 (a + 1))] rfl (by (try simp only [zm1, zm2, zm3]); first | done | rfl) ?_; (with_reducible refine (Does.on IT.out (rdN n3 0) HS1.out HT4.out HC4.out HM.out H1.out).mono ?_); rintro e w3 ⟨rfl, hS3, hK3⟩; refine ⟨_, rfl, ?_⟩; have HS3 := Aside0.mk hS3; have HK3 := Aside0.mk hK3; clear hS3 hK3))
          go_ret
          exact ⟨rfl, HS3.out, (Kp.of HB.out).trans HK3.out⟩
        · have b3 := beqF c2
          have hF := HF.out
          clear HF
          rw [if_neg c2] at hF
          simp only [Option.some.injEq, Prod.mk.injEq] at hF
          obtain ⟨rfl, rfl, rfl⟩ := hF
          clear c2
          go_enter Try.func31, Try.ntmps31
          go_wp2_with (first | ((with_reducible refine gate_dst (N := 4) rfl ?_); refine box_event ?hg (N := 4) ?hd (cs := #[.int .i64 n0, .string n1, .int .i64 n2, .slice (some ad) n3.length c3]) (t := 25) ?hr ?_; (case hd => rfl); (case hg => rfl); (case hr => first | (go_simp; done) | (go_simp; rfl)); intro gb hg w1 hbox hb1; have BK := Aside0.mk hbox; have HB := Aside0.mk hb1; have HG := Aside0.mk hg; have HS1 := Aside0.mk (HS.out.below HE.out hb1); clear hg hbox hb1; have cb0 := (blk_cell BK.out 0).trans rfl; have cb1 := (blk_cell BK.out 1).trans rfl; have cb2 := (blk_cell BK.out 2).trans rfl; have cb3 := (blk_cell BK.out 3).trans rfl; obtain ⟨x0, x1, x2, x3⟩ := HX.out w1 (HE.out.tree HS1.out.iv)) | ((with_reducible refine gate_callee (f := 31) rfl ?_); refine goesL_ (some 25) rfl rfl Try.func31 (by kernel_rfl) rfl #[.pointer (some ⟨gW, 0, none⟩), .agg #[.int .i64 (rdN n3 0).f0, .string (rdN n3 0).f1, .int .i64 (rdN n3 0).f2, .slice A4 (rdN n3 0).f3.length c4], .int .i64 (wrap64 (a + 1))] rfl (by (try simp only [zm1, zm2, zm3]); first | done | rfl) ?_; (with_reducible refine (Does.on IT.out (rdN n3 0) HS1.out HT4.out HC4.out HM.out H1.out).mono ?_); rintro e w3 ⟨rfl, hS3, hK3⟩; refine ⟨_, rfl, ?_⟩; have HS3 := Aside0.mk hS3; have HK3 := Aside0.mk hK3; clear hS3 hK3))
          go_ret
          exact ⟨rfl, HS3.out, (Kp.of HB.out).trans HK3.out⟩
      · rw [if_neg cl] at hF
        exact absurd hF (by simp)
    · rw [if_neg c5] at hF
      have b5 := beqF c5
      clear c5
      by_cases c6 : n0 = 6
      · rw [if_pos c6] at hF
        have b6 := beqT c6
        clear c6
        have HF := Aside0.mk hF
        clear hF
        go_enter Try.func31, Try.ntmps31
        go_wp2_with (first | ((with_reducible refine gate_dst (N := 4) rfl ?_); refine box_event ?hg (N := 4) ?hd (cs := #[.int .i64 n0, .string n1, .int .i64 n2, .slice A3 n3.length c3]) (t := 25) ?hr ?_; (case hd => rfl); (case hg => rfl); (case hr => first | (go_simp; done) | (go_simp; rfl)); intro gb hg w1 hbox hb1; have BK := Aside0.mk hbox; have HB := Aside0.mk hb1; have HG := Aside0.mk hg; have HS1 := Aside0.mk (HS.out.below HE.out hb1); clear hg hbox hb1; have cb0 := (blk_cell BK.out 0).trans rfl; have cb1 := (blk_cell BK.out 1).trans rfl; have cb2 := (blk_cell BK.out 2).trans rfl; have cb3 := (blk_cell BK.out 3).trans rfl) | ((with_reducible refine gate_callee (f := 43) rfl ?_); refine goesL_ (some 35) rfl rfl Try.func43 (by kernel_rfl) rfl #[.pointer (some ⟨gW, 0, none⟩), .agg #[.int .i64 n0, .string n1, .int .i64 n2, .slice A3 n3.length c3], .int .i64 a] rfl (by (try simp only [zm1, zm2, zm3]); first | done | rfl) ?_; (with_reducible refine (Does.run IA.out HS1.out HT.out HC.out HM.out HF.out).mono ?_); rintro e w3 ⟨rfl, hS3, hK3⟩; refine ⟨_, rfl, ?_⟩; have HS3 := Aside0.mk hS3; have HK3 := Aside0.mk hK3; clear hS3 hK3))
        go_ret
        exact ⟨rfl, HS3.out, (Kp.of HB.out).trans HK3.out⟩
      · rw [if_neg c6] at hF
        have b6 := beqF c6
        clear c6
        have HF := Aside0.mk hF
        clear hF
        go_enter Try.func31, Try.ntmps31
        go_wp2_with (first | ((with_reducible refine gate_dst (N := 4) rfl ?_); refine box_event ?hg (N := 4) ?hd (cs := #[.int .i64 n0, .string n1, .int .i64 n2, .slice A3 n3.length c3]) (t := 25) ?hr ?_; (case hd => rfl); (case hg => rfl); (case hr => first | (go_simp; done) | (go_simp; rfl)); intro gb hg w1 hbox hb1; have BK := Aside0.mk hbox; have HB := Aside0.mk hb1; have HG := Aside0.mk hg; have HS1 := Aside0.mk (HS.out.below HE.out hb1); clear hg hbox hb1; have cb0 := (blk_cell BK.out 0).trans rfl; have cb1 := (blk_cell BK.out 1).trans rfl; have cb2 := (blk_cell BK.out 2).trans rfl; have cb3 := (blk_cell BK.out 3).trans rfl) | ((with_reducible refine gate_callee (f := 44) rfl ?_); refine goesL_ (some 39) rfl rfl Try.func44 (by kernel_rfl) rfl #[.pointer (some ⟨gW, 0, none⟩), .agg #[.int .i64 n0, .string n1, .int .i64 n2, .slice A3 n3.length c3], .int .i64 a] rfl (by (try simp only [zm1, zm2, zm3]); first | done | rfl) ?_; (with_reducible refine (Does.run IL.out HS1.out HT.out HC.out HM.out HF.out).mono ?_); rintro e w3 ⟨rfl, hS3, hK3⟩; refine ⟨_, rfl, ?_⟩; have HS3 := Aside0.mk hS3; have HK3 := Aside0.mk hK3; clear hS3 hK3))
        go_ret
        exact ⟨rfl, HS3.out, (Kp.of HB.out).trans HK3.out⟩
end Go.Proofs.Ytbpgfjfkogdolaa.TreeTickTreeAsks
