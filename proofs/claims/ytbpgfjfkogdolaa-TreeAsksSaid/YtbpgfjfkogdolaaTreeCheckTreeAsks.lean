/- tree.check and the reference's TreeFault: what is wrong with a tree, and how many nodes there are. Under the conditions that stand at each. -/
import Derived.Test.YtbpgfjfkogdolaaTreeRowTreeAsks
import Derived.Outline
namespace Go.Proofs.Ytbpgfjfkogdolaa.TreeCheckTreeAsks
open Go Go.RowKit Go.Proofs.Ytbpgfjfkogdolaa.TreeTickTreeAsks Go.Proofs.YtbpgfjfkogdolaaW.PrintWords Go.Proofs.YtbpgfjfkogdolaaW.PrintLast Go.Proofs.YtbpgfjfkogdolaaW.PrintMore Go.Proofs.Ytbpgfjfkogdolaa.PTreeAsks Go.Proofs.Ytbpgfjfkogdolaa.Fnv Go.Proofs.Ytbpgfjfkogdolaa.TreePlainTreeAsks Go.Proofs.Ytbpgfjfkogdolaa.TreeMemTreeAsks Go.Proofs.Ytbpgfjfkogdolaa.TreeRowTreeAsks
set_option linter.unusedVariables false
set_option linter.unusedSimpArgs false

def badV (n : Nd) (c : Int) : Int :=
  if c > 200 then 2 else if n.f0 < 1 ∨ n.f0 > 8 then 1
  else if (n.f0 = 1 ∨ n.f0 = 2) ∧ (0 < n.f3.length ∨ n.f1.size < 1 ∨ 16 < n.f1.size) then 3
  else if (n.f0 = 5 ∨ n.f0 = 6) ∧ n.f3.length ≠ 1 then 3
  else if n.f0 = 6 ∧ (n.f2 < 1 ∨ n.f2 > 1000) then 3 else 0
mutual
def checkF : Nat → Nd → Int → Option (Int × Int)
  | 0, _, _ => none
  | k + 1, n, c => if badV n (wrap64 (c + 1)) = 0 then checkL k n.f3 0 (wrap64 (c + 1)) else some (badV n (wrap64 (c + 1)), wrap64 (c + 1))
def checkL : Nat → List Nd → Int → Int → Option (Int × Int)
  | 0, _, _, _ => none
  | k + 1, l, i, c => if i < l.length then (if 0 ≤ i then (checkF k (rdN l i) c).bind fun x => if x.1 = 0 then checkL k l (wrap64 (i + 1)) x.2 else some x else none) else some (0, c)
end
/-- What a call of f does that checks a tree. -/
def Checks (W0 : World) (ok : Nat → Prop) (B gP : Nat) (f : FuncId) (k : Nat) : Prop :=
  ∀ (n : Nd) (A3 : Option Addr) (c3 : Nat) (w : World) (c r c2 : Int), w.heap[gP]? = some (.cells #[.int .i64 c] 3 (0, 0)) → Below B W0 w → Tr W0 ok A3 n.f3 → n.f3.length ≤ c3 → checkF k n c = some (r, c2) →
    Calls Try.prog f #[.agg #[.int .i64 n.f0, .string n.f1, .int .i64 n.f2, .slice A3 n.f3.length c3], .pointer (some ⟨gP, 0, none⟩)] w fun e w' => e = .returned (.int .i64 r) ∧ w'.heap[gP]? = some (.cells #[.int .i64 c2] 3 (0, 0)) ∧ Below B W0 w' ∧ Kp B gP w w'

theorem Checks.on {W0 : World} {ok : Nat → Prop} {B gP : Nat} {f : FuncId} {k : Nat} (h : Checks W0 ok B gP f k) (n : Nd) {A3 : Option Addr} {c3 : Nat} {w : World} {c r c2 : Int} (hp : w.heap[gP]? = some (.cells #[.int .i64 c] 3 (0, 0))) (hb : Below B W0 w) (hT : Tr W0 ok A3 n.f3) (hc : n.f3.length ≤ c3) (hF : checkF k n c = some (r, c2)) :
    Calls Try.prog f #[.agg #[.int .i64 n.f0, .string n.f1, .int .i64 n.f2, .slice A3 n.f3.length c3], .pointer (some ⟨gP, 0, none⟩)] w fun e w' => e = .returned (.int .i64 r) ∧ w'.heap[gP]? = some (.cells #[.int .i64 c2] 3 (0, 0)) ∧ Below B W0 w' ∧ Kp B gP w w' := h n A3 c3 w c r c2 hp hb hT hc hF
theorem below4 {W0 w : World} {B g : Nat} (h : Below B W0 w) (hg : B ≤ g) (a b c d : Value) : Below B W0 ((((w.setCell ⟨g, 0, none⟩ a).setCell ⟨g, 1, none⟩ b).setCell ⟨g, 2, none⟩ c).setCell ⟨g, 3, none⟩ d) :=
  (((h.setCell (p := ⟨g, 0, none⟩) hg _).setCell (p := ⟨g, 1, none⟩) hg _).setCell (p := ⟨g, 2, none⟩) hg _).setCell (p := ⟨g, 3, none⟩) hg _
set_option maxHeartbeats 8000000 in
set_option maxRecDepth 100000 in
theorem check_of {W0 : World} {ok : Nat → Prop} {B gP : Nat} (hok : ∀ k, ok k → k < B) (hP : B ≤ gP) (hW : W0.heap.size = B) (k : Nat) (ih : ∀ j, j ≤ k → Checks W0 ok B gP 35 j) : Checks W0 ok B gP 35 (k + 1) := by
  intro n A3 c3 w c r c2 hp hb hT hc hF
  obtain ⟨n0, n1, n2, n3⟩ := n
  dsimp only at hT hc ⊢
  obtain ⟨L, hL⟩ : ∃ L, n3.length = L := ⟨_, rfl⟩
  rw [hL] at hc ⊢
  have HL := Aside0.mk hL
  clear hL
  have HP := Aside0.mk hp
  have HB0 := Aside0.mk hb
  have HT := Aside0.mk hT
  have HC := Aside0.mk hc
  have HF := Aside0.mk hF
  have IH := Aside0.mk ih
  have HG := Aside0.mk hP
  have HOK := Aside0.mk hok
  have HBW := Aside0.mk (show B ≤ w.heap.size from by have := blk_lt hp; omega)
  have cp := (blk_cell hp 0).trans rfl
  have fp := blk_frozen hp 0
  clear hp hb hT hc hF ih hP hok
  have hF := HF.out
  clear HF
  rw [checkF] at hF
  obtain ⟨d, hd⟩ : ∃ d, wrap64 (c + 1) = d := ⟨_, rfl⟩
  rw [hd] at hF
  have HD := Aside0.mk hd
  by_cases big : d > 200
  · have hb0 : badV ⟨n0, n1, n2, n3⟩ d = 2 := by unfold badV; rw [if_pos big]
    rw [hb0, if_neg (by omega)] at hF
    simp only [Option.some.injEq, Prod.mk.injEq] at hF
    obtain ⟨rfl, rfl⟩ := hF
    have bb : decide (wrap64 (c + 1) > 200) = true := by rw [hd]; exact decide_eq_true big
    have bb2 : 200 < wrap64 (c + 1) := by rw [hd]; exact big
    clear hd big hb0
    go_enter Try.func35, Try.ntmps35
    go_wp2_with (first | ((with_reducible refine gate_dst (N := 2) rfl ?_); refine box_event ?hg (N := 2) ?hd (cs := #[.int .i64 n0, .string n1, .int .i64 n2, .slice A3 L c3]) (t := 25) ?hr ?_; (case hd => rfl); (case hg => rfl); (case hr => first | (go_simp; done) | (go_simp; rfl)); intro gb hg w1 hbox hb1; have BK := Aside0.mk hbox; have W1 := Aside0.mk hb1; have HGB := Aside0.mk hg; have HP1 := Aside0.mk (blk_below HP.out hb1); have hnb : gb ≠ gP := (by rw [hg]; exact Nat.ne_of_gt (blk_lt HP.out)); have hnc : gP ≠ gb := (fun e => hnb e.symm); clear hg hbox hb1 cp fp; have cb0 := (blk_cell BK.out 0).trans rfl; have cb1 := (blk_cell BK.out 1).trans rfl; have cb2 := (blk_cell BK.out 2).trans rfl; have cb3 := (blk_cell BK.out 3).trans rfl; have cp := (blk_cell HP1.out 0).trans rfl; have fp := blk_frozen HP1.out 0))
    go_ret
    rw [HD.out]
    exact ⟨rfl, blk_put HP1.out 0 _ rfl, (HB0.out.trans (W1.out.mono HBW.out)).setCell HG.out _, (Kp.of W1.out).trans (Kp.set _ _ _)⟩
  · have bb2 : wrap64 (c + 1) ≤ 200 := by rw [hd]; omega
    have HS := Aside0.mk (show d ≤ 200 from by omega)
    clear hd big
    have HF := Aside0.mk hF
    clear hF
    go_enter Try.func35, Try.ntmps35
    go_upto_block 0 with (first | ((with_reducible refine gate_dst (N := 2) rfl ?_); refine box_event ?hg (N := 2) ?hd (cs := #[.int .i64 n0, .string n1, .int .i64 n2, .slice A3 L c3]) (t := 25) ?hr ?_; (case hd => rfl); (case hg => rfl); (case hr => first | (go_simp; done) | (go_simp; rfl)); intro gb hg w1 hbox hb1; have BK := Aside0.mk hbox; have W1 := Aside0.mk hb1; have HGB := Aside0.mk hg; have HP1 := Aside0.mk (blk_below HP.out hb1); have hnb : gb ≠ gP := (by rw [hg]; exact Nat.ne_of_gt (blk_lt HP.out)); have hnc : gP ≠ gb := (fun e => hnb e.symm); clear hg hbox hb1 cp fp; have cb0 := (blk_cell BK.out 0).trans rfl; have cb1 := (blk_cell BK.out 1).trans rfl; have cb2 := (blk_cell BK.out 2).trans rfl; have cb3 := (blk_cell BK.out 3).trans rfl; have cp := (blk_cell HP1.out 0).trans rfl; have fp := blk_frozen HP1.out 0))
    go_cut [4] (fun v4 wc => v4 = .int .i64 0 ∧ Aside0 (badV ⟨n0, n1, n2, n3⟩ d = 0) ∧ wc = w1.setCell ⟨gP, 0, none⟩ (.int .i64 (wrap64 (c + 1))))
    case first =>
      by_cases clo : n0 < 1
      · have Alo := Aside0.mk clo
        have hb0 : badV ⟨n0, n1, n2, n3⟩ d = 1 := by
          have hl := HL.out
          have hd := HS.out
          unfold badV
          dsimp only
          rw [hl]
          (repeat' split) <;> first | rfl | (exfalso; omega)
        have hF := HF.out
        rw [hb0, if_neg (by omega)] at hF
        simp only [Option.some.injEq, Prod.mk.injEq] at hF
        obtain ⟨rfl, rfl⟩ := hF
        clear hb0
        go_wp2
        all_goals first | (exfalso; have hzlo := Alo.out; omega) | (go_ret; exact ⟨rfl, by rw [HD.out]; exact blk_put HP1.out 0 _ rfl, (HB0.out.trans (W1.out.mono HBW.out)).setCell HG.out _, (Kp.of W1.out).trans (Kp.set _ _ _)⟩)
      · have Alo := Aside0.mk clo
        have dlo := Int.not_lt.mp clo
        clear clo
        by_cases chi : n0 > 8
        · have Ahi := Aside0.mk chi
          have hb0 : badV ⟨n0, n1, n2, n3⟩ d = 1 := by
            have hl := HL.out
            have hd := HS.out
            unfold badV
            dsimp only
            rw [hl]
            (repeat' split) <;> first | rfl | (exfalso; omega)
          have hF := HF.out
          rw [hb0, if_neg (by omega)] at hF
          simp only [Option.some.injEq, Prod.mk.injEq] at hF
          obtain ⟨rfl, rfl⟩ := hF
          clear hb0
          go_wp2
          all_goals first | (exfalso; have hzlo := Alo.out; have hzhi := Ahi.out; omega) | (go_ret; exact ⟨rfl, by rw [HD.out]; exact blk_put HP1.out 0 _ rfl, (HB0.out.trans (W1.out.mono HBW.out)).setCell HG.out _, (Kp.of W1.out).trans (Kp.set _ _ _)⟩)
        · have Ahi := Aside0.mk chi
          have dhi := Int.not_lt.mp chi
          clear chi
          by_cases ck1 : n0 = 1
          · have Ak1 := Aside0.mk ck1
            have bk10 : (n0 == 1) = true := beqT ck1
            have bk11 : (n0 != 1) = false := bne_eq_false_iff_eq.mpr ck1
            clear ck1
            by_cases cL0 : 0 < L
            · have AL0 := Aside0.mk cL0
              have bL00 : decide (L = 0) = false := decide_eq_false (by omega)
              have bL01 : decide ((L : Int) > 0) = true := decide_eq_true (by omega)
              have bL02 : ((L : Int) != 0) = true := bne_iff_ne.mpr (by omega)
              have hb0 : badV ⟨n0, n1, n2, n3⟩ d = 3 := by
                have hk1_ := Ak1.out
                have hL0_ := AL0.out
                have hl := HL.out
                have hd := HS.out
                unfold badV
                dsimp only
                rw [hl]
                (repeat' split) <;> first | rfl | (exfalso; omega)
              have hF := HF.out
              rw [hb0, if_neg (by omega)] at hF
              simp only [Option.some.injEq, Prod.mk.injEq] at hF
              obtain ⟨rfl, rfl⟩ := hF
              clear hb0
              go_wp2
              all_goals first | (exfalso; have hzlo := Alo.out; have hzhi := Ahi.out; have hzk1 := Ak1.out; have hzL0 := AL0.out; omega) | (go_ret; exact ⟨rfl, by rw [HD.out]; exact blk_put HP1.out 0 _ rfl, (HB0.out.trans (W1.out.mono HBW.out)).setCell HG.out _, (Kp.of W1.out).trans (Kp.set _ _ _)⟩)
            · have AL0 := Aside0.mk cL0
              have bL00 : decide (L = 0) = true := decide_eq_true (by omega)
              have bL01 : decide ((L : Int) > 0) = false := decide_eq_false (by omega)
              have bL02 : ((L : Int) != 0) = false := bne_eq_false_iff_eq.mpr (by omega)
              have bL0z : L = 0 := by omega
              clear cL0
              subst bL0z
              by_cases cs0 : (n1.size : Int) < 1
              · have As0 := Aside0.mk cs0
                have hb0 : badV ⟨n0, n1, n2, n3⟩ d = 3 := by
                  have hk1_ := Ak1.out
                  have hL0_ := AL0.out
                  have hl := HL.out
                  have hd := HS.out
                  unfold badV
                  dsimp only
                  rw [hl]
                  (repeat' split) <;> first | rfl | (exfalso; omega)
                have hF := HF.out
                rw [hb0, if_neg (by omega)] at hF
                simp only [Option.some.injEq, Prod.mk.injEq] at hF
                obtain ⟨rfl, rfl⟩ := hF
                clear hb0
                go_wp2
                all_goals first | (exfalso; have hzlo := Alo.out; have hzhi := Ahi.out; have hzk1 := Ak1.out; have hzL0 := AL0.out; have hzs0 := As0.out; omega) | (go_ret; exact ⟨rfl, by rw [HD.out]; exact blk_put HP1.out 0 _ rfl, (HB0.out.trans (W1.out.mono HBW.out)).setCell HG.out _, (Kp.of W1.out).trans (Kp.set _ _ _)⟩)
              · have As0 := Aside0.mk cs0
                have ds0 := Int.not_lt.mp cs0
                clear cs0
                by_cases cs16 : (n1.size : Int) > 16
                · have As16 := Aside0.mk cs16
                  have hb0 : badV ⟨n0, n1, n2, n3⟩ d = 3 := by
                    have hk1_ := Ak1.out
                    have hL0_ := AL0.out
                    have hl := HL.out
                    have hd := HS.out
                    unfold badV
                    dsimp only
                    rw [hl]
                    (repeat' split) <;> first | rfl | (exfalso; omega)
                  have hF := HF.out
                  rw [hb0, if_neg (by omega)] at hF
                  simp only [Option.some.injEq, Prod.mk.injEq] at hF
                  obtain ⟨rfl, rfl⟩ := hF
                  clear hb0
                  go_wp2
                  all_goals first | (exfalso; have hzlo := Alo.out; have hzhi := Ahi.out; have hzk1 := Ak1.out; have hzL0 := AL0.out; have hzs0 := As0.out; have hzs16 := As16.out; omega) | (go_ret; exact ⟨rfl, by rw [HD.out]; exact blk_put HP1.out 0 _ rfl, (HB0.out.trans (W1.out.mono HBW.out)).setCell HG.out _, (Kp.of W1.out).trans (Kp.set _ _ _)⟩)
                · have As16 := Aside0.mk cs16
                  have ds16 := Int.not_lt.mp cs16
                  clear cs16
                  have hb0 : badV ⟨n0, n1, n2, n3⟩ d = 0 := by
                    have hk1_ := Ak1.out
                    have hL0_ := AL0.out
                    have hl := HL.out
                    have hd := HS.out
                    unfold badV
                    dsimp only
                    rw [hl]
                    (repeat' split) <;> first | rfl | (exfalso; omega)
                  go_wp2
                  all_goals first | (exfalso; have hzlo := Alo.out; have hzhi := Ahi.out; have hzk1 := Ak1.out; have hzL0 := AL0.out; have hzs0 := As0.out; have hzs16 := As16.out; omega) | (go_meet; exact ⟨rfl, ⟨hb0⟩, rfl⟩)
          · have Ak1 := Aside0.mk ck1
            have bk10 : (n0 == 1) = false := beqF ck1
            clear ck1
            by_cases ck2 : n0 = 2
            · have Ak2 := Aside0.mk ck2
              have bk20 : (n0 == 2) = true := beqT ck2
              clear ck2
              by_cases cL0 : 0 < L
              · have AL0 := Aside0.mk cL0
                have bL00 : decide (L = 0) = false := decide_eq_false (by omega)
                have bL01 : decide ((L : Int) > 0) = true := decide_eq_true (by omega)
                have bL02 : ((L : Int) != 0) = true := bne_iff_ne.mpr (by omega)
                have hb0 : badV ⟨n0, n1, n2, n3⟩ d = 3 := by
                  have hk1_ := Ak1.out
                  have hk2_ := Ak2.out
                  have hL0_ := AL0.out
                  have hl := HL.out
                  have hd := HS.out
                  unfold badV
                  dsimp only
                  rw [hl]
                  (repeat' split) <;> first | rfl | (exfalso; omega)
                have hF := HF.out
                rw [hb0, if_neg (by omega)] at hF
                simp only [Option.some.injEq, Prod.mk.injEq] at hF
                obtain ⟨rfl, rfl⟩ := hF
                clear hb0
                go_wp2
                all_goals first | (exfalso; have hzlo := Alo.out; have hzhi := Ahi.out; have hzk1 := Ak1.out; have hzk2 := Ak2.out; have hzL0 := AL0.out; omega) | (go_ret; exact ⟨rfl, by rw [HD.out]; exact blk_put HP1.out 0 _ rfl, (HB0.out.trans (W1.out.mono HBW.out)).setCell HG.out _, (Kp.of W1.out).trans (Kp.set _ _ _)⟩)
              · have AL0 := Aside0.mk cL0
                have bL00 : decide (L = 0) = true := decide_eq_true (by omega)
                have bL01 : decide ((L : Int) > 0) = false := decide_eq_false (by omega)
                have bL02 : ((L : Int) != 0) = false := bne_eq_false_iff_eq.mpr (by omega)
                have bL0z : L = 0 := by omega
                clear cL0
                subst bL0z
                by_cases cs0 : (n1.size : Int) < 1
                · have As0 := Aside0.mk cs0
                  have hb0 : badV ⟨n0, n1, n2, n3⟩ d = 3 := by
                    have hk1_ := Ak1.out
                    have hk2_ := Ak2.out
                    have hL0_ := AL0.out
                    have hl := HL.out
                    have hd := HS.out
                    unfold badV
                    dsimp only
                    rw [hl]
                    (repeat' split) <;> first | rfl | (exfalso; omega)
                  have hF := HF.out
                  rw [hb0, if_neg (by omega)] at hF
                  simp only [Option.some.injEq, Prod.mk.injEq] at hF
                  obtain ⟨rfl, rfl⟩ := hF
                  clear hb0
                  go_wp2
                  all_goals first | (exfalso; have hzlo := Alo.out; have hzhi := Ahi.out; have hzk1 := Ak1.out; have hzk2 := Ak2.out; have hzL0 := AL0.out; have hzs0 := As0.out; omega) | (go_ret; exact ⟨rfl, by rw [HD.out]; exact blk_put HP1.out 0 _ rfl, (HB0.out.trans (W1.out.mono HBW.out)).setCell HG.out _, (Kp.of W1.out).trans (Kp.set _ _ _)⟩)
                · have As0 := Aside0.mk cs0
                  have ds0 := Int.not_lt.mp cs0
                  clear cs0
                  by_cases cs16 : (n1.size : Int) > 16
                  · have As16 := Aside0.mk cs16
                    have hb0 : badV ⟨n0, n1, n2, n3⟩ d = 3 := by
                      have hk1_ := Ak1.out
                      have hk2_ := Ak2.out
                      have hL0_ := AL0.out
                      have hl := HL.out
                      have hd := HS.out
                      unfold badV
                      dsimp only
                      rw [hl]
                      (repeat' split) <;> first | rfl | (exfalso; omega)
                    have hF := HF.out
                    rw [hb0, if_neg (by omega)] at hF
                    simp only [Option.some.injEq, Prod.mk.injEq] at hF
                    obtain ⟨rfl, rfl⟩ := hF
                    clear hb0
                    go_wp2
                    all_goals first | (exfalso; have hzlo := Alo.out; have hzhi := Ahi.out; have hzk1 := Ak1.out; have hzk2 := Ak2.out; have hzL0 := AL0.out; have hzs0 := As0.out; have hzs16 := As16.out; omega) | (go_ret; exact ⟨rfl, by rw [HD.out]; exact blk_put HP1.out 0 _ rfl, (HB0.out.trans (W1.out.mono HBW.out)).setCell HG.out _, (Kp.of W1.out).trans (Kp.set _ _ _)⟩)
                  · have As16 := Aside0.mk cs16
                    have ds16 := Int.not_lt.mp cs16
                    clear cs16
                    have hb0 : badV ⟨n0, n1, n2, n3⟩ d = 0 := by
                      have hk1_ := Ak1.out
                      have hk2_ := Ak2.out
                      have hL0_ := AL0.out
                      have hl := HL.out
                      have hd := HS.out
                      unfold badV
                      dsimp only
                      rw [hl]
                      (repeat' split) <;> first | rfl | (exfalso; omega)
                    go_wp2
                    all_goals first | (exfalso; have hzlo := Alo.out; have hzhi := Ahi.out; have hzk1 := Ak1.out; have hzk2 := Ak2.out; have hzL0 := AL0.out; have hzs0 := As0.out; have hzs16 := As16.out; omega) | (go_meet; exact ⟨rfl, ⟨hb0⟩, rfl⟩)
            · have Ak2 := Aside0.mk ck2
              have bk20 : (n0 == 2) = false := beqF ck2
              clear ck2
              by_cases ck5 : n0 = 5
              · have Ak5 := Aside0.mk ck5
                have bk50 : (n0 == 5) = true := beqT ck5
                clear ck5
                by_cases cL1 : L ≠ 1
                · have AL1 := Aside0.mk cL1
                  have bL10 : ((L : Int) != 1) = true := bne_iff_ne.mpr (by omega)
                  have hb0 : badV ⟨n0, n1, n2, n3⟩ d = 3 := by
                    have hk1_ := Ak1.out
                    have hk2_ := Ak2.out
                    have hk5_ := Ak5.out
                    have hL1_ := AL1.out
                    have hl := HL.out
                    have hd := HS.out
                    unfold badV
                    dsimp only
                    rw [hl]
                    (repeat' split) <;> first | rfl | (exfalso; omega)
                  have hF := HF.out
                  rw [hb0, if_neg (by omega)] at hF
                  simp only [Option.some.injEq, Prod.mk.injEq] at hF
                  obtain ⟨rfl, rfl⟩ := hF
                  clear hb0
                  go_wp2
                  all_goals first | (exfalso; have hzlo := Alo.out; have hzhi := Ahi.out; have hzk1 := Ak1.out; have hzk2 := Ak2.out; have hzk5 := Ak5.out; have hzL1 := AL1.out; omega) | (go_ret; exact ⟨rfl, by rw [HD.out]; exact blk_put HP1.out 0 _ rfl, (HB0.out.trans (W1.out.mono HBW.out)).setCell HG.out _, (Kp.of W1.out).trans (Kp.set _ _ _)⟩)
                · have AL1 := Aside0.mk cL1
                  have bL10 : ((L : Int) != 1) = false := bne_eq_false_iff_eq.mpr (by omega)
                  have bL1z : L = 1 := by omega
                  clear cL1
                  subst bL1z
                  have hb0 : badV ⟨n0, n1, n2, n3⟩ d = 0 := by
                    have hk1_ := Ak1.out
                    have hk2_ := Ak2.out
                    have hk5_ := Ak5.out
                    have hL1_ := AL1.out
                    have hl := HL.out
                    have hd := HS.out
                    unfold badV
                    dsimp only
                    rw [hl]
                    (repeat' split) <;> first | rfl | (exfalso; omega)
                  go_wp2
                  all_goals first | (exfalso; have hzlo := Alo.out; have hzhi := Ahi.out; have hzk1 := Ak1.out; have hzk2 := Ak2.out; have hzk5 := Ak5.out; have hzL1 := AL1.out; omega) | (go_meet; exact ⟨rfl, ⟨hb0⟩, rfl⟩)
              · have Ak5 := Aside0.mk ck5
                have bk50 : (n0 == 5) = false := beqF ck5
                clear ck5
                by_cases ck6 : n0 = 6
                · have Ak6 := Aside0.mk ck6
                  have bk60 : (n0 == 6) = true := beqT ck6
                  clear ck6
                  by_cases cL1 : L ≠ 1
                  · have AL1 := Aside0.mk cL1
                    have bL10 : ((L : Int) != 1) = true := bne_iff_ne.mpr (by omega)
                    have hb0 : badV ⟨n0, n1, n2, n3⟩ d = 3 := by
                      have hk1_ := Ak1.out
                      have hk2_ := Ak2.out
                      have hk5_ := Ak5.out
                      have hk6_ := Ak6.out
                      have hL1_ := AL1.out
                      have hl := HL.out
                      have hd := HS.out
                      unfold badV
                      dsimp only
                      rw [hl]
                      (repeat' split) <;> first | rfl | (exfalso; omega)
                    have hF := HF.out
                    rw [hb0, if_neg (by omega)] at hF
                    simp only [Option.some.injEq, Prod.mk.injEq] at hF
                    obtain ⟨rfl, rfl⟩ := hF
                    clear hb0
                    go_wp2
                    all_goals first | (exfalso; have hzlo := Alo.out; have hzhi := Ahi.out; have hzk1 := Ak1.out; have hzk2 := Ak2.out; have hzk5 := Ak5.out; have hzk6 := Ak6.out; have hzL1 := AL1.out; omega) | (go_ret; exact ⟨rfl, by rw [HD.out]; exact blk_put HP1.out 0 _ rfl, (HB0.out.trans (W1.out.mono HBW.out)).setCell HG.out _, (Kp.of W1.out).trans (Kp.set _ _ _)⟩)
                  · have AL1 := Aside0.mk cL1
                    have bL10 : ((L : Int) != 1) = false := bne_eq_false_iff_eq.mpr (by omega)
                    have bL1z : L = 1 := by omega
                    clear cL1
                    subst bL1z
                    by_cases ct0 : n2 < 1
                    · have At0 := Aside0.mk ct0
                      have hb0 : badV ⟨n0, n1, n2, n3⟩ d = 3 := by
                        have hk1_ := Ak1.out
                        have hk2_ := Ak2.out
                        have hk5_ := Ak5.out
                        have hk6_ := Ak6.out
                        have hL1_ := AL1.out
                        have hl := HL.out
                        have hd := HS.out
                        unfold badV
                        dsimp only
                        rw [hl]
                        (repeat' split) <;> first | rfl | (exfalso; omega)
                      have hF := HF.out
                      rw [hb0, if_neg (by omega)] at hF
                      simp only [Option.some.injEq, Prod.mk.injEq] at hF
                      obtain ⟨rfl, rfl⟩ := hF
                      clear hb0
                      go_wp2
                      all_goals first | (exfalso; have hzlo := Alo.out; have hzhi := Ahi.out; have hzk1 := Ak1.out; have hzk2 := Ak2.out; have hzk5 := Ak5.out; have hzk6 := Ak6.out; have hzL1 := AL1.out; have hzt0 := At0.out; omega) | (go_ret; exact ⟨rfl, by rw [HD.out]; exact blk_put HP1.out 0 _ rfl, (HB0.out.trans (W1.out.mono HBW.out)).setCell HG.out _, (Kp.of W1.out).trans (Kp.set _ _ _)⟩)
                    · have At0 := Aside0.mk ct0
                      have dt0 := Int.not_lt.mp ct0
                      clear ct0
                      by_cases ct1 : n2 > 1000
                      · have At1 := Aside0.mk ct1
                        have hb0 : badV ⟨n0, n1, n2, n3⟩ d = 3 := by
                          have hk1_ := Ak1.out
                          have hk2_ := Ak2.out
                          have hk5_ := Ak5.out
                          have hk6_ := Ak6.out
                          have hL1_ := AL1.out
                          have hl := HL.out
                          have hd := HS.out
                          unfold badV
                          dsimp only
                          rw [hl]
                          (repeat' split) <;> first | rfl | (exfalso; omega)
                        have hF := HF.out
                        rw [hb0, if_neg (by omega)] at hF
                        simp only [Option.some.injEq, Prod.mk.injEq] at hF
                        obtain ⟨rfl, rfl⟩ := hF
                        clear hb0
                        go_wp2
                        all_goals first | (exfalso; have hzlo := Alo.out; have hzhi := Ahi.out; have hzk1 := Ak1.out; have hzk2 := Ak2.out; have hzk5 := Ak5.out; have hzk6 := Ak6.out; have hzL1 := AL1.out; have hzt0 := At0.out; have hzt1 := At1.out; omega) | (go_ret; exact ⟨rfl, by rw [HD.out]; exact blk_put HP1.out 0 _ rfl, (HB0.out.trans (W1.out.mono HBW.out)).setCell HG.out _, (Kp.of W1.out).trans (Kp.set _ _ _)⟩)
                      · have At1 := Aside0.mk ct1
                        have dt1 := Int.not_lt.mp ct1
                        clear ct1
                        have hb0 : badV ⟨n0, n1, n2, n3⟩ d = 0 := by
                          have hk1_ := Ak1.out
                          have hk2_ := Ak2.out
                          have hk5_ := Ak5.out
                          have hk6_ := Ak6.out
                          have hL1_ := AL1.out
                          have hl := HL.out
                          have hd := HS.out
                          unfold badV
                          dsimp only
                          rw [hl]
                          (repeat' split) <;> first | rfl | (exfalso; omega)
                        go_wp2
                        all_goals first | (exfalso; have hzlo := Alo.out; have hzhi := Ahi.out; have hzk1 := Ak1.out; have hzk2 := Ak2.out; have hzk5 := Ak5.out; have hzk6 := Ak6.out; have hzL1 := AL1.out; have hzt0 := At0.out; have hzt1 := At1.out; omega) | (go_meet; exact ⟨rfl, ⟨hb0⟩, rfl⟩)
                · have Ak6 := Aside0.mk ck6
                  have bk60 : (n0 == 6) = false := beqF ck6
                  clear ck6
                  have hb0 : badV ⟨n0, n1, n2, n3⟩ d = 0 := by
                    have hk1_ := Ak1.out
                    have hk2_ := Ak2.out
                    have hk5_ := Ak5.out
                    have hk6_ := Ak6.out
                    have hl := HL.out
                    have hd := HS.out
                    unfold badV
                    dsimp only
                    rw [hl]
                    (repeat' split) <;> first | rfl | (exfalso; omega)
                  go_wp2
                  all_goals first | (exfalso; have hzlo := Alo.out; have hzhi := Ahi.out; have hzk1 := Ak1.out; have hzk2 := Ak2.out; have hzk5 := Ak5.out; have hzk6 := Ak6.out; omega) | (go_meet; exact ⟨rfl, ⟨hb0⟩, rfl⟩)
    case rest =>
      obtain ⟨rfl, HBAD, rfl⟩ := hcut
      have hF := HF.out
      rw [if_pos HBAD.out] at hF
      have HF2 := Aside0.mk hF
      clear hF HF HBAD
      have HBm := Aside0.mk (show Below B W0 (w1.setCell ⟨gP, 0, none⟩ (.int .i64 (wrap64 (c + 1)))) from (HB0.out.trans (W1.out.mono HBW.out)).setCell HG.out _)
      have HKm := Aside0.mk (show Kp B gP w (w1.setCell ⟨gP, 0, none⟩ (.int .i64 (wrap64 (c + 1)))) from (Kp.of W1.out).trans (Kp.set _ _ _))
      have BKm := Aside0.mk (show (w1.setCell ⟨gP, 0, none⟩ (.int .i64 (wrap64 (c + 1)))).heap[gb]? = some (.cells #[.int .i64 n0, .string n1, .int .i64 n2, .slice A3 L c3] 25 (0, 0)) from blk_far BK.out hnb _)
      have HPm := Aside0.mk (show (w1.setCell ⟨gP, 0, none⟩ (.int .i64 (wrap64 (c + 1)))).heap[gP]? = some (.cells #[.int .i64 d] 3 (0, 0)) from by rw [← HD.out]; exact blk_put HP1.out 0 _ rfl)
      clear cb0 cb1 cb2 cb3 cp fp bb2
      generalize w1.setCell ⟨gP, 0, none⟩ (.int .i64 (wrap64 (c + 1))) = wm at HBm HKm BKm HPm ⊢
      have cb3 := (blk_cell BKm.out 3).trans rfl
      have HN := Aside0.mk HL.out
      clear HL
      go_wp2
      go_loopg [85] k (fun kq v85 wr => ∃ (i : Int) (cq : Int), v85 = .int .i64 i ∧ Aside0 (checkL kq n3 i cq = some (r, c2)) ∧ Aside0 (kq ≤ k) ∧ Aside0 (Below B W0 wr) ∧ Aside0 (wr.heap[gP]? = some (.cells #[.int .i64 cq] 3 (0, 0))) ∧ Aside0 (Kp B gP w wr))
      case atStart => exact ⟨0, d, rfl, HF2, ⟨Nat.le_refl _⟩, HBm, HPm, HKm⟩
      case round =>
        clear HF2 HBm HPm HKm BKm cb3
        obtain ⟨i, cq, rfl, HF, HKq, HBr, HPr, HKr⟩ := hrel
        cases gk with
        | zero => exact absurd HF.out (by simp [checkL])
        | succ k1 =>
          have hF := HF.out
          clear HF
          rw [checkL] at hF
          have hN := HN.out
          by_cases c1 : i < n3.length
          · rw [if_pos c1] at hF
            by_cases c0 : 0 ≤ i
            · rw [if_pos c0] at hF
              have HT2 := HT.out
              obtain ⟨ad, A4, c4, rfl, hc4, hT4, hcell⟩ := Tr.elem HT2 i c0 c1
              have HC4 := Aside0.mk hc4
              have HT4 := Aside0.mk hT4
              rw [hN] at c1
              have c1b : decide (i < (L : Int)) = true := decide_eq_true c1
              obtain ⟨x0, x1, x2, x3⟩ := hcell wr (fun j h1 h2 => HBr.out.block j (HOK.out j h1))
              clear hc4 hT4 hcell HT2 hN
              have p0 := eq_true c0
              have q0 := eq_true c1
              clear c0 c1
              obtain ⟨⟨r1, cq1⟩, h1, hF⟩ := Option.bind_eq_some_iff.mp hF
              have H1 := Aside0.mk h1
              clear h1
              dsimp only at hF
              by_cases cr : r1 = 0
              · rw [if_pos cr] at hF
                have HF3 := Aside0.mk hF
                clear hF
                subst cr
                go_wp2_with (first | ((with_reducible refine gate_dst (N := 6) rfl ?_); refine box_event ?hg (N := 6) ?hd (cs := #[.int .i64 0, .string (⟨#[]⟩ : ByteArray), .int .i64 0, .slice none 0 0]) (t := 25) ?hr ?_; (case hd => rfl); (case hg => rfl); (case hr => first | (go_simp; done) | (go_simp; rfl)); intro gq hg w5 hbox hb1; have GQ := Aside0.mk hg; have BQ := Aside0.mk hbox; have NQ := Aside0.mk (show gP ≠ gq from (by rw [hg]; exact Nat.ne_of_lt (blk_lt HPr.out))); have GB := Aside0.mk (show B ≤ gq from (by rw [hg]; exact Nat.le_trans HG.out (Nat.le_of_lt (blk_lt HPr.out)))); have GW := Aside0.mk (show w.heap.size ≤ gq from (by rw [hg]; exact HKr.out.size)); have HB5 := Aside0.mk (HBr.out.trans (hb1.mono (Nat.le_trans HG.out (Nat.le_of_lt (blk_lt HPr.out))))); have HP5 := Aside0.mk (blk_below HPr.out hb1); have HK5 := Aside0.mk (HKr.out.trans (Kp.of (B := B) hb1)); clear hg hbox hb1 x0 x1 x2 x3; have cz0 := (blk_cell BQ.out 0).trans rfl; have cz1 := (blk_cell BQ.out 1).trans rfl; have cz2 := (blk_cell BQ.out 2).trans rfl; have cz3 := (blk_cell BQ.out 3).trans rfl; have fz0 := blk_frozen BQ.out 0; have fz1 := blk_frozen BQ.out 1; have fz2 := blk_frozen BQ.out 2; have fz3 := blk_frozen BQ.out 3) | ((with_reducible refine gate_callee (f := 35) rfl ?_); refine goesL_ (some 91) rfl rfl Try.func35 (by kernel_rfl) rfl #[.agg #[.int .i64 (rdN n3 i).f0, .string (rdN n3 i).f1, .int .i64 (rdN n3 i).f2, .slice A4 (rdN n3 i).f3.length c4], .pointer (some ⟨gP, 0, none⟩)] rfl (by (try simp only [zm1, zm2, zm3]); first | done | rfl) ?_; (with_reducible refine (Checks.on (IH.out k1 (by have := HKq.out; omega)) (rdN n3 i) (far4 HP5.out NQ.out _ _ _ _) (below4 HB5.out GB.out _ _ _ _) HT4.out HC4.out H1.out).mono ?_); rintro e w7 ⟨rfl, hP7, hB7, hK7⟩; refine ⟨_, rfl, ?_⟩; have HP7 := Aside0.mk hP7; have HB7 := Aside0.mk hB7; have HK7 := Aside0.mk ((Kp.box4 HK5.out GW.out _ _ _ _).trans hK7); clear hP7 hB7 hK7 cz0 cz1 cz2 cz3 fz0 fz1 fz2 fz3))
                go_roundg k1
                case measure => omega
                case rel => exact ⟨_, cq1, rfl, HF3, ⟨by have := HKq.out; omega⟩, HB7, HP7, HK7⟩
              · rw [if_neg cr] at hF
                simp only [Option.some.injEq, Prod.mk.injEq] at hF
                obtain ⟨rfl, rfl⟩ := hF
                have bz : (r1 == 0) = false := beqF cr
                have bz2 : (r1 != 0) = true := bne_iff_ne.mpr cr
                go_wp2_with (first | ((with_reducible refine gate_dst (N := 6) rfl ?_); refine box_event ?hg (N := 6) ?hd (cs := #[.int .i64 0, .string (⟨#[]⟩ : ByteArray), .int .i64 0, .slice none 0 0]) (t := 25) ?hr ?_; (case hd => rfl); (case hg => rfl); (case hr => first | (go_simp; done) | (go_simp; rfl)); intro gq hg w5 hbox hb1; have GQ := Aside0.mk hg; have BQ := Aside0.mk hbox; have NQ := Aside0.mk (show gP ≠ gq from (by rw [hg]; exact Nat.ne_of_lt (blk_lt HPr.out))); have GB := Aside0.mk (show B ≤ gq from (by rw [hg]; exact Nat.le_trans HG.out (Nat.le_of_lt (blk_lt HPr.out)))); have GW := Aside0.mk (show w.heap.size ≤ gq from (by rw [hg]; exact HKr.out.size)); have HB5 := Aside0.mk (HBr.out.trans (hb1.mono (Nat.le_trans HG.out (Nat.le_of_lt (blk_lt HPr.out))))); have HP5 := Aside0.mk (blk_below HPr.out hb1); have HK5 := Aside0.mk (HKr.out.trans (Kp.of (B := B) hb1)); clear hg hbox hb1 x0 x1 x2 x3; have cz0 := (blk_cell BQ.out 0).trans rfl; have cz1 := (blk_cell BQ.out 1).trans rfl; have cz2 := (blk_cell BQ.out 2).trans rfl; have cz3 := (blk_cell BQ.out 3).trans rfl; have fz0 := blk_frozen BQ.out 0; have fz1 := blk_frozen BQ.out 1; have fz2 := blk_frozen BQ.out 2; have fz3 := blk_frozen BQ.out 3) | ((with_reducible refine gate_callee (f := 35) rfl ?_); refine goesL_ (some 91) rfl rfl Try.func35 (by kernel_rfl) rfl #[.agg #[.int .i64 (rdN n3 i).f0, .string (rdN n3 i).f1, .int .i64 (rdN n3 i).f2, .slice A4 (rdN n3 i).f3.length c4], .pointer (some ⟨gP, 0, none⟩)] rfl (by (try simp only [zm1, zm2, zm3]); first | done | rfl) ?_; (with_reducible refine (Checks.on (IH.out k1 (by have := HKq.out; omega)) (rdN n3 i) (far4 HP5.out NQ.out _ _ _ _) (below4 HB5.out GB.out _ _ _ _) HT4.out HC4.out H1.out).mono ?_); rintro e w7 ⟨rfl, hP7, hB7, hK7⟩; refine ⟨_, rfl, ?_⟩; have HP7 := Aside0.mk hP7; have HB7 := Aside0.mk hB7; have HK7 := Aside0.mk ((Kp.box4 HK5.out GW.out _ _ _ _).trans hK7); clear hP7 hB7 hK7 cz0 cz1 cz2 cz3 fz0 fz1 fz2 fz3))
                go_ret
                exact ⟨rfl, HP7.out, HB7.out, HK7.out⟩
            · rw [if_neg c0] at hF
              cases hF
          · rw [if_neg c1] at hF
            simp only [Option.some.injEq, Prod.mk.injEq] at hF
            obtain ⟨rfl, rfl⟩ := hF
            rw [hN] at c1
            have c1b : decide (i < (L : Int)) = false := decide_eq_false c1
            have q0 := eq_false c1
            clear c1 hN
            go_wp2
            go_ret
            exact ⟨rfl, HPr.out, HBr.out, HKr.out⟩
theorem check_all {W0 : World} {ok : Nat → Prop} {B gP : Nat} (hok : ∀ k, ok k → k < B) (hP : B ≤ gP) (hW : W0.heap.size = B) (k : Nat) : Checks W0 ok B gP 35 k := by
  induction k using Nat.strongRecOn with
  | ind k ih =>
    cases k with
    | zero => intro n A3 c3 w c r c2 _ _ _ _ hF; exact absurd hF (by simp [checkF])
    | succ k => exact check_of hok hP hW k (fun j hj => ih j (by omega))
end Go.Proofs.Ytbpgfjfkogdolaa.TreeCheckTreeAsks
