/- The walk of the law TreeOpposite. Under no condition but what stands at it. -/
import Derived.Test.YtbpgfjfkogdolaaTreeOppMemTreeOpposite
import Derived.Outline
namespace Go.Proofs.Ytbpgfjfkogdolaa.TreeOppWalkTreeOpposite
open Go Go.RowKit Go.Proofs.YtbpgfjfkogdolaaW.PrintWords Go.Proofs.YtbpgfjfkogdolaaW.PrintLast Go.Proofs.YtbpgfjfkogdolaaW.PrintMore Go.Proofs.Ytbpgfjfkogdolaa.PTreeOpposite Go.Proofs.Ytbpgfjfkogdolaa.Fnv Go.Proofs.Ytbpgfjfkogdolaa.TreePlainTreeOpposite Go.Proofs.Ytbpgfjfkogdolaa.TreeMemTreeOpposite Go.Proofs.Ytbpgfjfkogdolaa.TreeRowTreeOpposite Go.Proofs.Ytbpgfjfkogdolaa.TreeCheckTreeOpposite Go.Proofs.Ytbpgfjfkogdolaa.TreeTopTreeOpposite Go.Proofs.Ytbpgfjfkogdolaa.TreeAnswersTreeOpposite Go.Proofs.Ytbpgfjfkogdolaa.TreeEvTreeOpposite Go.Proofs.Ytbpgfjfkogdolaa.TreeRightTreeOpposite Go.Proofs.Ytbpgfjfkogdolaa.TreeOppTreeOpposite Go.Proofs.Ytbpgfjfkogdolaa.TreeOppLawTreeOpposite Go.Proofs.Ytbpgfjfkogdolaa.TreeOppMemTreeOpposite
set_option linter.unusedVariables false
set_option linter.unusedSimpArgs false
abbrev IntsOk (l : List Int) : Prop := l.length ≤ 9223372036854775807 ∧ ∀ x ∈ l, (Lit.int .i64 x).wf = true
set_option maxHeartbeats 8000000 in
set_option maxRecDepth 100000 in
theorem walk (A0 : Option Addr) (c0 : Nat) (l0 : List Int) {W : World} (hr0 : Kd.C (Kd.int .i64) W A0 l0.length l0) (hc0 : l0.length ≤ c0) (ok0 : IntsOk l0) (A1 : Option Addr) (c1 : Nat) (l1 : List Int) (hr1 : Kd.C (Kd.int .i64) W A1 l1.length l1) (hc1 : l1.length ≤ c1) (ok1 : IntsOk l1) (A2 : Option Addr) (c2 : Nat) (l2 : List Int) (hr2 : Kd.C (Kd.int .i64) W A2 l2.length l2) (hc2 : l2.length ≤ c2) (ok2 : IntsOk l2) :
    Calls Try.prog 3 #[.slice A0 l0.length c0, .slice A1 l1.length c1, .slice A2 l2.length c2] W fun e w' => e = .returned (.bool true) ∧ Below W.heap.size W w' := by
  obtain ⟨a, ⟨k0, ha⟩, wa, za⟩ := TreeMadeTreeOpposite.tree_made l0 ok0.1
  obtain ⟨b, ⟨k1, hb⟩, wb, zb⟩ := TreeMadeTreeOpposite.tree_made l1 ok1.1
  have HF0 := Aside0.mk (ha k0 (Nat.le_refl _))
  have HF1 := Aside0.mk (hb k1 (Nat.le_refl _))
  obtain ⟨mf, kf, hf⟩ := first_law (fun _ _ => (0, ())) rfl
  have HFf := Aside0.mk (hf kf (Nat.le_refl _))
  have HR0 := Aside0.mk hr0
  have HR1 := Aside0.mk hr1
  have HR2 := Aside0.mk hr2
  have HC0 := Aside0.mk hc0
  have HC1 := Aside0.mk hc1
  have HC2 := Aside0.mk hc2
  have WA := Aside0.mk wa
  have WB := Aside0.mk wb
  have ZA := Aside0.mk za
  have ZB := Aside0.mk zb
  clear hr0 hr1 hr2 hc0 hc1 hc2 ok0 ok1 ok2 ha hb hf wa wb za zb
  go_enter Try.func3, Try.ntmps3
  go_upto_region 7 with (first | ((with_reducible refine gate_dst (N := 7) rfl ?_); refine box_event ?hg (N := 7) ?hd (cs := #[.int .i64 0, .string (⟨#[]⟩ : ByteArray), .int .i64 0, .slice none 0 0]) (t := 25) ?hr ?_; (case hd => rfl); (case hg => rfl); (case hr => first | (go_simp; done) | (go_simp; rfl)); intro g7 hg w1 hbox hb; have HB1 := Aside0.mk hb; have BK7 := Aside0.mk hbox; have G7 := Aside0.mk (show W.heap.size ≤ g7 from Nat.le_of_eq hg.symm); clear hg hbox hb; have ca0 := (blk_cell BK7.out 0).trans rfl; have ca1 := (blk_cell BK7.out 1).trans rfl; have ca2 := (blk_cell BK7.out 2).trans rfl; have ca3 := (blk_cell BK7.out 3).trans rfl; have fa0 := blk_frozen BK7.out 0; have fa1 := blk_frozen BK7.out 1; have fa2 := blk_frozen BK7.out 2; have fa3 := blk_frozen BK7.out 3) | ((with_reducible refine gate_dst (N := 28) rfl ?_); refine row_event ?hg (N := 28) ?hd (cs := #[.int .i64 1, .string (⟨#[97]⟩ : ByteArray), .int .i64 0, .slice none 0 0]) (t := 25) (n := 1) ?hr ?_; (case hd => rfl); (case hg => rfl); (case hr => first | (go_simp; done) | (go_simp; rfl)); intro g8 hg w2 hbox hb; have HB2 := Aside0.mk ((below4 HB1.out G7.out (.int .i64 1) (.string (⟨#[97]⟩ : ByteArray)) (.int .i64 0) (.slice none 0 0)).trans (hb.mono (below4 HB1.out G7.out (.int .i64 1) (.string (⟨#[97]⟩ : ByteArray)) (.int .i64 0) (.slice none 0 0)).size)); have BK8 := Aside0.mk hbox; clear hg hbox hb ca0 ca1 ca2 ca3 fa0 fa1 fa2 fa3; have HT2 := Aside0.mk (show Tr w2 Al (some ⟨g8, 0, none⟩) (notN askN).f3 from F_of trivial [askN] BK8.out (by decide) (by decide) (fun j x hj => by cases j with | zero => (injection hj with hj; subst hj; exact ⟨none, 0, Nat.le_refl _, Kd.F_nil _ _ _, rfl, rfl, rfl, rfl⟩) | succ j => (exact absurd hj (by simp))))) | ((with_reducible refine gate_callee (f := 7) rfl ?_); refine goesL_ (some 30) rfl rfl Try.func7 (by kernel_rfl) rfl #[.agg #[.int .i64 5, .string (⟨#[]⟩ : ByteArray), .int .i64 0, .slice (some ⟨g8, 0, none⟩) 1 1], .slice none 0 0, .func (.func 8) #[] #[]] rfl (by (try simp only [zm1, zm2, zm3]); first | done | rfl) ?_; (refine (Top_any kf (notN askN) (some ⟨g8, 0, none⟩) 1 none 0 [] (asks_pure (W0 := w2) (lb := #[]) (fun _ => 0) Try.func8 (by kernel_rfl) rfl (fun w x _ => (tourkeep5_TreeOpposite_1.calls x 0 w rfl).mono (fun e w' he => ⟨he.1, he.2.below⟩))) (s := ()) (Below.refl _ _) (fun k hk => hk.2) (tr_now1 HT2.out) (Nat.le_refl _) (Kd.C_nil _ _) (Nat.le_refl _) HFf.out).mono ?_); rintro e w3 ⟨v3, rfl, hR, hI, hle⟩; refine ⟨_, rfl, ?_⟩; have HB3 := Aside0.mk (HB2.out.trans (hI.mono HB2.out.size)); obtain ⟨A3, c3, rfl⟩ := Kd.R_slice hR; clear hR hI hle) | ((with_reducible refine gate_callee (f := 9) rfl ?_); refine goesL_ (some 41) rfl rfl Try.func9 (by kernel_rfl) rfl #[.slice A0 l0.length c0] rfl (by (try simp only [zm1, zm2, zm3]); first | done | rfl) ?_; (with_reducible refine (tourref5_Tree.calls k0 A0 c0 l0 _ _ _ _ w3 (Kd.C_below HR0.out HB3.out) HC0.out HF0.out).mono ?_); rintro e w4 ⟨v, rfl, hN, hb⟩; refine ⟨_, rfl, ?_⟩; obtain ⟨Aa, ca, rfl⟩ := Kd.N_slice hN; have HL0 := Aside0.mk (Kd.N_reads' hN).2.1; have HT10 := Aside0.mk (show Tr w4 Al Aa a.f3 from Kd.F_mono (Kd.N_F hN) (fun _ _ => trivial)); have HB4 := Aside0.mk (HB3.out.trans (hb.mono HB3.out.size)); clear hN hb) | ((with_reducible refine gate_callee (f := 9) rfl ?_); refine goesL_ (some 43) rfl rfl Try.func9 (by kernel_rfl) rfl #[.slice A1 l1.length c1] rfl (by (try simp only [zm1, zm2, zm3]); first | done | rfl) ?_; (with_reducible refine (tourref5_Tree.calls k1 A1 c1 l1 _ _ _ _ w4 (Kd.C_below HR1.out HB4.out) HC1.out HF1.out).mono ?_); rintro e w5 ⟨v, rfl, hN, hb⟩; refine ⟨_, rfl, ?_⟩; obtain ⟨Ab, cb, rfl⟩ := Kd.N_slice hN; have HL1 := Aside0.mk (Kd.N_reads' hN).2.1; have HT11 := Aside0.mk (show Tr w5 Al Ab b.f3 from Kd.F_mono (Kd.N_F hN) (fun _ _ => trivial)); have HB5 := Aside0.mk (HB4.out.trans (hb.mono HB4.out.size)); have HT10b := Aside0.mk (Kd.F_below HT10.out hb); clear hN hb) | ((with_reducible refine gate_dst (N := 11) rfl ?_); refine box_event ?hg (N := 11) ?hd (cs := #[.int .i64 0, .string (⟨#[]⟩ : ByteArray), .int .i64 0, .slice none 0 0]) (t := 25) ?hr ?_; (case hd => rfl); (case hg => rfl); (case hr => first | (go_simp; done) | (go_simp; rfl)); intro g11 hg w6 hbox hb; have HB6 := Aside0.mk (HB5.out.trans (hb.mono HB5.out.size)); have BK11 := Aside0.mk hbox; have W56 := Aside0.mk hb; have G11w := Aside0.mk (Nat.le_of_eq hg.symm); have G11 := Aside0.mk (show W.heap.size ≤ g11 from (by rw [hg]; exact HB5.out.size)); clear hg hbox hb) | ((with_reducible refine gate_dst (N := 12) rfl ?_); refine box_event ?hg (N := 12) ?hd (cs := #[.int .i64 0, .string (⟨#[]⟩ : ByteArray), .int .i64 0, .slice none 0 0]) (t := 25) ?hr ?_; (case hd => rfl); (case hg => rfl); (case hr => first | (go_simp; done) | (go_simp; rfl)); intro g12 hg w7 hbox hb; have HB7 := Aside0.mk (HB6.out.trans (hb.mono HB6.out.size)); have BK12 := Aside0.mk hbox; have W57 := Aside0.mk (W56.out.trans (hb.mono W56.out.size)); have G12w := Aside0.mk (show w5.heap.size ≤ g12 from (by rw [hg]; exact W56.out.size)); have G12 := Aside0.mk (show W.heap.size ≤ g12 from (by rw [hg]; exact HB6.out.size)); have N12 := Aside0.mk (show g11 ≠ g12 from (by rw [hg]; exact Nat.ne_of_lt (blk_lt BK11.out))); have BK11b := Aside0.mk (blk_below BK11.out hb); clear hg hbox hb; have cu0 := (blk_cell BK11b.out 0).trans rfl; have cu1 := (blk_cell BK11b.out 1).trans rfl; have cu2 := (blk_cell BK11b.out 2).trans rfl; have cu3 := (blk_cell BK11b.out 3).trans rfl; have cv0 := (blk_cell BK12.out 0).trans rfl; have cv1 := (blk_cell BK12.out 1).trans rfl; have cv2 := (blk_cell BK12.out 2).trans rfl; have cv3 := (blk_cell BK12.out 3).trans rfl; have fu0 := blk_frozen BK11b.out 0; have fu1 := blk_frozen BK11b.out 1; have fu2 := blk_frozen BK11b.out 2; have fu3 := blk_frozen BK11b.out 3; have fv0 := blk_frozen BK12.out 0; have fv1 := blk_frozen BK12.out 1; have fv2 := blk_frozen BK12.out 2; have fv3 := blk_frozen BK12.out 3; have n12 := N12.out; have n21 := N12.out.symm))
  have HB8 := Aside0.mk (below4 (below4 HB7.out G11.out (.int .i64 a.f0) (.string a.f1) (.int .i64 a.f2) (.slice Aa a.f3.length ca)) G12.out (.int .i64 b.f0) (.string b.f1) (.int .i64 b.f2) (.slice Ab b.f3.length cb))
  have W58 := Aside0.mk (below4 (below4 W57.out G11w.out (.int .i64 a.f0) (.string a.f1) (.int .i64 a.f2) (.slice Aa a.f3.length ca)) G12w.out (.int .i64 b.f0) (.string b.f1) (.int .i64 b.f2) (.slice Ab b.f3.length cb))
  have C11 := Aside0.mk (far4 (put4 BK11b.out (.int .i64 a.f0) (.string a.f1) (.int .i64 a.f2) (.slice Aa a.f3.length ca)) N12.out (.int .i64 b.f0) (.string b.f1) (.int .i64 b.f2) (.slice Ab b.f3.length cb))
  have C12 := Aside0.mk (put4 (far4 BK12.out N12.out.symm (.int .i64 a.f0) (.string a.f1) (.int .i64 a.f2) (.slice Aa a.f3.length ca)) (.int .i64 b.f0) (.string b.f1) (.int .i64 b.f2) (.slice Ab b.f3.length cb))
  clear cu0 cu1 cu2 cu3 cv0 cv1 cv2 cv3 fu0 fu1 fu2 fu3 fv0 fv1 fv2 fv3
  generalize ((((((((w7.setCell ⟨g11, 0, none⟩ (.int .i64 a.f0)).setCell ⟨g11, 1, none⟩ (.string a.f1)).setCell ⟨g11, 2, none⟩ (.int .i64 a.f2)).setCell ⟨g11, 3, none⟩ (.slice Aa a.f3.length ca)).setCell ⟨g12, 0, none⟩ (.int .i64 b.f0)).setCell ⟨g12, 1, none⟩ (.string b.f1)).setCell ⟨g12, 2, none⟩ (.int .i64 b.f2)).setCell ⟨g12, 3, none⟩ (.slice Ab b.f3.length cb)) = w8 at HB8 W58 C11 C12 ⊢
  have FA8 := Aside0.mk (Kd.F_below HT10b.out W58.out)
  have FB8 := Aside0.mk (Kd.F_below HT11.out W58.out)
  clear HB1 HB2 HB3 HB4 HB5 HB6 HB7 BK7 BK8 HT2 HT10 HT10b HT11 BK11 BK11b BK12 W56 W57 W58 G7 G11 G12 G11w G12w
  have cu0 := (blk_cell C11.out 0).trans rfl
  have cv0 := (blk_cell C12.out 0).trans rfl
  have cu1 := (blk_cell C11.out 1).trans rfl
  have cv1 := (blk_cell C12.out 1).trans rfl
  have cu2 := (blk_cell C11.out 2).trans rfl
  have cv2 := (blk_cell C12.out 2).trans rfl
  have cu3 := (blk_cell C11.out 3).trans rfl
  have cv3 := (blk_cell C12.out 3).trans rfl
  go_upto_region 8 with (first | ((with_reducible refine gate_dst (N := 46) rfl ?_); refine row_event ?hg (N := 46) ?hd (cs := #[.int .i64 a.f0, .string a.f1, .int .i64 a.f2, .slice Aa a.f3.length ca, .int .i64 b.f0, .string b.f1, .int .i64 b.f2, .slice Ab b.f3.length cb]) (t := 25) (n := 2) ?hr ?_; (case hd => rfl); (case hg => rfl); (case hr => first | (go_simp; done) | (go_simp; rfl)); intro gx hg w9 hbox hb; have HB9 := Aside0.mk (HB8.out.trans (hb.mono HB8.out.size)); have BX := Aside0.mk hbox; have D11 := Aside0.mk (blk_below C11.out hb); have D12 := Aside0.mk (blk_below C12.out hb); have FA9 := Aside0.mk (Kd.F_below FA8.out hb); have FB9 := Aside0.mk (Kd.F_below FB8.out hb); clear hg hbox hb cu0 cu1 cu2 cu3 cv0 cv1 cv2 cv3) | ((with_reducible refine gate_dst (N := 14) rfl ?_); refine box_event ?hg (N := 14) ?hd (cs := #[.int .i64 0, .string (⟨#[]⟩ : ByteArray), .int .i64 0, .slice none 0 0]) (t := 25) ?hr ?_; (case hd => rfl); (case hg => rfl); (case hr => first | (go_simp; done) | (go_simp; rfl)); intro g14 hg wA hbox hb; have HBA := Aside0.mk (HB9.out.trans (hb.mono HB9.out.size)); have W9A := Aside0.mk hb; have BK14 := Aside0.mk hbox; have G14 := Aside0.mk (show W.heap.size ≤ g14 from (by rw [hg]; exact HB9.out.size)); have G14w := Aside0.mk (Nat.le_of_eq hg.symm); clear hg hbox hb; have cu0 := (blk_cell BK14.out 0).trans rfl; have cu1 := (blk_cell BK14.out 1).trans rfl; have cu2 := (blk_cell BK14.out 2).trans rfl; have cu3 := (blk_cell BK14.out 3).trans rfl; have fu0 := blk_frozen BK14.out 0; have fu1 := blk_frozen BK14.out 1; have fu2 := blk_frozen BK14.out 2; have fu3 := blk_frozen BK14.out 3))
  have WY := Aside0.mk (below4 W9A.out G14w.out (.int .i64 4) (.string (⟨#[]⟩ : ByteArray)) (.int .i64 0) (.slice (some ⟨gx, 0, none⟩) 2 2))
  have FX9 := Aside0.mk (show Tr w9 Al (some ⟨gx, 0, none⟩) [a, b] from F_of trivial [a, b] BX.out (by simp) (by simp) (fun j x hj => by
    match j, hj with
    | 0, hj => (injection hj with hj; subst hj; exact ⟨Aa, ca, HL0.out, FA9.out, rfl, rfl, rfl, rfl⟩)
    | 1, hj => (injection hj with hj; subst hj; exact ⟨Ab, cb, HL1.out, FB9.out, rfl, rfl, rfl, rfl⟩)))
  have HS := Aside0.mk (show Base Al W ((((wA.setCell ⟨g14, 0, none⟩ (.int .i64 4)).setCell ⟨g14, 1, none⟩ (.string (⟨#[]⟩ : ByteArray))).setCell ⟨g14, 2, none⟩ (.int .i64 0)).setCell ⟨g14, 3, none⟩ (.slice (some ⟨gx, 0, none⟩) 2 2)) g11 g12 g14 gx a b Aa ca Ab cb from ⟨HB9.out.trans (WY.out.mono HB9.out.size), blk_below D11.out WY.out, blk_below D12.out WY.out, put4 BK14.out _ _ _ _, Kd.F_below FA9.out WY.out, Kd.F_below FB9.out WY.out, Kd.F_below FX9.out WY.out⟩)
  clear cu0 cu1 cu2 cu3 fu0 fu1 fu2 fu3
  generalize ((((wA.setCell ⟨g14, 0, none⟩ (.int .i64 4)).setCell ⟨g14, 1, none⟩ (.string (⟨#[]⟩ : ByteArray))).setCell ⟨g14, 2, none⟩ (.int .i64 0)).setCell ⟨g14, 3, none⟩ (.slice (some ⟨gx, 0, none⟩) 2 2)) = wB at HS WY ⊢
  clear HB8 C11 C12 FA8 FB8 HB9 BX D11 D12 FA9 FB9 HBA W9A BK14 G14 G14w WY FX9
  go_cut [15] (fun v15 wc => ∃ (g15 : Nat) (A57 : Option Addr) (c57 : Nat), v15 = .pointer (some ⟨g15, 0, none⟩) ∧ Aside0 (1 ≤ c57) ∧ Aside0 (Base Al W wc g11 g12 g14 gx a b Aa ca Ab cb) ∧ Aside0 (wc.heap[g15]? = some (.cells #[.int .i64 5, .string (⟨#[]⟩ : ByteArray), .int .i64 0, .slice A57 1 c57] 25 (0, 0))) ∧ Aside0 (Tr wc Al A57 (oppN a b).f3))
  case first =>
    have HS := Aside0.mk (HS.out.below (Below.refl _ _).drew)
    refine start_ (n := 12) (S := fun w' => w'.cell? ⟨g11, 0, none⟩ = some (.int .i64 a.f0) ∧ w'.cell? ⟨g11, 1, none⟩ = some (.string a.f1) ∧ w'.cell? ⟨g11, 2, none⟩ = some (.int .i64 a.f2) ∧ w'.cell? ⟨g11, 3, none⟩ = some (.slice Aa a.f3.length ca) ∧ w'.cell? ⟨g12, 0, none⟩ = some (.int .i64 b.f0) ∧ w'.cell? ⟨g12, 1, none⟩ = some (.string b.f1) ∧ w'.cell? ⟨g12, 2, none⟩ = some (.int .i64 b.f2) ∧ w'.cell? ⟨g12, 3, none⟩ = some (.slice Ab b.f3.length cb)) (ds := [11]) #[false, false, false, false, false, false, false, false, false, false, false, false] (by kernel_rfl) rfl rfl ⟨(blk_cell HS.out.b11 0).trans rfl, (blk_cell HS.out.b11 1).trans rfl, (blk_cell HS.out.b11 2).trans rfl, (blk_cell HS.out.b11 3).trans rfl, (blk_cell HS.out.b12 0).trans rfl, (blk_cell HS.out.b12 1).trans rfl, (blk_cell HS.out.b12 2).trans rfl, (blk_cell HS.out.b12 3).trans rfl⟩ (fun hHeld => ?_)
    refine pure_ (i := 0) (N := some 48) (v := ?_) (a' := ?_) #[true, false, false, false, false, false, false, false, false, false, false, false] rfl rfl (by kernel_rfl) (fun _ _ _ h => h) (Or.inl ⟨by rfl, ?_⟩) ?_ ?_
    rotate_left
    · intro w'
      go_simp
      with_reducible rfl
    rotate_left
    · simp only [Act.put, List.setIfInBounds_toArray, List.set_cons_zero, List.set_cons_succ, i64_w, i32_w]
      rfl
    refine pure_ (i := 1) (N := some 49) (v := ?_) (a' := ?_) #[true, true, false, false, false, false, false, false, false, false, false, false] rfl rfl (by kernel_rfl) (fun _ _ _ h => h) (Or.inl ⟨by rfl, ?_⟩) ?_ ?_
    rotate_left
    · intro w'
      go_simp
      with_reducible rfl
    rotate_left
    · simp only [Act.put, List.setIfInBounds_toArray, List.set_cons_zero, List.set_cons_succ, i64_w, i32_w]
      rfl
    refine take_ (i := 2) (N := some 50) (v := ?_) (a' := ?_) #[true, true, true, false, false, false, false, false, false, false, false, false] rfl rfl (by kernel_rfl) (fun _ _ _ h => h) (Or.inl ⟨by rfl, ?_⟩) hHeld ?_ ?_
    rotate_left
    · rintro w' ⟨s0, s1, s2, s3, s4, s5, s6, s7⟩
      go_simp
      with_reducible rfl
    rotate_left
    · simp only [Act.put, List.setIfInBounds_toArray, List.set_cons_zero, List.set_cons_succ, i64_w, i32_w]
      rfl
    refine pure_ (i := 4) (N := some 52) (v := ?_) (a' := ?_) #[true, true, true, false, true, false, false, false, false, false, false, false] rfl rfl (by kernel_rfl) (fun _ _ _ h => h) (Or.inl ⟨by rfl, ?_⟩) ?_ ?_
    rotate_left
    · intro w'
      go_simp
      with_reducible rfl
    rotate_left
    · simp only [Act.put, List.setIfInBounds_toArray, List.set_cons_zero, List.set_cons_succ, i64_w, i32_w]
      rfl
    refine take_ (i := 5) (N := some 53) (v := ?_) (a' := ?_) #[true, true, true, false, true, true, false, false, false, false, false, false] rfl rfl (by kernel_rfl) (fun _ _ _ h => h) (Or.inl ⟨by rfl, ?_⟩) hHeld ?_ ?_
    rotate_left
    · rintro w' ⟨s0, s1, s2, s3, s4, s5, s6, s7⟩
      go_simp
      with_reducible rfl
    rotate_left
    · simp only [Act.put, List.setIfInBounds_toArray, List.set_cons_zero, List.set_cons_succ, i64_w, i32_w]
      rfl
    refine two_ (i := 3) (j := 10) (Ni := some 51) (Nj := some 15) #[true, true, true, true, true, true, false, false, false, false, false, false] #[true, true, true, false, true, true, false, false, false, false, true, false] rfl rfl rfl rfl (by kernel_rfl) (by decide) (by decide) (fun K hK => ?_) (fun K hK => ?_)
    · refine goesT_ (t := 49) (lb := #[]) Try.func10 (by kernel_rfl) rfl #[.agg #[.int .i64 a.f0, .string a.f1, .int .i64 a.f2, .slice Aa a.f3.length ca]] (by rfl) rfl rfl (by rfl) (by simp only [List.map_toArray, List.map_cons, List.map_nil]; rfl) ?_
      refine (not_call Al a Aa ca HL0.out HS.out.fa (fun _ _ => trivial)).mono ?_
      rintro e wq0 ⟨A51, c51, rfl, hc51, hv, hb⟩
      refine ⟨_, rfl, ?_⟩
      have HS := Aside0.mk (HS.out.below hb)
      have HV51 := Aside0.mk hv
      have HC51 := Aside0.mk hc51
      clear hv hc51 hb
      refine hK.out _ _ ⟨(blk_cell HS.out.b11 0).trans rfl, (blk_cell HS.out.b11 1).trans rfl, (blk_cell HS.out.b11 2).trans rfl, (blk_cell HS.out.b11 3).trans rfl, (blk_cell HS.out.b12 0).trans rfl, (blk_cell HS.out.b12 1).trans rfl, (blk_cell HS.out.b12 2).trans rfl, (blk_cell HS.out.b12 3).trans rfl⟩ (fun hHeld => ?_)
      clear hK K
      refine norm_ (a' := ?_) ?_ ?_
      rotate_left
      · show Act.put _ (some 51) _ = _
        simp only [Act.put, List.setIfInBounds_toArray, List.set_cons_zero, List.set_cons_succ, i64_w, i32_w]
        rfl
      refine two_ (i := 6) (j := 10) (Ni := some 54) (Nj := some 15) #[true, true, true, true, true, true, true, false, false, false, false, false] #[true, true, true, true, true, true, false, false, false, false, true, false] rfl rfl rfl rfl (by kernel_rfl) (by decide) (by decide) (fun K hK => ?_) (fun K hK => ?_)
      · refine goesT_ (t := 52) (lb := #[]) Try.func10 (by kernel_rfl) rfl #[.agg #[.int .i64 b.f0, .string b.f1, .int .i64 b.f2, .slice Ab b.f3.length cb]] (by rfl) rfl rfl (by rfl) (by simp only [List.map_toArray, List.map_cons, List.map_nil]; rfl) ?_
        refine (not_call Al b Ab cb HL1.out HS.out.fb (fun _ _ => trivial)).mono ?_
        rintro e wq1 ⟨A54, c54, rfl, hc54, hv, hb⟩
        refine ⟨_, rfl, ?_⟩
        have HS := Aside0.mk (HS.out.below hb)
        have HV51 := Aside0.mk (Kd.F_below HV51.out hb)
        have HV54 := Aside0.mk hv
        have HC54 := Aside0.mk hc54
        clear hv hc54 hb
        refine hK.out _ _ ⟨(blk_cell HS.out.b11 0).trans rfl, (blk_cell HS.out.b11 1).trans rfl, (blk_cell HS.out.b11 2).trans rfl, (blk_cell HS.out.b11 3).trans rfl, (blk_cell HS.out.b12 0).trans rfl, (blk_cell HS.out.b12 1).trans rfl, (blk_cell HS.out.b12 2).trans rfl, (blk_cell HS.out.b12 3).trans rfl⟩ (fun hHeld => ?_)
        clear hK K
        refine norm_ (a' := ?_) ?_ ?_
        rotate_left
        · show Act.put _ (some 54) _ = _
          simp only [Act.put, List.setIfInBounds_toArray, List.set_cons_zero, List.set_cons_succ, i64_w, i32_w]
          rfl
        refine two_ (i := 7) (j := 10) (Ni := some 55) (Nj := some 15) #[true, true, true, true, true, true, true, true, false, false, false, false] #[true, true, true, true, true, true, true, false, false, false, true, false] rfl rfl rfl rfl (by kernel_rfl) (by decide) (by decide) (fun K hK => ?_) (fun K hK => ?_)
        · refine row_step (by rfl) rfl (cs := #[.int .i64 5, .string (⟨#[]⟩ : ByteArray), .int .i64 0, .slice A51 1 c51, .int .i64 5, .string (⟨#[]⟩ : ByteArray), .int .i64 0, .slice A54 1 c54]) (t := 25) (n := 2) ?_ ?_
          · first | (go_simp; done) | (go_simp; rfl)
          intro g55 hg wq2 hbox hb
          have HS := Aside0.mk (HS.out.below hb)
          have HV51 := Aside0.mk (Kd.F_below HV51.out hb)
          have HV54 := Aside0.mk (Kd.F_below HV54.out hb)
          have HV55 := Aside0.mk (show Tr wq2 Al (some ⟨g55, 0, none⟩) (allN (notN a) (notN b)).f3 from F_of trivial [notN a, notN b] hbox (by simp) (by simp) (fun j x hj => by
            match j, hj with
            | 0, hj => (injection hj with hj; subst hj; exact ⟨A51, c51, HC51.out, HV51.out, rfl, rfl, rfl, rfl⟩)
            | 1, hj => (injection hj with hj; subst hj; exact ⟨A54, c54, HC54.out, HV54.out, rfl, rfl, rfl, rfl⟩)))
          clear hg hbox hb
          refine hK.out _ _ ⟨(blk_cell HS.out.b11 0).trans rfl, (blk_cell HS.out.b11 1).trans rfl, (blk_cell HS.out.b11 2).trans rfl, (blk_cell HS.out.b11 3).trans rfl, (blk_cell HS.out.b12 0).trans rfl, (blk_cell HS.out.b12 1).trans rfl, (blk_cell HS.out.b12 2).trans rfl, (blk_cell HS.out.b12 3).trans rfl⟩ (fun hHeld => ?_)
          clear hK K
          refine norm_ (a' := ?_) ?_ ?_
          rotate_left
          · show Act.put _ (some 55) _ = _
            simp only [Act.put, List.setIfInBounds_toArray, List.set_cons_zero, List.set_cons_succ, i64_w, i32_w]
            rfl
          refine pure_ (i := 8) (N := some 56) (v := ?_) (a' := ?_) #[true, true, true, true, true, true, true, true, true, false, false, false] rfl rfl (by kernel_rfl) (fun _ _ _ h => h) (Or.inl ⟨by rfl, ?_⟩) ?_ ?_
          rotate_left
          · intro w'
            go_simp
            with_reducible rfl
          rotate_left
          · simp only [Act.put, List.setIfInBounds_toArray, List.set_cons_zero, List.set_cons_succ, i64_w, i32_w]
            rfl
          refine two_ (i := 9) (j := 10) (Ni := some 57) (Nj := some 15) #[true, true, true, true, true, true, true, true, true, true, false, false] #[true, true, true, true, true, true, true, true, true, false, true, false] rfl rfl rfl rfl (by kernel_rfl) (by decide) (by decide) (fun K hK => ?_) (fun K hK => ?_)
          · refine goesT_ (t := 48) (lb := #[]) Try.func10 (by kernel_rfl) rfl #[.agg #[.int .i64 3, .string (⟨#[]⟩ : ByteArray), .int .i64 0, .slice (some ⟨g55, 0, none⟩) 2 2]] (by rfl) rfl rfl (by rfl) (by simp only [List.map_toArray, List.map_cons, List.map_nil]; rfl) ?_
            refine (not_call Al (allN (notN a) (notN b)) (some ⟨g55, 0, none⟩) 2 (Nat.le_refl _) HV55.out (fun _ _ => trivial)).mono ?_
            rintro e wq3 ⟨A57, c57, rfl, hc57, hv, hb⟩
            refine ⟨_, rfl, ?_⟩
            have HS := Aside0.mk (HS.out.below hb)
            have HV51 := Aside0.mk (Kd.F_below HV51.out hb)
            have HV54 := Aside0.mk (Kd.F_below HV54.out hb)
            have HV55 := Aside0.mk (Kd.F_below HV55.out hb)
            have HV57 := Aside0.mk hv
            have HC57 := Aside0.mk hc57
            clear hv hc57 hb
            refine hK.out _ _ ⟨(blk_cell HS.out.b11 0).trans rfl, (blk_cell HS.out.b11 1).trans rfl, (blk_cell HS.out.b11 2).trans rfl, (blk_cell HS.out.b11 3).trans rfl, (blk_cell HS.out.b12 0).trans rfl, (blk_cell HS.out.b12 1).trans rfl, (blk_cell HS.out.b12 2).trans rfl, (blk_cell HS.out.b12 3).trans rfl⟩ (fun hHeld => ?_)
            clear hK K
            refine norm_ (a' := ?_) ?_ ?_
            rotate_left
            · show Act.put _ (some 57) _ = _
              simp only [Act.put, List.setIfInBounds_toArray, List.set_cons_zero, List.set_cons_succ, i64_w, i32_w]
              rfl
            refine one_ (i := 10) (N := some 15) #[true, true, true, true, true, true, true, true, true, true, true, false] rfl rfl (by kernel_rfl) (by decide) (fun K hK => ?_)
            refine boxN_step (by rfl) rfl (cs := #[.int .i64 0, .string (⟨#[]⟩ : ByteArray), .int .i64 0, .slice none 0 0]) (t := 25) ?_ ?_
            · first | (go_simp; done) | (go_simp; rfl)
            intro g15 hg wq4 hbox hb
            have G15 := Aside0.mk (show W.heap.size ≤ g15 from (by rw [hg]; exact HS.out.bel.size))
            have N15 := Aside0.mk (HS.out.elder (Nat.le_of_eq hg.symm)).2
            have HS := Aside0.mk (HS.out.elder (Nat.le_of_eq hg.symm)).1
            have HV57 := Aside0.mk (Kd.F_mono (ok' := fun k => k ≠ g15) (Kd.F_elderB HV57.out g15 (Nat.le_of_eq hg.symm)) (fun _ hk => hk.2))
            have HS := Aside0.mk (HS.out.below hb)
            have HV57 := Aside0.mk (Kd.F_below HV57.out hb)
            have BK15 := Aside0.mk hbox
            clear hg hbox hb
            refine hK.out _ _ ⟨(blk_cell HS.out.b11 0).trans rfl, (blk_cell HS.out.b11 1).trans rfl, (blk_cell HS.out.b11 2).trans rfl, (blk_cell HS.out.b11 3).trans rfl, (blk_cell HS.out.b12 0).trans rfl, (blk_cell HS.out.b12 1).trans rfl, (blk_cell HS.out.b12 2).trans rfl, (blk_cell HS.out.b12 3).trans rfl⟩ (fun hHeld => ?_)
            clear hK K
            refine norm_ (a' := ?_) ?_ ?_
            rotate_left
            · show Act.put _ (some 15) _ = _
              simp only [Act.put, List.setIfInBounds_toArray, List.set_cons_zero, List.set_cons_succ, i64_w, i32_w]
              rfl
            refine last_ (i := 11) (N := none) #[true, true, true, true, true, true, true, true, true, true, true, true] rfl rfl (by kernel_rfl) (by decide) (fun K hK => ?_)
            have cz0 := (blk_cell BK15.out 0).trans rfl
            have cz1 := (blk_cell BK15.out 1).trans rfl
            have cz2 := (blk_cell BK15.out 2).trans rfl
            have cz3 := (blk_cell BK15.out 3).trans rfl
            have fz0 := blk_frozen BK15.out 0
            have fz1 := blk_frozen BK15.out 1
            have fz2 := blk_frozen BK15.out 2
            have fz3 := blk_frozen BK15.out 3
            refine skip_ (w1 := ?_) (by rfl) rfl ?_ ?_
            rotate_left
            · go_simp
              rfl
            refine hK.out _ _ ?_
            clear hK K cz0 cz1 cz2 cz3 fz0 fz1 fz2 fz3
            refine done_ (by kernel_rfl) ?_
            try go_wp2
            go_meet
            case rel => exact ⟨g15, A57, c57, rfl, HC57, ⟨HS.out.box4 N15.out G15.out _ _ _ _⟩, ⟨put4 BK15.out _ _ _ _⟩, ⟨F_box4 HV57.out _ _ _ _⟩⟩
          · refine boxN_step (by rfl) rfl (cs := #[.int .i64 0, .string (⟨#[]⟩ : ByteArray), .int .i64 0, .slice none 0 0]) (t := 25) ?_ ?_
            · first | (go_simp; done) | (go_simp; rfl)
            intro g15 hg wq5 hbox hb
            have G15 := Aside0.mk (show W.heap.size ≤ g15 from (by rw [hg]; exact HS.out.bel.size))
            have N15 := Aside0.mk (HS.out.elder (Nat.le_of_eq hg.symm)).2
            have HS := Aside0.mk (HS.out.elder (Nat.le_of_eq hg.symm)).1
            have HV51 := Aside0.mk (Kd.F_mono (ok' := fun k => k ≠ g15) (Kd.F_elderB HV51.out g15 (Nat.le_of_eq hg.symm)) (fun _ hk => hk.2))
            have HV54 := Aside0.mk (Kd.F_mono (ok' := fun k => k ≠ g15) (Kd.F_elderB HV54.out g15 (Nat.le_of_eq hg.symm)) (fun _ hk => hk.2))
            have HV55 := Aside0.mk (Kd.F_mono (ok' := fun k => k ≠ g15) (Kd.F_elderB HV55.out g15 (Nat.le_of_eq hg.symm)) (fun _ hk => hk.2))
            have HS := Aside0.mk (HS.out.below hb)
            have HV51 := Aside0.mk (Kd.F_below HV51.out hb)
            have HV54 := Aside0.mk (Kd.F_below HV54.out hb)
            have HV55 := Aside0.mk (Kd.F_below HV55.out hb)
            have BK15 := Aside0.mk hbox
            clear hg hbox hb
            refine hK.out _ _ ⟨(blk_cell HS.out.b11 0).trans rfl, (blk_cell HS.out.b11 1).trans rfl, (blk_cell HS.out.b11 2).trans rfl, (blk_cell HS.out.b11 3).trans rfl, (blk_cell HS.out.b12 0).trans rfl, (blk_cell HS.out.b12 1).trans rfl, (blk_cell HS.out.b12 2).trans rfl, (blk_cell HS.out.b12 3).trans rfl⟩ (fun hHeld => ?_)
            clear hK K
            refine norm_ (a' := ?_) ?_ ?_
            rotate_left
            · show Act.put _ (some 15) _ = _
              simp only [Act.put, List.setIfInBounds_toArray, List.set_cons_zero, List.set_cons_succ, i64_w, i32_w]
              rfl
            refine one_ (i := 9) (N := some 57) #[true, true, true, true, true, true, true, true, true, true, true, false] rfl rfl (by kernel_rfl) (by decide) (fun K hK => ?_)
            refine goesT_ (t := 48) (lb := #[]) Try.func10 (by kernel_rfl) rfl #[.agg #[.int .i64 3, .string (⟨#[]⟩ : ByteArray), .int .i64 0, .slice (some ⟨g55, 0, none⟩) 2 2]] (by rfl) rfl rfl (by rfl) (by simp only [List.map_toArray, List.map_cons, List.map_nil]; rfl) ?_
            refine (not_call (fun k => k ≠ g15) (allN (notN a) (notN b)) (some ⟨g55, 0, none⟩) 2 (Nat.le_refl _) HV55.out (fun k hk => by have h15 := blk_lt BK15.out; omega)).mono ?_
            rintro e wq6 ⟨A57, c57, rfl, hc57, hv, hb⟩
            refine ⟨_, rfl, ?_⟩
            have HS := Aside0.mk (HS.out.below hb)
            have HV51 := Aside0.mk (Kd.F_below HV51.out hb)
            have HV54 := Aside0.mk (Kd.F_below HV54.out hb)
            have HV55 := Aside0.mk (Kd.F_below HV55.out hb)
            have BK15 := Aside0.mk (blk_below BK15.out hb)
            have HV57 := Aside0.mk hv
            have HC57 := Aside0.mk hc57
            clear hv hc57 hb
            refine hK.out _ _ ⟨(blk_cell HS.out.b11 0).trans rfl, (blk_cell HS.out.b11 1).trans rfl, (blk_cell HS.out.b11 2).trans rfl, (blk_cell HS.out.b11 3).trans rfl, (blk_cell HS.out.b12 0).trans rfl, (blk_cell HS.out.b12 1).trans rfl, (blk_cell HS.out.b12 2).trans rfl, (blk_cell HS.out.b12 3).trans rfl⟩ (fun hHeld => ?_)
            clear hK K
            refine norm_ (a' := ?_) ?_ ?_
            rotate_left
            · show Act.put _ (some 57) _ = _
              simp only [Act.put, List.setIfInBounds_toArray, List.set_cons_zero, List.set_cons_succ, i64_w, i32_w]
              rfl
            refine last_ (i := 11) (N := none) #[true, true, true, true, true, true, true, true, true, true, true, true] rfl rfl (by kernel_rfl) (by decide) (fun K hK => ?_)
            have cz0 := (blk_cell BK15.out 0).trans rfl
            have cz1 := (blk_cell BK15.out 1).trans rfl
            have cz2 := (blk_cell BK15.out 2).trans rfl
            have cz3 := (blk_cell BK15.out 3).trans rfl
            have fz0 := blk_frozen BK15.out 0
            have fz1 := blk_frozen BK15.out 1
            have fz2 := blk_frozen BK15.out 2
            have fz3 := blk_frozen BK15.out 3
            refine skip_ (w1 := ?_) (by rfl) rfl ?_ ?_
            rotate_left
            · go_simp
              rfl
            refine hK.out _ _ ?_
            clear hK K cz0 cz1 cz2 cz3 fz0 fz1 fz2 fz3
            refine done_ (by kernel_rfl) ?_
            try go_wp2
            go_meet
            case rel => exact ⟨g15, A57, c57, rfl, HC57, ⟨HS.out.box4 N15.out G15.out _ _ _ _⟩, ⟨put4 BK15.out _ _ _ _⟩, ⟨F_box4 HV57.out _ _ _ _⟩⟩
        · refine boxN_step (by rfl) rfl (cs := #[.int .i64 0, .string (⟨#[]⟩ : ByteArray), .int .i64 0, .slice none 0 0]) (t := 25) ?_ ?_
          · first | (go_simp; done) | (go_simp; rfl)
          intro g15 hg wq7 hbox hb
          have G15 := Aside0.mk (show W.heap.size ≤ g15 from (by rw [hg]; exact HS.out.bel.size))
          have N15 := Aside0.mk (HS.out.elder (Nat.le_of_eq hg.symm)).2
          have HS := Aside0.mk (HS.out.elder (Nat.le_of_eq hg.symm)).1
          have HV51 := Aside0.mk (Kd.F_mono (ok' := fun k => k ≠ g15) (Kd.F_elderB HV51.out g15 (Nat.le_of_eq hg.symm)) (fun _ hk => hk.2))
          have HV54 := Aside0.mk (Kd.F_mono (ok' := fun k => k ≠ g15) (Kd.F_elderB HV54.out g15 (Nat.le_of_eq hg.symm)) (fun _ hk => hk.2))
          have HS := Aside0.mk (HS.out.below hb)
          have HV51 := Aside0.mk (Kd.F_below HV51.out hb)
          have HV54 := Aside0.mk (Kd.F_below HV54.out hb)
          have BK15 := Aside0.mk hbox
          clear hg hbox hb
          refine hK.out _ _ ⟨(blk_cell HS.out.b11 0).trans rfl, (blk_cell HS.out.b11 1).trans rfl, (blk_cell HS.out.b11 2).trans rfl, (blk_cell HS.out.b11 3).trans rfl, (blk_cell HS.out.b12 0).trans rfl, (blk_cell HS.out.b12 1).trans rfl, (blk_cell HS.out.b12 2).trans rfl, (blk_cell HS.out.b12 3).trans rfl⟩ (fun hHeld => ?_)
          clear hK K
          refine norm_ (a' := ?_) ?_ ?_
          rotate_left
          · show Act.put _ (some 15) _ = _
            simp only [Act.put, List.setIfInBounds_toArray, List.set_cons_zero, List.set_cons_succ, i64_w, i32_w]
            rfl
          refine one_ (i := 7) (N := some 55) #[true, true, true, true, true, true, true, true, false, false, true, false] rfl rfl (by kernel_rfl) (by decide) (fun K hK => ?_)
          refine row_step (by rfl) rfl (cs := #[.int .i64 5, .string (⟨#[]⟩ : ByteArray), .int .i64 0, .slice A51 1 c51, .int .i64 5, .string (⟨#[]⟩ : ByteArray), .int .i64 0, .slice A54 1 c54]) (t := 25) (n := 2) ?_ ?_
          · first | (go_simp; done) | (go_simp; rfl)
          intro g55 hg wq8 hbox hb
          have L15 := Aside0.mk (blk_lt BK15.out)
          have HS := Aside0.mk (HS.out.below hb)
          have HV51 := Aside0.mk (Kd.F_below HV51.out hb)
          have HV54 := Aside0.mk (Kd.F_below HV54.out hb)
          have BK15 := Aside0.mk (blk_below BK15.out hb)
          have HV55 := Aside0.mk (show Tr wq8 (fun k => k ≠ g15) (some ⟨g55, 0, none⟩) (allN (notN a) (notN b)).f3 from F_of (Q := fun k => k ≠ g15) (show g55 ≠ g15 from by have h15 := L15.out; rw [hg]; omega) [notN a, notN b] hbox (by simp) (by simp) (fun j x hj => by
            match j, hj with
            | 0, hj => (injection hj with hj; subst hj; exact ⟨A51, c51, HC51.out, HV51.out, rfl, rfl, rfl, rfl⟩)
            | 1, hj => (injection hj with hj; subst hj; exact ⟨A54, c54, HC54.out, HV54.out, rfl, rfl, rfl, rfl⟩)))
          clear hg hbox hb
          refine hK.out _ _ ⟨(blk_cell HS.out.b11 0).trans rfl, (blk_cell HS.out.b11 1).trans rfl, (blk_cell HS.out.b11 2).trans rfl, (blk_cell HS.out.b11 3).trans rfl, (blk_cell HS.out.b12 0).trans rfl, (blk_cell HS.out.b12 1).trans rfl, (blk_cell HS.out.b12 2).trans rfl, (blk_cell HS.out.b12 3).trans rfl⟩ (fun hHeld => ?_)
          clear hK K
          refine norm_ (a' := ?_) ?_ ?_
          rotate_left
          · show Act.put _ (some 55) _ = _
            simp only [Act.put, List.setIfInBounds_toArray, List.set_cons_zero, List.set_cons_succ, i64_w, i32_w]
            rfl
          refine pure_ (i := 8) (N := some 56) (v := ?_) (a' := ?_) #[true, true, true, true, true, true, true, true, true, false, true, false] rfl rfl (by kernel_rfl) (fun _ _ _ h => h) (Or.inl ⟨by rfl, ?_⟩) ?_ ?_
          rotate_left
          · intro w'
            go_simp
            with_reducible rfl
          rotate_left
          · simp only [Act.put, List.setIfInBounds_toArray, List.set_cons_zero, List.set_cons_succ, i64_w, i32_w]
            rfl
          refine one_ (i := 9) (N := some 57) #[true, true, true, true, true, true, true, true, true, true, true, false] rfl rfl (by kernel_rfl) (by decide) (fun K hK => ?_)
          refine goesT_ (t := 48) (lb := #[]) Try.func10 (by kernel_rfl) rfl #[.agg #[.int .i64 3, .string (⟨#[]⟩ : ByteArray), .int .i64 0, .slice (some ⟨g55, 0, none⟩) 2 2]] (by rfl) rfl rfl (by rfl) (by simp only [List.map_toArray, List.map_cons, List.map_nil]; rfl) ?_
          refine (not_call (fun k => k ≠ g15) (allN (notN a) (notN b)) (some ⟨g55, 0, none⟩) 2 (Nat.le_refl _) HV55.out (fun k hk => by have h15 := blk_lt BK15.out; omega)).mono ?_
          rintro e wq9 ⟨A57, c57, rfl, hc57, hv, hb⟩
          refine ⟨_, rfl, ?_⟩
          have HS := Aside0.mk (HS.out.below hb)
          have HV51 := Aside0.mk (Kd.F_below HV51.out hb)
          have HV54 := Aside0.mk (Kd.F_below HV54.out hb)
          have HV55 := Aside0.mk (Kd.F_below HV55.out hb)
          have BK15 := Aside0.mk (blk_below BK15.out hb)
          have HV57 := Aside0.mk hv
          have HC57 := Aside0.mk hc57
          clear hv hc57 hb
          refine hK.out _ _ ⟨(blk_cell HS.out.b11 0).trans rfl, (blk_cell HS.out.b11 1).trans rfl, (blk_cell HS.out.b11 2).trans rfl, (blk_cell HS.out.b11 3).trans rfl, (blk_cell HS.out.b12 0).trans rfl, (blk_cell HS.out.b12 1).trans rfl, (blk_cell HS.out.b12 2).trans rfl, (blk_cell HS.out.b12 3).trans rfl⟩ (fun hHeld => ?_)
          clear hK K
          refine norm_ (a' := ?_) ?_ ?_
          rotate_left
          · show Act.put _ (some 57) _ = _
            simp only [Act.put, List.setIfInBounds_toArray, List.set_cons_zero, List.set_cons_succ, i64_w, i32_w]
            rfl
          refine last_ (i := 11) (N := none) #[true, true, true, true, true, true, true, true, true, true, true, true] rfl rfl (by kernel_rfl) (by decide) (fun K hK => ?_)
          have cz0 := (blk_cell BK15.out 0).trans rfl
          have cz1 := (blk_cell BK15.out 1).trans rfl
          have cz2 := (blk_cell BK15.out 2).trans rfl
          have cz3 := (blk_cell BK15.out 3).trans rfl
          have fz0 := blk_frozen BK15.out 0
          have fz1 := blk_frozen BK15.out 1
          have fz2 := blk_frozen BK15.out 2
          have fz3 := blk_frozen BK15.out 3
          refine skip_ (w1 := ?_) (by rfl) rfl ?_ ?_
          rotate_left
          · go_simp
            rfl
          refine hK.out _ _ ?_
          clear hK K cz0 cz1 cz2 cz3 fz0 fz1 fz2 fz3
          refine done_ (by kernel_rfl) ?_
          try go_wp2
          go_meet
          case rel => exact ⟨g15, A57, c57, rfl, HC57, ⟨HS.out.box4 N15.out G15.out _ _ _ _⟩, ⟨put4 BK15.out _ _ _ _⟩, ⟨F_box4 HV57.out _ _ _ _⟩⟩
      · refine boxN_step (by rfl) rfl (cs := #[.int .i64 0, .string (⟨#[]⟩ : ByteArray), .int .i64 0, .slice none 0 0]) (t := 25) ?_ ?_
        · first | (go_simp; done) | (go_simp; rfl)
        intro g15 hg wq10 hbox hb
        have G15 := Aside0.mk (show W.heap.size ≤ g15 from (by rw [hg]; exact HS.out.bel.size))
        have N15 := Aside0.mk (HS.out.elder (Nat.le_of_eq hg.symm)).2
        have HS := Aside0.mk (HS.out.elder (Nat.le_of_eq hg.symm)).1
        have HV51 := Aside0.mk (Kd.F_mono (ok' := fun k => k ≠ g15) (Kd.F_elderB HV51.out g15 (Nat.le_of_eq hg.symm)) (fun _ hk => hk.2))
        have HS := Aside0.mk (HS.out.below hb)
        have HV51 := Aside0.mk (Kd.F_below HV51.out hb)
        have BK15 := Aside0.mk hbox
        clear hg hbox hb
        refine hK.out _ _ ⟨(blk_cell HS.out.b11 0).trans rfl, (blk_cell HS.out.b11 1).trans rfl, (blk_cell HS.out.b11 2).trans rfl, (blk_cell HS.out.b11 3).trans rfl, (blk_cell HS.out.b12 0).trans rfl, (blk_cell HS.out.b12 1).trans rfl, (blk_cell HS.out.b12 2).trans rfl, (blk_cell HS.out.b12 3).trans rfl⟩ (fun hHeld => ?_)
        clear hK K
        refine norm_ (a' := ?_) ?_ ?_
        rotate_left
        · show Act.put _ (some 15) _ = _
          simp only [Act.put, List.setIfInBounds_toArray, List.set_cons_zero, List.set_cons_succ, i64_w, i32_w]
          rfl
        refine one_ (i := 6) (N := some 54) #[true, true, true, true, true, true, true, false, false, false, true, false] rfl rfl (by kernel_rfl) (by decide) (fun K hK => ?_)
        refine goesT_ (t := 52) (lb := #[]) Try.func10 (by kernel_rfl) rfl #[.agg #[.int .i64 b.f0, .string b.f1, .int .i64 b.f2, .slice Ab b.f3.length cb]] (by rfl) rfl rfl (by rfl) (by simp only [List.map_toArray, List.map_cons, List.map_nil]; rfl) ?_
        refine (not_call (fun k => k ≠ g15) b Ab cb HL1.out HS.out.fb (fun k hk => by have h15 := blk_lt BK15.out; omega)).mono ?_
        rintro e wq11 ⟨A54, c54, rfl, hc54, hv, hb⟩
        refine ⟨_, rfl, ?_⟩
        have HS := Aside0.mk (HS.out.below hb)
        have HV51 := Aside0.mk (Kd.F_below HV51.out hb)
        have BK15 := Aside0.mk (blk_below BK15.out hb)
        have HV54 := Aside0.mk hv
        have HC54 := Aside0.mk hc54
        clear hv hc54 hb
        refine hK.out _ _ ⟨(blk_cell HS.out.b11 0).trans rfl, (blk_cell HS.out.b11 1).trans rfl, (blk_cell HS.out.b11 2).trans rfl, (blk_cell HS.out.b11 3).trans rfl, (blk_cell HS.out.b12 0).trans rfl, (blk_cell HS.out.b12 1).trans rfl, (blk_cell HS.out.b12 2).trans rfl, (blk_cell HS.out.b12 3).trans rfl⟩ (fun hHeld => ?_)
        clear hK K
        refine norm_ (a' := ?_) ?_ ?_
        rotate_left
        · show Act.put _ (some 54) _ = _
          simp only [Act.put, List.setIfInBounds_toArray, List.set_cons_zero, List.set_cons_succ, i64_w, i32_w]
          rfl
        refine one_ (i := 7) (N := some 55) #[true, true, true, true, true, true, true, true, false, false, true, false] rfl rfl (by kernel_rfl) (by decide) (fun K hK => ?_)
        refine row_step (by rfl) rfl (cs := #[.int .i64 5, .string (⟨#[]⟩ : ByteArray), .int .i64 0, .slice A51 1 c51, .int .i64 5, .string (⟨#[]⟩ : ByteArray), .int .i64 0, .slice A54 1 c54]) (t := 25) (n := 2) ?_ ?_
        · first | (go_simp; done) | (go_simp; rfl)
        intro g55 hg wq12 hbox hb
        have L15 := Aside0.mk (blk_lt BK15.out)
        have HS := Aside0.mk (HS.out.below hb)
        have HV51 := Aside0.mk (Kd.F_below HV51.out hb)
        have HV54 := Aside0.mk (Kd.F_below HV54.out hb)
        have BK15 := Aside0.mk (blk_below BK15.out hb)
        have HV55 := Aside0.mk (show Tr wq12 (fun k => k ≠ g15) (some ⟨g55, 0, none⟩) (allN (notN a) (notN b)).f3 from F_of (Q := fun k => k ≠ g15) (show g55 ≠ g15 from by have h15 := L15.out; rw [hg]; omega) [notN a, notN b] hbox (by simp) (by simp) (fun j x hj => by
          match j, hj with
          | 0, hj => (injection hj with hj; subst hj; exact ⟨A51, c51, HC51.out, HV51.out, rfl, rfl, rfl, rfl⟩)
          | 1, hj => (injection hj with hj; subst hj; exact ⟨A54, c54, HC54.out, HV54.out, rfl, rfl, rfl, rfl⟩)))
        clear hg hbox hb
        refine hK.out _ _ ⟨(blk_cell HS.out.b11 0).trans rfl, (blk_cell HS.out.b11 1).trans rfl, (blk_cell HS.out.b11 2).trans rfl, (blk_cell HS.out.b11 3).trans rfl, (blk_cell HS.out.b12 0).trans rfl, (blk_cell HS.out.b12 1).trans rfl, (blk_cell HS.out.b12 2).trans rfl, (blk_cell HS.out.b12 3).trans rfl⟩ (fun hHeld => ?_)
        clear hK K
        refine norm_ (a' := ?_) ?_ ?_
        rotate_left
        · show Act.put _ (some 55) _ = _
          simp only [Act.put, List.setIfInBounds_toArray, List.set_cons_zero, List.set_cons_succ, i64_w, i32_w]
          rfl
        refine pure_ (i := 8) (N := some 56) (v := ?_) (a' := ?_) #[true, true, true, true, true, true, true, true, true, false, true, false] rfl rfl (by kernel_rfl) (fun _ _ _ h => h) (Or.inl ⟨by rfl, ?_⟩) ?_ ?_
        rotate_left
        · intro w'
          go_simp
          with_reducible rfl
        rotate_left
        · simp only [Act.put, List.setIfInBounds_toArray, List.set_cons_zero, List.set_cons_succ, i64_w, i32_w]
          rfl
        refine one_ (i := 9) (N := some 57) #[true, true, true, true, true, true, true, true, true, true, true, false] rfl rfl (by kernel_rfl) (by decide) (fun K hK => ?_)
        refine goesT_ (t := 48) (lb := #[]) Try.func10 (by kernel_rfl) rfl #[.agg #[.int .i64 3, .string (⟨#[]⟩ : ByteArray), .int .i64 0, .slice (some ⟨g55, 0, none⟩) 2 2]] (by rfl) rfl rfl (by rfl) (by simp only [List.map_toArray, List.map_cons, List.map_nil]; rfl) ?_
        refine (not_call (fun k => k ≠ g15) (allN (notN a) (notN b)) (some ⟨g55, 0, none⟩) 2 (Nat.le_refl _) HV55.out (fun k hk => by have h15 := blk_lt BK15.out; omega)).mono ?_
        rintro e wq13 ⟨A57, c57, rfl, hc57, hv, hb⟩
        refine ⟨_, rfl, ?_⟩
        have HS := Aside0.mk (HS.out.below hb)
        have HV51 := Aside0.mk (Kd.F_below HV51.out hb)
        have HV54 := Aside0.mk (Kd.F_below HV54.out hb)
        have HV55 := Aside0.mk (Kd.F_below HV55.out hb)
        have BK15 := Aside0.mk (blk_below BK15.out hb)
        have HV57 := Aside0.mk hv
        have HC57 := Aside0.mk hc57
        clear hv hc57 hb
        refine hK.out _ _ ⟨(blk_cell HS.out.b11 0).trans rfl, (blk_cell HS.out.b11 1).trans rfl, (blk_cell HS.out.b11 2).trans rfl, (blk_cell HS.out.b11 3).trans rfl, (blk_cell HS.out.b12 0).trans rfl, (blk_cell HS.out.b12 1).trans rfl, (blk_cell HS.out.b12 2).trans rfl, (blk_cell HS.out.b12 3).trans rfl⟩ (fun hHeld => ?_)
        clear hK K
        refine norm_ (a' := ?_) ?_ ?_
        rotate_left
        · show Act.put _ (some 57) _ = _
          simp only [Act.put, List.setIfInBounds_toArray, List.set_cons_zero, List.set_cons_succ, i64_w, i32_w]
          rfl
        refine last_ (i := 11) (N := none) #[true, true, true, true, true, true, true, true, true, true, true, true] rfl rfl (by kernel_rfl) (by decide) (fun K hK => ?_)
        have cz0 := (blk_cell BK15.out 0).trans rfl
        have cz1 := (blk_cell BK15.out 1).trans rfl
        have cz2 := (blk_cell BK15.out 2).trans rfl
        have cz3 := (blk_cell BK15.out 3).trans rfl
        have fz0 := blk_frozen BK15.out 0
        have fz1 := blk_frozen BK15.out 1
        have fz2 := blk_frozen BK15.out 2
        have fz3 := blk_frozen BK15.out 3
        refine skip_ (w1 := ?_) (by rfl) rfl ?_ ?_
        rotate_left
        · go_simp
          rfl
        refine hK.out _ _ ?_
        clear hK K cz0 cz1 cz2 cz3 fz0 fz1 fz2 fz3
        refine done_ (by kernel_rfl) ?_
        try go_wp2
        go_meet
        case rel => exact ⟨g15, A57, c57, rfl, HC57, ⟨HS.out.box4 N15.out G15.out _ _ _ _⟩, ⟨put4 BK15.out _ _ _ _⟩, ⟨F_box4 HV57.out _ _ _ _⟩⟩
    · refine boxN_step (by rfl) rfl (cs := #[.int .i64 0, .string (⟨#[]⟩ : ByteArray), .int .i64 0, .slice none 0 0]) (t := 25) ?_ ?_
      · first | (go_simp; done) | (go_simp; rfl)
      intro g15 hg wq14 hbox hb
      have G15 := Aside0.mk (show W.heap.size ≤ g15 from (by rw [hg]; exact HS.out.bel.size))
      have N15 := Aside0.mk (HS.out.elder (Nat.le_of_eq hg.symm)).2
      have HS := Aside0.mk (HS.out.elder (Nat.le_of_eq hg.symm)).1
      have HS := Aside0.mk (HS.out.below hb)
      have BK15 := Aside0.mk hbox
      clear hg hbox hb
      refine hK.out _ _ ⟨(blk_cell HS.out.b11 0).trans rfl, (blk_cell HS.out.b11 1).trans rfl, (blk_cell HS.out.b11 2).trans rfl, (blk_cell HS.out.b11 3).trans rfl, (blk_cell HS.out.b12 0).trans rfl, (blk_cell HS.out.b12 1).trans rfl, (blk_cell HS.out.b12 2).trans rfl, (blk_cell HS.out.b12 3).trans rfl⟩ (fun hHeld => ?_)
      clear hK K
      refine norm_ (a' := ?_) ?_ ?_
      rotate_left
      · show Act.put _ (some 15) _ = _
        simp only [Act.put, List.setIfInBounds_toArray, List.set_cons_zero, List.set_cons_succ, i64_w, i32_w]
        rfl
      refine one_ (i := 3) (N := some 51) #[true, true, true, true, true, true, false, false, false, false, true, false] rfl rfl (by kernel_rfl) (by decide) (fun K hK => ?_)
      refine goesT_ (t := 49) (lb := #[]) Try.func10 (by kernel_rfl) rfl #[.agg #[.int .i64 a.f0, .string a.f1, .int .i64 a.f2, .slice Aa a.f3.length ca]] (by rfl) rfl rfl (by rfl) (by simp only [List.map_toArray, List.map_cons, List.map_nil]; rfl) ?_
      refine (not_call (fun k => k ≠ g15) a Aa ca HL0.out HS.out.fa (fun k hk => by have h15 := blk_lt BK15.out; omega)).mono ?_
      rintro e wq15 ⟨A51, c51, rfl, hc51, hv, hb⟩
      refine ⟨_, rfl, ?_⟩
      have HS := Aside0.mk (HS.out.below hb)
      have BK15 := Aside0.mk (blk_below BK15.out hb)
      have HV51 := Aside0.mk hv
      have HC51 := Aside0.mk hc51
      clear hv hc51 hb
      refine hK.out _ _ ⟨(blk_cell HS.out.b11 0).trans rfl, (blk_cell HS.out.b11 1).trans rfl, (blk_cell HS.out.b11 2).trans rfl, (blk_cell HS.out.b11 3).trans rfl, (blk_cell HS.out.b12 0).trans rfl, (blk_cell HS.out.b12 1).trans rfl, (blk_cell HS.out.b12 2).trans rfl, (blk_cell HS.out.b12 3).trans rfl⟩ (fun hHeld => ?_)
      clear hK K
      refine norm_ (a' := ?_) ?_ ?_
      rotate_left
      · show Act.put _ (some 51) _ = _
        simp only [Act.put, List.setIfInBounds_toArray, List.set_cons_zero, List.set_cons_succ, i64_w, i32_w]
        rfl
      refine one_ (i := 6) (N := some 54) #[true, true, true, true, true, true, true, false, false, false, true, false] rfl rfl (by kernel_rfl) (by decide) (fun K hK => ?_)
      refine goesT_ (t := 52) (lb := #[]) Try.func10 (by kernel_rfl) rfl #[.agg #[.int .i64 b.f0, .string b.f1, .int .i64 b.f2, .slice Ab b.f3.length cb]] (by rfl) rfl rfl (by rfl) (by simp only [List.map_toArray, List.map_cons, List.map_nil]; rfl) ?_
      refine (not_call (fun k => k ≠ g15) b Ab cb HL1.out HS.out.fb (fun k hk => by have h15 := blk_lt BK15.out; omega)).mono ?_
      rintro e wq16 ⟨A54, c54, rfl, hc54, hv, hb⟩
      refine ⟨_, rfl, ?_⟩
      have HS := Aside0.mk (HS.out.below hb)
      have HV51 := Aside0.mk (Kd.F_below HV51.out hb)
      have BK15 := Aside0.mk (blk_below BK15.out hb)
      have HV54 := Aside0.mk hv
      have HC54 := Aside0.mk hc54
      clear hv hc54 hb
      refine hK.out _ _ ⟨(blk_cell HS.out.b11 0).trans rfl, (blk_cell HS.out.b11 1).trans rfl, (blk_cell HS.out.b11 2).trans rfl, (blk_cell HS.out.b11 3).trans rfl, (blk_cell HS.out.b12 0).trans rfl, (blk_cell HS.out.b12 1).trans rfl, (blk_cell HS.out.b12 2).trans rfl, (blk_cell HS.out.b12 3).trans rfl⟩ (fun hHeld => ?_)
      clear hK K
      refine norm_ (a' := ?_) ?_ ?_
      rotate_left
      · show Act.put _ (some 54) _ = _
        simp only [Act.put, List.setIfInBounds_toArray, List.set_cons_zero, List.set_cons_succ, i64_w, i32_w]
        rfl
      refine one_ (i := 7) (N := some 55) #[true, true, true, true, true, true, true, true, false, false, true, false] rfl rfl (by kernel_rfl) (by decide) (fun K hK => ?_)
      refine row_step (by rfl) rfl (cs := #[.int .i64 5, .string (⟨#[]⟩ : ByteArray), .int .i64 0, .slice A51 1 c51, .int .i64 5, .string (⟨#[]⟩ : ByteArray), .int .i64 0, .slice A54 1 c54]) (t := 25) (n := 2) ?_ ?_
      · first | (go_simp; done) | (go_simp; rfl)
      intro g55 hg wq17 hbox hb
      have L15 := Aside0.mk (blk_lt BK15.out)
      have HS := Aside0.mk (HS.out.below hb)
      have HV51 := Aside0.mk (Kd.F_below HV51.out hb)
      have HV54 := Aside0.mk (Kd.F_below HV54.out hb)
      have BK15 := Aside0.mk (blk_below BK15.out hb)
      have HV55 := Aside0.mk (show Tr wq17 (fun k => k ≠ g15) (some ⟨g55, 0, none⟩) (allN (notN a) (notN b)).f3 from F_of (Q := fun k => k ≠ g15) (show g55 ≠ g15 from by have h15 := L15.out; rw [hg]; omega) [notN a, notN b] hbox (by simp) (by simp) (fun j x hj => by
        match j, hj with
        | 0, hj => (injection hj with hj; subst hj; exact ⟨A51, c51, HC51.out, HV51.out, rfl, rfl, rfl, rfl⟩)
        | 1, hj => (injection hj with hj; subst hj; exact ⟨A54, c54, HC54.out, HV54.out, rfl, rfl, rfl, rfl⟩)))
      clear hg hbox hb
      refine hK.out _ _ ⟨(blk_cell HS.out.b11 0).trans rfl, (blk_cell HS.out.b11 1).trans rfl, (blk_cell HS.out.b11 2).trans rfl, (blk_cell HS.out.b11 3).trans rfl, (blk_cell HS.out.b12 0).trans rfl, (blk_cell HS.out.b12 1).trans rfl, (blk_cell HS.out.b12 2).trans rfl, (blk_cell HS.out.b12 3).trans rfl⟩ (fun hHeld => ?_)
      clear hK K
      refine norm_ (a' := ?_) ?_ ?_
      rotate_left
      · show Act.put _ (some 55) _ = _
        simp only [Act.put, List.setIfInBounds_toArray, List.set_cons_zero, List.set_cons_succ, i64_w, i32_w]
        rfl
      refine pure_ (i := 8) (N := some 56) (v := ?_) (a' := ?_) #[true, true, true, true, true, true, true, true, true, false, true, false] rfl rfl (by kernel_rfl) (fun _ _ _ h => h) (Or.inl ⟨by rfl, ?_⟩) ?_ ?_
      rotate_left
      · intro w'
        go_simp
        with_reducible rfl
      rotate_left
      · simp only [Act.put, List.setIfInBounds_toArray, List.set_cons_zero, List.set_cons_succ, i64_w, i32_w]
        rfl
      refine one_ (i := 9) (N := some 57) #[true, true, true, true, true, true, true, true, true, true, true, false] rfl rfl (by kernel_rfl) (by decide) (fun K hK => ?_)
      refine goesT_ (t := 48) (lb := #[]) Try.func10 (by kernel_rfl) rfl #[.agg #[.int .i64 3, .string (⟨#[]⟩ : ByteArray), .int .i64 0, .slice (some ⟨g55, 0, none⟩) 2 2]] (by rfl) rfl rfl (by rfl) (by simp only [List.map_toArray, List.map_cons, List.map_nil]; rfl) ?_
      refine (not_call (fun k => k ≠ g15) (allN (notN a) (notN b)) (some ⟨g55, 0, none⟩) 2 (Nat.le_refl _) HV55.out (fun k hk => by have h15 := blk_lt BK15.out; omega)).mono ?_
      rintro e wq18 ⟨A57, c57, rfl, hc57, hv, hb⟩
      refine ⟨_, rfl, ?_⟩
      have HS := Aside0.mk (HS.out.below hb)
      have HV51 := Aside0.mk (Kd.F_below HV51.out hb)
      have HV54 := Aside0.mk (Kd.F_below HV54.out hb)
      have HV55 := Aside0.mk (Kd.F_below HV55.out hb)
      have BK15 := Aside0.mk (blk_below BK15.out hb)
      have HV57 := Aside0.mk hv
      have HC57 := Aside0.mk hc57
      clear hv hc57 hb
      refine hK.out _ _ ⟨(blk_cell HS.out.b11 0).trans rfl, (blk_cell HS.out.b11 1).trans rfl, (blk_cell HS.out.b11 2).trans rfl, (blk_cell HS.out.b11 3).trans rfl, (blk_cell HS.out.b12 0).trans rfl, (blk_cell HS.out.b12 1).trans rfl, (blk_cell HS.out.b12 2).trans rfl, (blk_cell HS.out.b12 3).trans rfl⟩ (fun hHeld => ?_)
      clear hK K
      refine norm_ (a' := ?_) ?_ ?_
      rotate_left
      · show Act.put _ (some 57) _ = _
        simp only [Act.put, List.setIfInBounds_toArray, List.set_cons_zero, List.set_cons_succ, i64_w, i32_w]
        rfl
      refine last_ (i := 11) (N := none) #[true, true, true, true, true, true, true, true, true, true, true, true] rfl rfl (by kernel_rfl) (by decide) (fun K hK => ?_)
      have cz0 := (blk_cell BK15.out 0).trans rfl
      have cz1 := (blk_cell BK15.out 1).trans rfl
      have cz2 := (blk_cell BK15.out 2).trans rfl
      have cz3 := (blk_cell BK15.out 3).trans rfl
      have fz0 := blk_frozen BK15.out 0
      have fz1 := blk_frozen BK15.out 1
      have fz2 := blk_frozen BK15.out 2
      have fz3 := blk_frozen BK15.out 3
      refine skip_ (w1 := ?_) (by rfl) rfl ?_ ?_
      rotate_left
      · go_simp
        rfl
      refine hK.out _ _ ?_
      clear hK K cz0 cz1 cz2 cz3 fz0 fz1 fz2 fz3
      refine done_ (by kernel_rfl) ?_
      try go_wp2
      go_meet
      case rel => exact ⟨g15, A57, c57, rfl, HC57, ⟨HS.out.box4 N15.out G15.out _ _ _ _⟩, ⟨put4 BK15.out _ _ _ _⟩, ⟨F_box4 HV57.out _ _ _ _⟩⟩
  case rest =>
    obtain ⟨g15, A57, c57, rfl, HC57, HS, BK15, HV57⟩ := hcut
    go_wp2
    go_loopg [16, 17, 58] 6 (fun kq v16 v17 v58 wr => ∃ (i : Nat) (m n : List Int) (Am : Option Addr) (cm : Nat) (An : Option Addr) (cn : Nat), v16 = .slice Am m.length cm ∧ v17 = .slice An n.length cn ∧ v58 = .int .i64 (i : Int) ∧ Aside0 (i + kq = 6) ∧ Aside0 (Rel a b m n) ∧ Aside0 (m.length ≤ cm) ∧ Aside0 (n.length ≤ cn) ∧ Aside0 (Kd.C (Kd.int .i64) wr Am m.length m) ∧ Aside0 (Kd.C (Kd.int .i64) wr An n.length n) ∧ Aside0 (Base Al W wr g11 g12 g14 gx a b Aa ca Ab cb) ∧ Aside0 (wr.heap[g15]? = some (.cells #[.int .i64 5, .string (⟨#[]⟩ : ByteArray), .int .i64 0, .slice A57 1 c57] 25 (0, 0))) ∧ Aside0 (Tr wr Al A57 (oppN a b).f3))
    case atStart => exact ⟨0, [], [], none, 0, none, 0, rfl, rfl, rfl, ⟨rfl⟩, ⟨.inl ⟨rfl, rfl⟩⟩, ⟨Nat.le_refl _⟩, ⟨Nat.le_refl _⟩, ⟨Kd.C_nil _ _⟩, ⟨Kd.C_nil _ _⟩, HS, BK15, HV57⟩
    case round =>
      clear HS BK15 HV57
      obtain ⟨i, m, n, Am, cm, An, cn, rfl, rfl, rfl, HI, HREL, Hm, Hn, HCm, HCn, HS, BK15, HV57⟩ := hrel
      by_cases hi : i < 6
      · have hi1 : (i : Int) < 6 := by omega
        have hib : decide ((i : Int) < 6) = true := decide_eq_true hi1
        have HI6 := Aside0.mk hi
        clear hi
        obtain ⟨r, m2, n2, ⟨kx, hx⟩, ⟨ky, hy⟩, hrel2, hm2, hn2⟩ := round_law a b WA.out WB.out ZA.out ZB.out (fun _ x => (ansV l2 (i : Int) x, ())) m n HREL.out
        have HFx := Aside0.mk (hx kx (Nat.le_refl _))
        have HFy := Aside0.mk (hy ky (Nat.le_refl _))
        have HR2l := Aside0.mk hrel2
        clear hx hy hrel2 hm2 hn2
        go_upto_region 13 with (fail)
        have HS := Aside0.mk (HS.out.below (Below.refl _ _).drew)
        have BK15 := Aside0.mk (blk_drew BK15.out)
        have HV57 := Aside0.mk (Kd.F_drew HV57.out)
        have HCm := Aside0.mk (Kd.C_drew HCm.out)
        have HCn := Aside0.mk (Kd.C_drew HCn.out)
        refine start_ (n := 13) (S := fun w' => w'.cell? ⟨g14, 0, none⟩ = some (.int .i64 4) ∧ w'.cell? ⟨g14, 1, none⟩ = some (.string (⟨#[]⟩ : ByteArray)) ∧ w'.cell? ⟨g14, 2, none⟩ = some (.int .i64 0) ∧ w'.cell? ⟨g14, 3, none⟩ = some (.slice (some ⟨gx, 0, none⟩) 2 2)) (ds := []) #[false, false, false, false, false, false, false, false, false, false, false, false, false] (by kernel_rfl) rfl rfl ⟨(blk_cell HS.out.b14 0).trans rfl, (blk_cell HS.out.b14 1).trans rfl, (blk_cell HS.out.b14 2).trans rfl, (blk_cell HS.out.b14 3).trans rfl⟩ (fun hHeld => ?_)
        refine pure_ (i := 1) (N := some 63) (v := ?_) (a' := ?_) #[false, true, false, false, false, false, false, false, false, false, false, false, false] rfl rfl (by kernel_rfl) (fun _ _ _ h => h) (Or.inl ⟨by rfl, ?_⟩) ?_ ?_
        rotate_left
        · intro w'
          go_simp
          with_reducible rfl
        rotate_left
        · simp only [Act.put, List.setIfInBounds_toArray, List.set_cons_zero, List.set_cons_succ, i64_w, i32_w]
          rfl
        refine pure_ (i := 2) (N := some 64) (v := ?_) (a' := ?_) #[false, true, true, false, false, false, false, false, false, false, false, false, false] rfl rfl (by kernel_rfl) (fun _ _ _ h => h) (Or.inl ⟨by rfl, ?_⟩) ?_ ?_
        rotate_left
        · intro w'
          go_simp
          with_reducible rfl
        rotate_left
        · simp only [Act.put, List.setIfInBounds_toArray, List.set_cons_zero, List.set_cons_succ, i64_w, i32_w]
          rfl
        refine pure_ (i := 3) (N := some 65) (v := ?_) (a' := ?_) #[false, true, true, true, false, false, false, false, false, false, false, false, false] rfl rfl (by kernel_rfl) (fun _ _ _ h => h) (Or.inl ⟨by rfl, ?_⟩) ?_ ?_
        rotate_left
        · intro w'
          go_simp
          with_reducible rfl
        rotate_left
        · simp only [Act.put, List.setIfInBounds_toArray, List.set_cons_zero, List.set_cons_succ, i64_w, i32_w]
          rfl
        refine take_ (i := 0) (N := some 62) (v := ?_) (a' := ?_) #[true, true, true, true, false, false, false, false, false, false, false, false, false] rfl rfl (by kernel_rfl) (fun _ _ _ h => h) (Or.inl ⟨by rfl, ?_⟩) hHeld ?_ ?_
        rotate_left
        · rintro w' ⟨s0, s1, s2, s3⟩
          go_simp
          with_reducible rfl
        rotate_left
        · simp only [Act.put, List.setIfInBounds_toArray, List.set_cons_zero, List.set_cons_succ, i64_w, i32_w]
          rfl
        refine one_ (i := 4) (N := some 66) #[true, true, true, true, true, false, false, false, false, false, false, false, false] rfl rfl (by kernel_rfl) (by decide) (fun K hK => ?_)
        refine goes_ Try.func11 (by kernel_rfl) rfl #[.slice A2 l2.length c2, .int .i64 (i : Int)] (by rfl) rfl rfl (by simp only [List.map_toArray, List.map_cons, List.map_nil]; rfl) ?_
        with_reducible refine (answers_any A2 c2 l2 (i : Int)).mono ?_
        rintro e wr1 ⟨gl, gr, rfl, hgl, hgr, hb⟩
        refine ⟨_, rfl, ?_⟩
        have HS := Aside0.mk (HS.out.below hb)
        have BK15 := Aside0.mk (blk_below BK15.out hb)
        have HV57 := Aside0.mk (Kd.F_below HV57.out hb)
        have HCm := Aside0.mk (Kd.C_below HCm.out hb)
        have HCn := Aside0.mk (Kd.C_below HCn.out hb)
        have HGL := Aside0.mk hgl
        have HGR := Aside0.mk hgr
        clear hgl hgr hb
        refine hK.out _ _ ⟨(blk_cell HS.out.b14 0).trans rfl, (blk_cell HS.out.b14 1).trans rfl, (blk_cell HS.out.b14 2).trans rfl, (blk_cell HS.out.b14 3).trans rfl⟩ (fun hHeld => ?_)
        clear hK K
        refine norm_ (a' := ?_) ?_ ?_
        rotate_left
        · show Act.put _ (some 66) _ = _
          simp only [Act.put, List.setIfInBounds_toArray, List.set_cons_zero, List.set_cons_succ, i64_w, i32_w]
          rfl
        refine one_ (i := 5) (N := some 67) #[true, true, true, true, true, true, false, false, false, false, false, false, false] rfl rfl (by kernel_rfl) (by decide) (fun K hK => ?_)
        refine goes_ Try.func7 (by kernel_rfl) rfl #[.agg #[.int .i64 4, .string (⟨#[]⟩ : ByteArray), .int .i64 0, .slice (some ⟨gx, 0, none⟩) 2 2], .slice Am m.length cm, .func (.func 34) #[] #[.pointer (some ⟨gl, 0, none⟩), .pointer (some ⟨gr, 0, none⟩)]] (by rfl) rfl rfl (by simp only [List.map_toArray, List.map_cons, List.map_nil]; rfl) ?_
        refine (Top_any kx (anyN a b) (some ⟨gx, 0, none⟩) 2 Am cm m (asks_answers HGL.out HGR.out (Kd.C_below HR2.out HS.out.bel)) (s := ()) (Below.refl _ _) (fun k hk => hk.2) (tr_now1 HS.out.fx) (Nat.le_refl _) HCm.out Hm.out HFx.out).mono ?_
        rintro e wr2 ⟨v_, rfl, hR, hb, _⟩
        refine ⟨_, rfl, ?_⟩
        have HS := Aside0.mk (HS.out.below hb)
        have BK15 := Aside0.mk (blk_below BK15.out hb)
        have HV57 := Aside0.mk (Kd.F_below HV57.out hb)
        have HCm := Aside0.mk (Kd.C_below HCm.out hb)
        have HCn := Aside0.mk (Kd.C_below HCn.out hb)
        obtain ⟨Am2, cm2, rfl⟩ := Kd.R_slice hR
        have HM2 := Aside0.mk (Kd.R_reads' hR).2
        clear hR hb
        refine hK.out _ _ ⟨(blk_cell HS.out.b14 0).trans rfl, (blk_cell HS.out.b14 1).trans rfl, (blk_cell HS.out.b14 2).trans rfl, (blk_cell HS.out.b14 3).trans rfl⟩ (fun hHeld => ?_)
        clear hK K
        refine norm_ (a' := ?_) ?_ ?_
        rotate_left
        · show Act.put _ (some 67) _ = _
          simp only [Act.put, List.setIfInBounds_toArray, List.set_cons_zero, List.set_cons_succ, i64_w, i32_w]
          rfl
        refine pure_ (i := 6) (N := some 61) (v := ?_) (a' := ?_) #[true, true, true, true, true, true, true, false, false, false, false, false, false] rfl rfl (by kernel_rfl) (fun _ _ _ h => h) (Or.inl ⟨by rfl, ?_⟩) ?_ ?_
        rotate_left
        · intro w'
          go_simp
          with_reducible rfl
        rotate_left
        · simp only [Act.put, List.setIfInBounds_toArray, List.set_cons_zero, List.set_cons_succ, i64_w, i32_w]
          rfl
        refine pure_ (i := 7) (N := some 68) (v := ?_) (a' := ?_) #[true, true, true, true, true, true, true, true, false, false, false, false, false] rfl rfl (by kernel_rfl) (fun _ _ _ h => h) (Or.inl ⟨by rfl, ?_⟩) ?_ ?_
        rotate_left
        · intro w'
          go_simp
          with_reducible rfl
        rotate_left
        · simp only [Act.put, List.setIfInBounds_toArray, List.set_cons_zero, List.set_cons_succ, i64_w, i32_w]
          rfl
        refine pure_ (i := 8) (N := some 69) (v := ?_) (a' := ?_) #[true, true, true, true, true, true, true, true, true, false, false, false, false] rfl rfl (by kernel_rfl) (fun _ _ _ h => h) (Or.inl ⟨by rfl, ?_⟩) ?_ ?_
        rotate_left
        · intro w'
          go_simp
          with_reducible rfl
        rotate_left
        · simp only [Act.put, List.setIfInBounds_toArray, List.set_cons_zero, List.set_cons_succ, i64_w, i32_w]
          rfl
        refine pure_ (i := 9) (N := some 70) (v := ?_) (a' := ?_) #[true, true, true, true, true, true, true, true, true, true, false, false, false] rfl rfl (by kernel_rfl) (fun _ _ _ h => h) (Or.inl ⟨by rfl, ?_⟩) ?_ ?_
        rotate_left
        · intro w'
          go_simp
          with_reducible rfl
        rotate_left
        · simp only [Act.put, List.setIfInBounds_toArray, List.set_cons_zero, List.set_cons_succ, i64_w, i32_w]
          rfl
        refine pure_ (i := 10) (N := some 19) (v := ?_) (a' := ?_) #[true, true, true, true, true, true, true, true, true, true, true, false, false] rfl rfl (by kernel_rfl) (fun _ _ _ h => h) (Or.inl ⟨by rfl, ?_⟩) ?_ ?_
        rotate_left
        · intro w'
          go_simp
          with_reducible rfl
        rotate_left
        · simp only [Act.put, List.setIfInBounds_toArray, List.set_cons_zero, List.set_cons_succ, i64_w, i32_w]
          rfl
        refine pure_ (i := 11) (N := some 20) (v := ?_) (a' := ?_) #[true, true, true, true, true, true, true, true, true, true, true, true, false] rfl rfl (by kernel_rfl) (fun _ _ _ h => h) (Or.inl ⟨by rfl, ?_⟩) ?_ ?_
        rotate_left
        · intro w'
          go_simp
          with_reducible rfl
        rotate_left
        · simp only [Act.put, List.setIfInBounds_toArray, List.set_cons_zero, List.set_cons_succ, i64_w, i32_w]
          rfl
        refine pure_ (i := 12) (N := some 21) (v := ?_) (a' := ?_) #[true, true, true, true, true, true, true, true, true, true, true, true, true] rfl rfl (by kernel_rfl) (fun _ _ _ h => h) (Or.inl ⟨by rfl, ?_⟩) ?_ ?_
        rotate_left
        · intro w'
          go_simp
          with_reducible rfl
        rotate_left
        · simp only [Act.put, List.setIfInBounds_toArray, List.set_cons_zero, List.set_cons_succ, i64_w, i32_w]
          rfl
        refine done_ (by kernel_rfl) ?_
  
        go_upto_region 14 with (fail)
        have HS := Aside0.mk (HS.out.below (Below.refl _ _).drew)
        have BK15 := Aside0.mk (blk_drew BK15.out)
        have HV57 := Aside0.mk (Kd.F_drew HV57.out)
        have HCm := Aside0.mk (Kd.C_drew HCm.out)
        have HCn := Aside0.mk (Kd.C_drew HCn.out)
        have HM2 := Aside0.mk (⟨HM2.out.1, Kd.C_drew HM2.out.2⟩ : _ ∧ _)
        refine start_ (n := 13) (S := fun w' => w'.cell? ⟨g15, 0, none⟩ = some (.int .i64 5) ∧ w'.cell? ⟨g15, 1, none⟩ = some (.string (⟨#[]⟩ : ByteArray)) ∧ w'.cell? ⟨g15, 2, none⟩ = some (.int .i64 0) ∧ w'.cell? ⟨g15, 3, none⟩ = some (.slice A57 1 c57)) (ds := []) #[false, false, false, false, false, false, false, false, false, false, false, false, false] (by kernel_rfl) rfl rfl ⟨(blk_cell BK15.out 0).trans rfl, (blk_cell BK15.out 1).trans rfl, (blk_cell BK15.out 2).trans rfl, (blk_cell BK15.out 3).trans rfl⟩ (fun hHeld => ?_)
        refine pure_ (i := 1) (N := some 73) (v := ?_) (a' := ?_) #[false, true, false, false, false, false, false, false, false, false, false, false, false] rfl rfl (by kernel_rfl) (fun _ _ _ h => h) (Or.inl ⟨by rfl, ?_⟩) ?_ ?_
        rotate_left
        · intro w'
          go_simp
          with_reducible rfl
        rotate_left
        · simp only [Act.put, List.setIfInBounds_toArray, List.set_cons_zero, List.set_cons_succ, i64_w, i32_w]
          rfl
        refine pure_ (i := 2) (N := some 74) (v := ?_) (a' := ?_) #[false, true, true, false, false, false, false, false, false, false, false, false, false] rfl rfl (by kernel_rfl) (fun _ _ _ h => h) (Or.inl ⟨by rfl, ?_⟩) ?_ ?_
        rotate_left
        · intro w'
          go_simp
          with_reducible rfl
        rotate_left
        · simp only [Act.put, List.setIfInBounds_toArray, List.set_cons_zero, List.set_cons_succ, i64_w, i32_w]
          rfl
        refine pure_ (i := 3) (N := some 75) (v := ?_) (a' := ?_) #[false, true, true, true, false, false, false, false, false, false, false, false, false] rfl rfl (by kernel_rfl) (fun _ _ _ h => h) (Or.inl ⟨by rfl, ?_⟩) ?_ ?_
        rotate_left
        · intro w'
          go_simp
          with_reducible rfl
        rotate_left
        · simp only [Act.put, List.setIfInBounds_toArray, List.set_cons_zero, List.set_cons_succ, i64_w, i32_w]
          rfl
        refine take_ (i := 0) (N := some 72) (v := ?_) (a' := ?_) #[true, true, true, true, false, false, false, false, false, false, false, false, false] rfl rfl (by kernel_rfl) (fun _ _ _ h => h) (Or.inl ⟨by rfl, ?_⟩) hHeld ?_ ?_
        rotate_left
        · rintro w' ⟨s0, s1, s2, s3⟩
          go_simp
          with_reducible rfl
        rotate_left
        · simp only [Act.put, List.setIfInBounds_toArray, List.set_cons_zero, List.set_cons_succ, i64_w, i32_w]
          rfl
        refine one_ (i := 4) (N := some 76) #[true, true, true, true, true, false, false, false, false, false, false, false, false] rfl rfl (by kernel_rfl) (by decide) (fun K hK => ?_)
        refine goes_ Try.func11 (by kernel_rfl) rfl #[.slice A2 l2.length c2, .int .i64 (i : Int)] (by rfl) rfl rfl (by simp only [List.map_toArray, List.map_cons, List.map_nil]; rfl) ?_
        with_reducible refine (answers_any A2 c2 l2 (i : Int)).mono ?_
        rintro e wr3 ⟨gl, gr, rfl, hgl, hgr, hb⟩
        refine ⟨_, rfl, ?_⟩
        have HS := Aside0.mk (HS.out.below hb)
        have BK15 := Aside0.mk (blk_below BK15.out hb)
        have HV57 := Aside0.mk (Kd.F_below HV57.out hb)
        have HCm := Aside0.mk (Kd.C_below HCm.out hb)
        have HCn := Aside0.mk (Kd.C_below HCn.out hb)
        have HGL := Aside0.mk hgl
        have HGR := Aside0.mk hgr
        have HM2 := Aside0.mk (⟨HM2.out.1, Kd.C_below HM2.out.2 hb⟩ : _ ∧ _)
        clear hgl hgr hb
        refine hK.out _ _ ⟨(blk_cell BK15.out 0).trans rfl, (blk_cell BK15.out 1).trans rfl, (blk_cell BK15.out 2).trans rfl, (blk_cell BK15.out 3).trans rfl⟩ (fun hHeld => ?_)
        clear hK K
        refine norm_ (a' := ?_) ?_ ?_
        rotate_left
        · show Act.put _ (some 76) _ = _
          simp only [Act.put, List.setIfInBounds_toArray, List.set_cons_zero, List.set_cons_succ, i64_w, i32_w]
          rfl
        refine one_ (i := 5) (N := some 77) #[true, true, true, true, true, true, false, false, false, false, false, false, false] rfl rfl (by kernel_rfl) (by decide) (fun K hK => ?_)
        refine goes_ Try.func7 (by kernel_rfl) rfl #[.agg #[.int .i64 5, .string (⟨#[]⟩ : ByteArray), .int .i64 0, .slice A57 1 c57], .slice An n.length cn, .func (.func 34) #[] #[.pointer (some ⟨gl, 0, none⟩), .pointer (some ⟨gr, 0, none⟩)]] (by rfl) rfl rfl (by simp only [List.map_toArray, List.map_cons, List.map_nil]; rfl) ?_
        refine (Top_any ky (oppN a b) A57 c57 An cn n (asks_answers HGL.out HGR.out (Kd.C_below HR2.out HS.out.bel)) (s := ()) (Below.refl _ _) (fun k hk => hk.2) (tr_now1 HV57.out) HC57.out HCn.out Hn.out HFy.out).mono ?_
        rintro e wr4 ⟨v_, rfl, hR, hb, _⟩
        refine ⟨_, rfl, ?_⟩
        have HS := Aside0.mk (HS.out.below hb)
        have BK15 := Aside0.mk (blk_below BK15.out hb)
        have HV57 := Aside0.mk (Kd.F_below HV57.out hb)
        have HCm := Aside0.mk (Kd.C_below HCm.out hb)
        have HCn := Aside0.mk (Kd.C_below HCn.out hb)
        have HM2 := Aside0.mk (⟨HM2.out.1, Kd.C_below HM2.out.2 hb⟩ : _ ∧ _)
        obtain ⟨An2, cn2, rfl⟩ := Kd.R_slice hR
        have HN2 := Aside0.mk (Kd.R_reads' hR).2
        clear hR hb
        refine hK.out _ _ ⟨(blk_cell BK15.out 0).trans rfl, (blk_cell BK15.out 1).trans rfl, (blk_cell BK15.out 2).trans rfl, (blk_cell BK15.out 3).trans rfl⟩ (fun hHeld => ?_)
        clear hK K
        refine norm_ (a' := ?_) ?_ ?_
        rotate_left
        · show Act.put _ (some 77) _ = _
          simp only [Act.put, List.setIfInBounds_toArray, List.set_cons_zero, List.set_cons_succ, i64_w, i32_w]
          rfl
        refine pure_ (i := 6) (N := some 71) (v := ?_) (a' := ?_) #[true, true, true, true, true, true, true, false, false, false, false, false, false] rfl rfl (by kernel_rfl) (fun _ _ _ h => h) (Or.inl ⟨by rfl, ?_⟩) ?_ ?_
        rotate_left
        · intro w'
          go_simp
          with_reducible rfl
        rotate_left
        · simp only [Act.put, List.setIfInBounds_toArray, List.set_cons_zero, List.set_cons_succ, i64_w, i32_w]
          rfl
        refine pure_ (i := 7) (N := some 78) (v := ?_) (a' := ?_) #[true, true, true, true, true, true, true, true, false, false, false, false, false] rfl rfl (by kernel_rfl) (fun _ _ _ h => h) (Or.inl ⟨by rfl, ?_⟩) ?_ ?_
        rotate_left
        · intro w'
          go_simp
          with_reducible rfl
        rotate_left
        · simp only [Act.put, List.setIfInBounds_toArray, List.set_cons_zero, List.set_cons_succ, i64_w, i32_w]
          rfl
        refine pure_ (i := 8) (N := some 79) (v := ?_) (a' := ?_) #[true, true, true, true, true, true, true, true, true, false, false, false, false] rfl rfl (by kernel_rfl) (fun _ _ _ h => h) (Or.inl ⟨by rfl, ?_⟩) ?_ ?_
        rotate_left
        · intro w'
          go_simp
          with_reducible rfl
        rotate_left
        · simp only [Act.put, List.setIfInBounds_toArray, List.set_cons_zero, List.set_cons_succ, i64_w, i32_w]
          rfl
        refine pure_ (i := 9) (N := some 80) (v := ?_) (a' := ?_) #[true, true, true, true, true, true, true, true, true, true, false, false, false] rfl rfl (by kernel_rfl) (fun _ _ _ h => h) (Or.inl ⟨by rfl, ?_⟩) ?_ ?_
        rotate_left
        · intro w'
          go_simp
          with_reducible rfl
        rotate_left
        · simp only [Act.put, List.setIfInBounds_toArray, List.set_cons_zero, List.set_cons_succ, i64_w, i32_w]
          rfl
        refine pure_ (i := 10) (N := some 22) (v := ?_) (a' := ?_) #[true, true, true, true, true, true, true, true, true, true, true, false, false] rfl rfl (by kernel_rfl) (fun _ _ _ h => h) (Or.inl ⟨by rfl, ?_⟩) ?_ ?_
        rotate_left
        · intro w'
          go_simp
          with_reducible rfl
        rotate_left
        · simp only [Act.put, List.setIfInBounds_toArray, List.set_cons_zero, List.set_cons_succ, i64_w, i32_w]
          rfl
        refine pure_ (i := 11) (N := some 23) (v := ?_) (a' := ?_) #[true, true, true, true, true, true, true, true, true, true, true, true, false] rfl rfl (by kernel_rfl) (fun _ _ _ h => h) (Or.inl ⟨by rfl, ?_⟩) ?_ ?_
        rotate_left
        · intro w'
          go_simp
          with_reducible rfl
        rotate_left
        · simp only [Act.put, List.setIfInBounds_toArray, List.set_cons_zero, List.set_cons_succ, i64_w, i32_w]
          rfl
        refine pure_ (i := 12) (N := some 24) (v := ?_) (a' := ?_) #[true, true, true, true, true, true, true, true, true, true, true, true, true] rfl rfl (by kernel_rfl) (fun _ _ _ h => h) (Or.inl ⟨by rfl, ?_⟩) ?_ ?_
        rotate_left
        · intro w'
          go_simp
          with_reducible rfl
        rotate_left
        · simp only [Act.put, List.setIfInBounds_toArray, List.set_cons_zero, List.set_cons_succ, i64_w, i32_w]
          rfl
        refine done_ (by kernel_rfl) ?_
  
        cases gk with
        | zero => exact absurd HI.out (by have := HI6.out; omega)
        | succ k1 =>
          go_wp2
          go_roundg k1
          case measure => omega
          case rel => exact ⟨i + 1, m2, n2, Am2, cm2, An2, cn2, rfl, rfl, (by first | rfl | simp), ⟨by have := HI.out; omega⟩, HR2l, ⟨HM2.out.1⟩, ⟨HN2.out.1⟩, ⟨HM2.out.2⟩, ⟨HN2.out.2⟩, HS, BK15, HV57⟩
      · have hi1 : ¬ (i : Int) < 6 := by omega
        have hib : decide ((i : Int) < 6) = false := decide_eq_false hi1
        go_wp2
        go_ret
        exact ⟨rfl, HS.out.bel⟩
end Go.Proofs.Ytbpgfjfkogdolaa.TreeOppWalkTreeOpposite
