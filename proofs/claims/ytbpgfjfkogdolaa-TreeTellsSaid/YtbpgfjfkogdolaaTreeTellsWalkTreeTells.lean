/- The walk of the law TreeTells. Under no condition but what stands at it. -/
import Derived.Test.YtbpgfjfkogdolaaTreeTellsMemTreeTells
import Derived.Outline
namespace Go.Proofs.Ytbpgfjfkogdolaa.TreeTellsWalkTreeTells
open Go Go.RowKit Go.Proofs.YtbpgfjfkogdolaaW.PrintWords Go.Proofs.YtbpgfjfkogdolaaW.PrintLast Go.Proofs.YtbpgfjfkogdolaaW.PrintMore Go.Proofs.Ytbpgfjfkogdolaa.PTreeTells Go.Proofs.Ytbpgfjfkogdolaa.Fnv Go.Proofs.Ytbpgfjfkogdolaa.TreePlainTreeTells Go.Proofs.Ytbpgfjfkogdolaa.TreeMemTreeTells Go.Proofs.Ytbpgfjfkogdolaa.TreeEvTreeTells Go.Proofs.Ytbpgfjfkogdolaa.TreeTTreeTells Go.Proofs.Ytbpgfjfkogdolaa.TreeRightTreeTells Go.Proofs.Ytbpgfjfkogdolaa.TreeCheckTreeTells Go.Proofs.Ytbpgfjfkogdolaa.TreeTopTreeTells Go.Proofs.Ytbpgfjfkogdolaa.TreeAnswersTreeTells Go.Proofs.Ytbpgfjfkogdolaa.TreeMindTreeTells Go.Proofs.Ytbpgfjfkogdolaa.TreeThinkTreeTells Go.Proofs.Ytbpgfjfkogdolaa.TreeMindOfTreeTells Go.Proofs.Ytbpgfjfkogdolaa.TreeStepsTreeTells Go.Proofs.Ytbpgfjfkogdolaa.TreeThinkMemTreeTells Go.Proofs.Ytbpgfjfkogdolaa.TreeTellsMemTreeTells
set_option linter.unusedVariables false
set_option linter.unusedSimpArgs false
abbrev IntsOk (l : List Int) : Prop := l.length ≤ 9223372036854775807 ∧ ∀ x ∈ l, (Lit.int .i64 x).wf = true
set_option maxHeartbeats 8000000 in
set_option maxRecDepth 100000 in
theorem walk (n : Nd) (A3 : Option Addr) (c3 : Nat) {W : World} (hc3 : n.f3.length ≤ c3) (hT : Kd.C k25 W A3 n.f3.length n.f3) (A1 : Option Addr) (c1 : Nat) (l1 : List Int) (hr1 : Kd.C (Kd.int .i64) W A1 l1.length l1) (hc1 : l1.length ≤ c1) (ok1 : IntsOk l1) (A2 : Option Addr) (c2 : Nat) (l2 : List Int) (hr2 : Kd.C (Kd.int .i64) W A2 l2.length l2) (hc2 : l2.length ≤ c2) (ok2 : IntsOk l2) :
    Calls Try.prog 4 #[.agg #[.int .i64 n.f0, .string n.f1, .int .i64 n.f2, .slice A3 n.f3.length c3], .slice A1 l1.length c1, .slice A2 l2.length c2] W fun e w' => e = .returned (.bool true) ∧ Below W.heap.size W w' := by
  obtain ⟨ka, ha⟩ := first_tells
  have HFA := Aside0.mk ha
  obtain ⟨r, cq, kf, hkf, hways⟩ := tells_ways (ansV l2 0) n l1
  have HKF := Aside0.mk hkf
  have HWAY := Aside0.mk hways
  have HT := Aside0.mk (show Tr W (fun k => k < W.heap.size) A3 n.f3 from Kd.C_F heapN hT)
  have HC3 := Aside0.mk hc3
  have HR1 := Aside0.mk hr1
  have HC1 := Aside0.mk hc1
  have HR2 := Aside0.mk hr2
  clear ha hkf hways hc3 hT hr1 hc1 ok1 hr2 hc2 ok2
  go_enter Try.func4, Try.ntmps4
  have hrr : (r != r) = false := bne_self_eq_false r
  go_upto_region 9 with (first | ((with_reducible refine gate_dst (N := 3) rfl ?_); refine box_event ?hg (N := 3) ?hd (cs := #[.int .i64 n.f0, .string n.f1, .int .i64 n.f2, .slice A3 n.f3.length c3]) (t := 25) ?hr ?_; (case hd => rfl); (case hg => rfl); (case hr => first | (go_simp; done) | (go_simp; rfl)); intro g3 hg w1 hbox hb; have HB1 := Aside0.mk hb; have BK3 := Aside0.mk hbox; have G3 := Aside0.mk (show W.heap.size ≤ g3 from Nat.le_of_eq hg.symm); clear hg hbox hb) | ((with_reducible refine gate_callee (f := 7) rfl ?_); refine goesL_ (some 24) rfl rfl Try.func7 (by kernel_rfl) rfl #[.agg #[.int .i64 1, .string (⟨#[97]⟩ : ByteArray), .int .i64 0, .slice none 0 0], .slice none 0 0, .func (.func 12) #[] #[]] rfl (by (try simp only [zm1, zm2, zm3]); first | done | rfl) ?_; (refine (Top_any ka asN none 0 none 0 [] (asks_pure (W0 := w1) (lb := #[]) (fun _ => 1) Try.func12 (by kernel_rfl) rfl (fun w x _ => (tourlaw5_TreeTells_1.calls x 1 w rfl).mono (fun e w' he => ⟨he.1, he.2.below⟩))) (s := ()) (Below.refl _ _) (fun k hk => hk.2) (tr_now1 (Kd.F_nil _ _ _)) (Nat.le_refl _) (Kd.C_nil _ _) (Nat.le_refl _) HFA.out).mono ?_); rintro e w2 ⟨v2, rfl, hR, hI, hle⟩; refine ⟨_, rfl, ?_⟩; have HB2 := Aside0.mk (HB1.out.trans (hI.mono HB1.out.size)); have BK3 := Aside0.mk (blk_below BK3.out hI); obtain ⟨Af, cf, rfl⟩ := Kd.R_slice hR; clear hR hI hle) | ((with_reducible refine gate_dst (N := 10) rfl ?_); refine box_event ?hg (N := 10) ?hd (cs := #[.int .i64 0]) (t := 3) ?hr ?_; (case hd => rfl); (case hg => rfl); (case hr => first | (go_simp; done) | (go_simp; rfl)); intro g10 hg w4 hbox hb; have G10 := Aside0.mk (show W.heap.size ≤ g10 from (by rw [hg]; exact HB2.out.size)); have N310 := Aside0.mk (show g3 ≠ g10 from by have := blk_lt BK3.out; omega); have HB4 := Aside0.mk (HB2.out.trans (hb.mono HB2.out.size)); have BK3 := Aside0.mk (blk_below BK3.out hb); have BK10 := Aside0.mk hbox; clear hg hbox hb; have cb0 := (blk_cell BK10.out 0).trans rfl; have fb0 := blk_frozen BK10.out 0; have e310 := N310.out; have e103 := N310.out.symm; have ca0 := (blk_cell BK3.out 0).trans rfl; have ca1 := (blk_cell BK3.out 1).trans rfl; have ca2 := (blk_cell BK3.out 2).trans rfl; have ca3 := (blk_cell BK3.out 3).trans rfl) | ((with_reducible refine gate_callee (f := 13) rfl ?_); refine goesL_ (some 40) rfl rfl Try.func13 (by kernel_rfl) rfl #[.agg #[.int .i64 n.f0, .string n.f1, .int .i64 n.f2, .slice A3 n.f3.length c3], .pointer (some ⟨g10, 0, none⟩)] rfl (by (try simp only [zm1, zm2, zm3]); first | done | rfl) ?_; (refine (Checks.on (TreeFaultTreeTells.fault_all (W0 := W) (ok := fun k => k < W.heap.size) (B := W.heap.size) (gP := g10) (fun _ h => h) G10.out rfl kf) n (w := (w4.setCell ⟨g10, 0, none⟩ (.int .i64 0))) (blk_put BK10.out 0 (.int .i64 0) rfl) (HB4.out.setCell G10.out (.int .i64 0)) HT.out HC3.out HKF.out).mono ?_); rintro e w6 ⟨rfl, hp, hb, hk⟩; refine ⟨_, rfl, ?_⟩; have HS := Aside0.mk (show Lw W w6 g3 g10 n A3 c3 cq from ⟨hb, hk.blk (blk_far BK3.out N310.out _) G3.out N310.out, hp⟩); clear hp hb hk cb0 fb0 e310 e103 HB1 HB2 HB4 BK3 BK10 ca0 ca1 ca2 ca3; have ca0 := (blk_cell HS.out.b3 0).trans rfl; have ca1 := (blk_cell HS.out.b3 1).trans rfl; have ca2 := (blk_cell HS.out.b3 2).trans rfl; have ca3 := (blk_cell HS.out.b3 3).trans rfl) | ((with_reducible refine gate_callee (f := 14) rfl ?_); refine goesL_ (some 42) rfl rfl Try.func14 (by kernel_rfl) rfl #[.agg #[.int .i64 n.f0, .string n.f1, .int .i64 n.f2, .slice A3 n.f3.length c3]] rfl (by (try simp only [zm1, zm2, zm3]); first | done | rfl) ?_; (refine (TreeAllTreeTells.Check_any kf n A3 c3 (ok := fun k => k < W.heap.size) (fun k hk => Nat.lt_of_lt_of_le hk HS.out.bel.size) (Kd.F_below HT.out HS.out.bel) HC3.out HKF.out).mono ?_); rintro e w7 ⟨rfl, hb⟩; refine ⟨_, rfl, ?_⟩; have HS := Aside0.mk (HS.out.below hb); clear hb ca0 ca1 ca2 ca3) | ((with_reducible refine gate_callee (f := 11) rfl ?_); refine goesL_ (some 46) rfl rfl Try.func11 (by kernel_rfl) rfl #[.slice A2 l2.length c2, .int .i64 0] rfl (by (try simp only [zm1, zm2, zm3]); first | done | rfl) ?_; (refine (answers_any A2 c2 l2 0).mono ?_); rintro e w8 ⟨gl, gr, rfl, hgl, hgr, hb⟩; refine ⟨_, rfl, ?_⟩; have HGL := Aside0.mk hgl; have HGR := Aside0.mk hgr; have HS := Aside0.mk (HS.out.below hb); clear hgl hgr hb; have ca0 := (blk_cell HS.out.b3 0).trans rfl; have ca1 := (blk_cell HS.out.b3 1).trans rfl; have ca2 := (blk_cell HS.out.b3 2).trans rfl; have ca3 := (blk_cell HS.out.b3 3).trans rfl))
  clear hrr
  rcases HWAY.out with ⟨hr0, k9, h9⟩ | ⟨hr0, d, hcq, bl, hright⟩
  · have H9 := Aside0.mk h9
    have hn0 : (r != 0) = true := bne_iff_ne.mpr hr0
    have hrr : (r == r) = true := beq_self_eq_true r
    clear h9 hr0 HWAY
    go_wp2_with (first | ((with_reducible refine gate_callee (f := 7) rfl ?_); refine goesL_ (some 51) rfl rfl Try.func7 (by kernel_rfl) rfl #[.agg #[.int .i64 n.f0, .string n.f1, .int .i64 n.f2, .slice A3 n.f3.length c3], .slice A1 l1.length c1, .func (.func 34) #[] #[.pointer (some ⟨gl, 0, none⟩), .pointer (some ⟨gr, 0, none⟩)]] rfl (by (try simp only [zm1, zm2, zm3]); first | done | rfl) ?_; (refine (Top_any k9 n A3 c3 A1 c1 l1 (asks_answers HGL.out HGR.out (Kd.C_below HR2.out HS.out.bel)) (s := ()) (Below.refl _ _) (fun k hk => hk.2) (tr_now1 (Kd.F_mono (Kd.F_below HT.out HS.out.bel) fun _ _ => trivial)) HC3.out (Kd.C_below HR1.out HS.out.bel) HC1.out H9.out).mono ?_); rintro e w9 ⟨v9, rfl, hR, hI, hle⟩; refine ⟨_, rfl, ?_⟩; have HGL := Aside0.mk (cellB hI HGL.out); have HGR := Aside0.mk (cellB hI HGR.out); have HS := Aside0.mk (HS.out.below hI); obtain ⟨Am, cm, rfl⟩ := Kd.R_slice hR; have HM := Aside0.mk (Kd.R_F hR); have HMC := Aside0.mk (Kd.R_reads' hR).2.1; clear hR hI hle ca0 ca1 ca2 ca3))
    go_ret
    exact ⟨rfl, HS.out.bel⟩
  · have e0 : r = 0 := hr0
    clear hr0 HWAY
    subst e0
    subst hcq
    obtain ⟨well, sz, ⟨ks, hks⟩, ⟨kb, hkb⟩, way⟩ := hright
    have HW := Aside0.mk well
    have HSZ := Aside0.mk sz
    have HKS := Aside0.mk hks
    have HKB := Aside0.mk hkb
    clear well sz hks hkb
    rcases way with ⟨hl0, hfin⟩ | ⟨hp, m, left, b, ⟨km, hkm⟩, ⟨hb1, hleft, hfin⟩ | ⟨hbad, k9, h9⟩⟩
    · subst hl0
      obtain ⟨q, f0, kids, fl, kt, kl, hth, htop, hkl, heq⟩ := fin2_on HW.out HSZ.out hfin
      have HTH := Aside0.mk hth
      have HTOP := Aside0.mk htop
      have HKL := Aside0.mk hkl
      have HEQ := Aside0.mk heq
      clear hfin hth htop hkl heq
      go_upto_region 12 with (first | ((with_reducible refine gate_callee (f := 7) rfl ?_); refine goesL_ (some 51) rfl rfl Try.func7 (by kernel_rfl) rfl #[.agg #[.int .i64 n.f0, .string n.f1, .int .i64 n.f2, .slice A3 n.f3.length c3], .slice A1 ([] : List Int).length c1, .func (.func 34) #[] #[.pointer (some ⟨gl, 0, none⟩), .pointer (some ⟨gr, 0, none⟩)]] rfl (by (try simp only [zm1, zm2, zm3]); first | done | rfl) ?_; (refine (Top_any kt n A3 c3 A1 c1 ([] : List Int) (asks_answers HGL.out HGR.out (Kd.C_below HR2.out HS.out.bel)) (s := ()) (Below.refl _ _) (fun k hk => hk.2) (tr_now1 (Kd.F_mono (Kd.F_below HT.out HS.out.bel) fun _ _ => trivial)) HC3.out (Kd.C_below HR1.out HS.out.bel) HC1.out HTOP.out).mono ?_); rintro e w9 ⟨v9, rfl, hR, hI, hle⟩; refine ⟨_, rfl, ?_⟩; have HGL := Aside0.mk (cellB hI HGL.out); have HGR := Aside0.mk (cellB hI HGR.out); have HS := Aside0.mk (HS.out.below hI); obtain ⟨Am, cm, rfl⟩ := Kd.R_slice hR; have HM := Aside0.mk (Kd.R_F hR); have HMC := Aside0.mk (Kd.R_reads' hR).2.1; clear hR hI hle ca0 ca1 ca2 ca3))
      have HS := Aside0.mk (HS.out.below (Below.refl _ _).drew)
      have HGL := Aside0.mk (cellB (Below.refl _ _).drew HGL.out)
      have HGR := Aside0.mk (cellB (Below.refl _ _).drew HGR.out)
      have HM := Aside0.mk (Kd.F_drew HM.out)
      refine start_ (n := 4) (S := fun w' => w'.cell? ⟨g3, 0, none⟩ = some (.int .i64 n.f0) ∧ w'.cell? ⟨g3, 1, none⟩ = some (.string n.f1) ∧ w'.cell? ⟨g3, 2, none⟩ = some (.int .i64 n.f2) ∧ w'.cell? ⟨g3, 3, none⟩ = some (.slice A3 n.f3.length c3) ∧ w'.cell? ⟨g10, 0, none⟩ = some (.int .i64 (szD d n : Int))) (ds := []) #[false, false, false, false] (by kernel_rfl) rfl rfl ⟨(blk_cell HS.out.b3 0).trans rfl, (blk_cell HS.out.b3 1).trans rfl, (blk_cell HS.out.b3 2).trans rfl, (blk_cell HS.out.b3 3).trans rfl, (blk_cell HS.out.b10 0).trans rfl⟩ (fun hHeld => ?_)
      generalize w9.drew = wd at HS HGL HGR HM hHeld ⊢
      refine take_ (i := 0) (N := some 69) (v := ?_) (a' := ?_) #[true, false, false, false] rfl rfl (by kernel_rfl) (fun _ _ _ h => h) (Or.inl ⟨by rfl, ?_⟩) hHeld ?_ ?_
      rotate_left
      · rintro w' ⟨s0, s1, s2, s3, s4⟩
        go_simp
        with_reducible rfl
      rotate_left
      · simp only [Act.put, List.setIfInBounds_toArray, List.set_cons_zero, List.set_cons_succ, i64_w, i32_w]
        rfl
      refine take_ (i := 2) (N := some 71) (v := ?_) (a' := ?_) #[true, false, true, false] rfl rfl (by kernel_rfl) (fun _ _ _ h => h) (Or.inl ⟨by rfl, ?_⟩) hHeld ?_ ?_
      rotate_left
      · rintro w' ⟨s0, s1, s2, s3, s4⟩
        go_simp
        with_reducible rfl
      rotate_left
      · simp only [Act.put, List.setIfInBounds_toArray, List.set_cons_zero, List.set_cons_succ, i64_w, i32_w]
        rfl
      refine one_ (i := 1) (N := some 70) #[true, true, true, false] rfl rfl (by kernel_rfl) (by decide) (fun K hK => ?_)
      refine goes_ Try.func15 (by kernel_rfl) rfl #[.agg #[.int .i64 n.f0, .string n.f1, .int .i64 n.f2, .slice A3 n.f3.length c3]] (by rfl) rfl rfl (by simp only [List.map_toArray, List.map_cons, List.map_nil]; rfl) ?_
      with_reducible refine (tree_Size.calls ks n.f0 n.f1 n.f2 A3 c3 n.f3 (szD d n : Int) _ (Kd.F_now (Kd.F_below HT.out HS.out.bel)) HC3.out HKS.out).mono ?_
      rintro e wa ⟨rfl, hb⟩
      refine ⟨_, rfl, ?_⟩
      have HS := Aside0.mk (HS.out.below hb)
      have HGL := Aside0.mk (cellB hb HGL.out)
      have HGR := Aside0.mk (cellB hb HGR.out)
      have HM := Aside0.mk (Kd.F_below HM.out hb)
      clear hb
      refine hK.out _ _ ⟨(blk_cell HS.out.b3 0).trans rfl, (blk_cell HS.out.b3 1).trans rfl, (blk_cell HS.out.b3 2).trans rfl, (blk_cell HS.out.b3 3).trans rfl, (blk_cell HS.out.b10 0).trans rfl⟩ (fun hHeld => ?_)
      clear hK K
      refine norm_ (a' := ?_) ?_ ?_
      rotate_left
      · show Act.put _ (some 70) _ = _
        simp only [Act.put, List.setIfInBounds_toArray, List.set_cons_zero, List.set_cons_succ, i64_w, i32_w]
        rfl
      refine pure_ (i := 3) (N := some 72) (v := ?_) (a' := ?_) #[true, true, true, true] rfl rfl (by kernel_rfl) (fun _ _ _ h => h) (Or.inl ⟨by rfl, ?_⟩) ?_ ?_
      rotate_left
      · intro w'
        go_simp
        with_reducible rfl
      rotate_left
      · simp only [Act.put, List.setIfInBounds_toArray, List.set_cons_zero, List.set_cons_succ, i64_w, i32_w]
        rfl
      refine done_ (by kernel_rfl) ?_
      have hss : ((szD d n : Int) != (szD d n : Int)) = false := bne_self_eq_false _
      have ca0 := (blk_cell HS.out.b3 0).trans rfl
      have ca1 := (blk_cell HS.out.b3 1).trans rfl
      have ca2 := (blk_cell HS.out.b3 2).trans rfl
      have ca3 := (blk_cell HS.out.b3 3).trans rfl
      go_upto_region 15 with (first | ((with_reducible refine gate_callee (f := 16) rfl ?_); refine goesL_ (some 74) rfl rfl Try.func16 (by kernel_rfl) rfl #[.agg #[.int .i64 n.f0, .string n.f1, .int .i64 n.f2, .slice A3 n.f3.length c3]] rfl (by (try simp only [zm1, zm2, zm3]); first | done | rfl) ?_; (refine (tourref5_Blank.calls kb n.f0 n.f1 n.f2 A3 c3 n.f3 0 bl _ (Kd.F_now (Kd.F_below HT.out HS.out.bel)) HC3.out HKB.out).mono ?_); rintro e wb ⟨vb, rfl, hR, hb⟩; refine ⟨_, rfl, ?_⟩; have HS := Aside0.mk (HS.out.below hb); have HGL := Aside0.mk (cellB hb HGL.out); have HGR := Aside0.mk (cellB hb HGR.out); have HM := Aside0.mk (Kd.F_below HM.out hb); obtain ⟨Ab, cb, rfl⟩ := Kd.R_slice hR; have HF := Aside0.mk (Kd.R_F hR); have HC := Aside0.mk (Kd.R_reads' hR).2.1; clear hR hb ca0 ca1 ca2 ca3) | ((with_reducible refine gate_dst (N := 16) rfl ?_); refine box_event ?hg (N := 16) ?hd (cs := #[.int .i64 0, .slice none 0 0]) (t := 40) ?hr ?_; (case hd => rfl); (case hg => rfl); (case hr => first | (go_simp; done) | (go_simp; rfl)); intro g16 hg wc hbox hb; have HB := Aside0.mk hb; have GE := Aside0.mk (Nat.le_of_eq hg.symm); have BK := Aside0.mk hbox; clear hg hbox hb; have cy0 := (blk_cell BK.out 0).trans rfl; have cy1 := (blk_cell BK.out 1).trans rfl; have fy0 := blk_frozen BK.out 0; have fy1 := blk_frozen BK.out 1))
      clear hss
      have HE := Aside0.mk (below2 HB.out GE.out (.int .i64 0) (.slice Ab bl.length cb))
      have HS := Aside0.mk (HS.out.below HE.out)
      have HGL := Aside0.mk (cellB HE.out HGL.out)
      have HGR := Aside0.mk (cellB HE.out HGR.out)
      have HM := Aside0.mk (Kd.F_below HM.out HE.out)
      have HF := Aside0.mk (Kd.F_below HF.out HE.out)
      have BK := Aside0.mk (put2 BK.out (.int .i64 0) (.slice Ab bl.length cb))
      clear HE HB GE cy0 cy1 fy0 fy1
      generalize ((wc.setCell ⟨g16, 0, none⟩ (.int .i64 0)).setCell ⟨g16, 1, none⟩ (.slice Ab bl.length cb)) = wd at HS HGL HGR HM HF BK ⊢
      have ca0 := (blk_cell HS.out.b3 0).trans rfl
      have ca1 := (blk_cell HS.out.b3 1).trans rfl
      have ca2 := (blk_cell HS.out.b3 2).trans rfl
      have ca3 := (blk_cell HS.out.b3 3).trans rfl
      have cx0 := (blk_cell BK.out 0).trans rfl
      have cx1 := (blk_cell BK.out 1).trans rfl
      go_upto_region 21 with (first | ((with_reducible refine gate_callee (f := 18) rfl ?_); refine goesL_ (some 108) rfl rfl Try.func18 (by kernel_rfl) rfl #[.agg #[.int .i64 n.f0, .string n.f1, .int .i64 n.f2, .slice A3 n.f3.length c3], .agg #[.int .i64 0, .slice Ab bl.length cb], .func (.func 34) #[] #[.pointer (some ⟨gl, 0, none⟩), .pointer (some ⟨gr, 0, none⟩)]] rfl (by (try simp only [zm1, zm2, zm3]); first | done | rfl) ?_; (refine ((show ThinkC (ansV l2 0) (q, ⟨f0, kids⟩, ()) n ⟨0, bl⟩ from HTH.out) Al _ A3 c3 Ab cb _ _ _ (pure_answers HGL.out HGR.out (Kd.C_below HR2.out HS.out.bel)) HC3.out HC.out (Kd.F_mono (Kd.F_below HT.out HS.out.bel) fun _ _ => trivial) HF.out (fun _ _ => trivial)).mono ?_); rintro e we ⟨At, ct, rfl, hct, hFt, hb⟩; refine ⟨_, rfl, ?_⟩; have HS := Aside0.mk (HS.out.below hb); have HGL := Aside0.mk (cellB hb HGL.out); have HGR := Aside0.mk (cellB hb HGR.out); have HM := Aside0.mk (Kd.F_below HM.out hb); have HFt := Aside0.mk hFt; have HCt := Aside0.mk hct; clear hct hFt hb cx0 cx1 ca0 ca1 ca2 ca3) | ((with_reducible refine gate_dst (N := 21) rfl ?_); refine box_event ?hg (N := 21) ?hd (cs := #[.int .i64 0, .slice none 0 0]) (t := 40) ?hr ?_; (case hd => rfl); (case hg => rfl); (case hr => first | (go_simp; done) | (go_simp; rfl)); intro g21 hg wf hbox hb; have HB := Aside0.mk hb; have GE := Aside0.mk (Nat.le_of_eq hg.symm); have BT := Aside0.mk hbox; clear hg hbox hb; have cy0 := (blk_cell BT.out 0).trans rfl; have cy1 := (blk_cell BT.out 1).trans rfl; have fy0 := blk_frozen BT.out 0; have fy1 := blk_frozen BT.out 1))
      have HE := Aside0.mk (below2 HB.out GE.out (.int .i64 f0) (.slice At kids.length ct))
      have HS := Aside0.mk (HS.out.below HE.out)
      have HM := Aside0.mk (Kd.F_below HM.out HE.out)
      have HGL := Aside0.mk (cellB HE.out HGL.out)
      have HGR := Aside0.mk (cellB HE.out HGR.out)
      have HFt := Aside0.mk (Kd.F_below HFt.out HE.out)
      have BT := Aside0.mk (put2 BT.out (.int .i64 f0) (.slice At kids.length ct))
      clear HE HB GE cy0 cy1 fy0 fy1
      generalize ((wf.setCell ⟨g21, 0, none⟩ (.int .i64 f0)).setCell ⟨g21, 1, none⟩ (.slice At kids.length ct)) = wg at HS HGL HGR HM HFt BT ⊢
      have ct0 := (blk_cell BT.out 0).trans rfl
      have ct1 := (blk_cell BT.out 1).trans rfl
      have hqq : (q == q) = true := beq_self_eq_true q
      go_wp2_with (first | ((with_reducible refine gate_callee (f := 20) rfl ?_); refine goesW_ (some 121) rfl ?hw Try.func20 (by kernel_rfl) rfl #[.agg #[.int .i64 f0, .slice At kids.length ct]] rfl (by (try simp only [zm1, zm2, zm3]); first | done | rfl) ?_; (case hw => rfl); (refine (tourref5_Mind_List.calls kl f0 At ct kids fl _ (Kd.F_now HFt.out) HCt.out HKL.out).mono ?_); rintro e wh ⟨v0_, rfl, hR, hb⟩; refine ⟨_, rfl, ?_⟩; have HS := Aside0.mk (HS.out.below hb); have HGL := Aside0.mk (cellB hb HGL.out); have HGR := Aside0.mk (cellB hb HGR.out); have HM := Aside0.mk (Kd.F_below HM.out hb); obtain ⟨Av, cv, rfl⟩ := Kd.R_slice hR; have HV := Aside0.mk (Kd.R_reads' hR); clear hR hb ct0 ct1) | ((with_reducible refine gate_callee (f := 19) rfl ?_); refine goesW_ (some 122) rfl ?hw Try.func19 (by kernel_rfl) rfl #[.slice Am fl.length cm, .slice Av fl.length cv] rfl (by (try simp only [zm1, zm2, zm3]); first | done | rfl) ?_; (case hw => rfl); (refine (slices_Equal_int_int.calls (fl.length + 1) Am cm fl Av cv fl true _ (Kd.F_now HM.out) HMC.out HV.out.2.2 HV.out.2.1 HEQ.out).mono ?_); rintro e wi ⟨rfl, hb⟩; refine ⟨_, rfl, ?_⟩; have HS := Aside0.mk (HS.out.below hb.below); clear hb))
      go_ret
      exact ⟨rfl, HS.out.bel⟩
    · subst hb1
      subst hleft
      have hgt : decide ((l1.length : Int) > 0) = true := decide_eq_true (by omega)
      have hgt2 : decide (0 < (l1.length : Int)) = true := decide_eq_true (by omega)
      have hgt3 : (0 < l1.length) = True := eq_true hp
      have hgt4 : (0 < (l1.length : Int)) = True := eq_true (by omega)
      have HKM := Aside0.mk hkm
      clear hkm hp
      obtain ⟨q, f0, kids, fl, kt, kl, hth, htop, hkl, heq⟩ := fin2_on HW.out HSZ.out hfin
      have HTH := Aside0.mk hth
      have HTOP := Aside0.mk htop
      have HKL := Aside0.mk hkl
      have HEQ := Aside0.mk heq
      clear hfin hth htop hkl heq
      go_upto_region 12 with (first | ((with_reducible refine gate_callee (f := 7) rfl ?_); refine goesL_ (some 51) rfl rfl Try.func7 (by kernel_rfl) rfl #[.agg #[.int .i64 n.f0, .string n.f1, .int .i64 n.f2, .slice A3 n.f3.length c3], .slice A1 l1.length c1, .func (.func 34) #[] #[.pointer (some ⟨gl, 0, none⟩), .pointer (some ⟨gr, 0, none⟩)]] rfl (by (try simp only [zm1, zm2, zm3]); first | done | rfl) ?_; (refine (Top_any kt n A3 c3 A1 c1 l1 (asks_answers HGL.out HGR.out (Kd.C_below HR2.out HS.out.bel)) (s := ()) (Below.refl _ _) (fun k hk => hk.2) (tr_now1 (Kd.F_mono (Kd.F_below HT.out HS.out.bel) fun _ _ => trivial)) HC3.out (Kd.C_below HR1.out HS.out.bel) HC1.out HTOP.out).mono ?_); rintro e w9 ⟨v9, rfl, hR, hI, hle⟩; refine ⟨_, rfl, ?_⟩; have HGL := Aside0.mk (cellB hI HGL.out); have HGR := Aside0.mk (cellB hI HGR.out); have HS := Aside0.mk (HS.out.below hI); obtain ⟨Am, cm, rfl⟩ := Kd.R_slice hR; have HM := Aside0.mk (Kd.R_F hR); have HMC := Aside0.mk (Kd.R_reads' hR).2.1; clear hR hI hle ca0 ca1 ca2 ca3))
      have HS := Aside0.mk (HS.out.below (Below.refl _ _).drew)
      have HGL := Aside0.mk (cellB (Below.refl _ _).drew HGL.out)
      have HGR := Aside0.mk (cellB (Below.refl _ _).drew HGR.out)
      have HM := Aside0.mk (Kd.F_drew HM.out)
      refine start_ (n := 4) (S := fun w' => w'.cell? ⟨g3, 0, none⟩ = some (.int .i64 n.f0) ∧ w'.cell? ⟨g3, 1, none⟩ = some (.string n.f1) ∧ w'.cell? ⟨g3, 2, none⟩ = some (.int .i64 n.f2) ∧ w'.cell? ⟨g3, 3, none⟩ = some (.slice A3 n.f3.length c3) ∧ w'.cell? ⟨g10, 0, none⟩ = some (.int .i64 (szD d n : Int))) (ds := []) #[false, false, false, false] (by kernel_rfl) rfl rfl ⟨(blk_cell HS.out.b3 0).trans rfl, (blk_cell HS.out.b3 1).trans rfl, (blk_cell HS.out.b3 2).trans rfl, (blk_cell HS.out.b3 3).trans rfl, (blk_cell HS.out.b10 0).trans rfl⟩ (fun hHeld => ?_)
      generalize w9.drew = wd at HS HGL HGR HM hHeld ⊢
      refine take_ (i := 0) (N := some 69) (v := ?_) (a' := ?_) #[true, false, false, false] rfl rfl (by kernel_rfl) (fun _ _ _ h => h) (Or.inl ⟨by rfl, ?_⟩) hHeld ?_ ?_
      rotate_left
      · rintro w' ⟨s0, s1, s2, s3, s4⟩
        go_simp
        with_reducible rfl
      rotate_left
      · simp only [Act.put, List.setIfInBounds_toArray, List.set_cons_zero, List.set_cons_succ, i64_w, i32_w]
        rfl
      refine take_ (i := 2) (N := some 71) (v := ?_) (a' := ?_) #[true, false, true, false] rfl rfl (by kernel_rfl) (fun _ _ _ h => h) (Or.inl ⟨by rfl, ?_⟩) hHeld ?_ ?_
      rotate_left
      · rintro w' ⟨s0, s1, s2, s3, s4⟩
        go_simp
        with_reducible rfl
      rotate_left
      · simp only [Act.put, List.setIfInBounds_toArray, List.set_cons_zero, List.set_cons_succ, i64_w, i32_w]
        rfl
      refine one_ (i := 1) (N := some 70) #[true, true, true, false] rfl rfl (by kernel_rfl) (by decide) (fun K hK => ?_)
      refine goes_ Try.func15 (by kernel_rfl) rfl #[.agg #[.int .i64 n.f0, .string n.f1, .int .i64 n.f2, .slice A3 n.f3.length c3]] (by rfl) rfl rfl (by simp only [List.map_toArray, List.map_cons, List.map_nil]; rfl) ?_
      with_reducible refine (tree_Size.calls ks n.f0 n.f1 n.f2 A3 c3 n.f3 (szD d n : Int) _ (Kd.F_now (Kd.F_below HT.out HS.out.bel)) HC3.out HKS.out).mono ?_
      rintro e wa ⟨rfl, hb⟩
      refine ⟨_, rfl, ?_⟩
      have HS := Aside0.mk (HS.out.below hb)
      have HGL := Aside0.mk (cellB hb HGL.out)
      have HGR := Aside0.mk (cellB hb HGR.out)
      have HM := Aside0.mk (Kd.F_below HM.out hb)
      clear hb
      refine hK.out _ _ ⟨(blk_cell HS.out.b3 0).trans rfl, (blk_cell HS.out.b3 1).trans rfl, (blk_cell HS.out.b3 2).trans rfl, (blk_cell HS.out.b3 3).trans rfl, (blk_cell HS.out.b10 0).trans rfl⟩ (fun hHeld => ?_)
      clear hK K
      refine norm_ (a' := ?_) ?_ ?_
      rotate_left
      · show Act.put _ (some 70) _ = _
        simp only [Act.put, List.setIfInBounds_toArray, List.set_cons_zero, List.set_cons_succ, i64_w, i32_w]
        rfl
      refine pure_ (i := 3) (N := some 72) (v := ?_) (a' := ?_) #[true, true, true, true] rfl rfl (by kernel_rfl) (fun _ _ _ h => h) (Or.inl ⟨by rfl, ?_⟩) ?_ ?_
      rotate_left
      · intro w'
        go_simp
        with_reducible rfl
      rotate_left
      · simp only [Act.put, List.setIfInBounds_toArray, List.set_cons_zero, List.set_cons_succ, i64_w, i32_w]
        rfl
      refine done_ (by kernel_rfl) ?_
      have hss : ((szD d n : Int) != (szD d n : Int)) = false := bne_self_eq_false _
      have ca0 := (blk_cell HS.out.b3 0).trans rfl
      have ca1 := (blk_cell HS.out.b3 1).trans rfl
      have ca2 := (blk_cell HS.out.b3 2).trans rfl
      have ca3 := (blk_cell HS.out.b3 3).trans rfl
      go_upto_region 15 with (first | ((with_reducible refine gate_callee (f := 16) rfl ?_); refine goesL_ (some 74) rfl rfl Try.func16 (by kernel_rfl) rfl #[.agg #[.int .i64 n.f0, .string n.f1, .int .i64 n.f2, .slice A3 n.f3.length c3]] rfl (by (try simp only [zm1, zm2, zm3]); first | done | rfl) ?_; (refine (tourref5_Blank.calls kb n.f0 n.f1 n.f2 A3 c3 n.f3 0 bl _ (Kd.F_now (Kd.F_below HT.out HS.out.bel)) HC3.out HKB.out).mono ?_); rintro e wb ⟨vb, rfl, hR, hb⟩; refine ⟨_, rfl, ?_⟩; have HS := Aside0.mk (HS.out.below hb); have HGL := Aside0.mk (cellB hb HGL.out); have HGR := Aside0.mk (cellB hb HGR.out); have HM := Aside0.mk (Kd.F_below HM.out hb); obtain ⟨Ab, cb, rfl⟩ := Kd.R_slice hR; have HF := Aside0.mk (Kd.R_F hR); have HC := Aside0.mk (Kd.R_reads' hR).2.1; clear hR hb ca0 ca1 ca2 ca3) | ((with_reducible refine gate_dst (N := 16) rfl ?_); refine box_event ?hg (N := 16) ?hd (cs := #[.int .i64 0, .slice none 0 0]) (t := 40) ?hr ?_; (case hd => rfl); (case hg => rfl); (case hr => first | (go_simp; done) | (go_simp; rfl)); intro g16 hg wc hbox hb; have HB := Aside0.mk hb; have GE := Aside0.mk (Nat.le_of_eq hg.symm); have BK := Aside0.mk hbox; clear hg hbox hb; have cy0 := (blk_cell BK.out 0).trans rfl; have cy1 := (blk_cell BK.out 1).trans rfl; have fy0 := blk_frozen BK.out 0; have fy1 := blk_frozen BK.out 1))
      clear hss
      have HE := Aside0.mk (below2 HB.out GE.out (.int .i64 0) (.slice Ab bl.length cb))
      have N16 := Aside0.mk (show g3 ≠ g16 ∧ g10 ≠ g16 ∧ gl ≠ g16 ∧ gr ≠ g16 from ⟨by have h1 := blk_lt HS.out.b3; have h2 := GE.out; omega, by have h1 := blk_lt HS.out.b10; have h2 := GE.out; omega, cell_ne HGL.out GE.out, cell_ne HGR.out GE.out⟩)
      have W16 := Aside0.mk (show W.heap.size ≤ g16 from Nat.le_trans HS.out.bel.size GE.out)
      have HM := Aside0.mk (Kd.F_elderB HM.out g16 GE.out)
      have HS := Aside0.mk (HS.out.below HE.out)
      have HGL := Aside0.mk (cellB HE.out HGL.out)
      have HGR := Aside0.mk (cellB HE.out HGR.out)
      have HM := Aside0.mk (Kd.F_below HM.out HE.out)
      have HF := Aside0.mk (Kd.F_below HF.out HE.out)
      have BK := Aside0.mk (put2 BK.out (.int .i64 0) (.slice Ab bl.length cb))
      clear HE HB GE cy0 cy1 fy0 fy1
      generalize ((wc.setCell ⟨g16, 0, none⟩ (.int .i64 0)).setCell ⟨g16, 1, none⟩ (.slice Ab bl.length cb)) = wd at HS HGL HGR HM HF BK ⊢
      have ca0 := (blk_cell HS.out.b3 0).trans rfl
      have ca1 := (blk_cell HS.out.b3 1).trans rfl
      have ca2 := (blk_cell HS.out.b3 2).trans rfl
      have ca3 := (blk_cell HS.out.b3 3).trans rfl
      go_upto_region 19 with (first | ((with_reducible refine gate_callee (f := 17) rfl ?_); refine goesL_ (some 81) rfl rfl Try.func17 (by kernel_rfl) rfl #[.agg #[.int .i64 n.f0, .string n.f1, .int .i64 n.f2, .slice A3 n.f3.length c3], .slice A1 l1.length c1] rfl (by (try simp only [zm1, zm2, zm3]); first | done | rfl) ?_; (refine (tourref5_MindOf.calls km n.f0 n.f1 n.f2 A3 c3 n.f3 (fun k => k < W.heap.size) A1 c1 l1 m.f0 m.f1 [] true wd (Kd.F_now (Kd.F_below HT.out HS.out.bel)) HC3.out (Kd.V_mk HC1.out (Kd.F_below (Kd.C_F (Kd.heap_int _) HR1.out) HS.out.bel)) HKM.out).mono ?_); rintro e wi ⟨v1_, v2_, rfl, hR, hV, hb⟩; refine ⟨_, rfl, ?_⟩; have L16 := Aside0.mk (blk_lt BK.out); have BK := Aside0.mk (blk_below BK.out hb); have HS := Aside0.mk (HS.out.below hb); have HGL := Aside0.mk (cellB hb HGL.out); have HGR := Aside0.mk (cellB hb HGR.out); have HM := Aside0.mk (Kd.F_below HM.out hb); obtain ⟨Ac, cc, rfl⟩ := Kd.R_slice hR; obtain ⟨Ad, cd, rfl⟩ := Kd.V_slice hV; have HF := Aside0.mk (Kd.R_F hR); have HC := Aside0.mk (Kd.R_reads' hR).2.1; clear hR hV hb ca0 ca1 ca2 ca3) | ((with_reducible refine gate_dst (N := 17) rfl ?_); refine box_event ?hg (N := 17) ?hd (cs := #[.int .i64 0, .slice none 0 0]) (t := 40) ?hr ?_; (case hd => rfl); (case hg => rfl); (case hr => first | (go_simp; done) | (go_simp; rfl)); intro g17 hg wj hbox hb; have HB := Aside0.mk hb; have GE := Aside0.mk (Nat.le_of_eq hg.symm); have BT := Aside0.mk hbox; clear hg hbox hb; have cy0 := (blk_cell BT.out 0).trans rfl; have cy1 := (blk_cell BT.out 1).trans rfl; have fy0 := blk_frozen BT.out 0; have fy1 := blk_frozen BT.out 1))
      have HE := Aside0.mk (below2 HB.out GE.out (.int .i64 m.f0) (.slice Ac m.f1.length cc))
      have HS := Aside0.mk (HS.out.below HE.out)
      have HGL := Aside0.mk (cellB HE.out HGL.out)
      have HGR := Aside0.mk (cellB HE.out HGR.out)
      have HM := Aside0.mk (Kd.F_below HM.out HE.out)
      have HF := Aside0.mk (Kd.F_below HF.out HE.out)
      have BK := Aside0.mk (blk_below BK.out HE.out)
      have BT := Aside0.mk (put2 BT.out (.int .i64 m.f0) (.slice Ac m.f1.length cc))
      clear HE HB GE cy0 cy1 fy0 fy1
      generalize ((wj.setCell ⟨g17, 0, none⟩ (.int .i64 m.f0)).setCell ⟨g17, 1, none⟩ (.slice Ac m.f1.length cc)) = wk at HS HGL HGR HM HF BK BT ⊢
      have cx0 := (blk_cell BT.out 0).trans rfl
      have cx1 := (blk_cell BT.out 1).trans rfl
      have cz0 := (blk_cell BK.out 0).trans rfl
      have cz1 := (blk_cell BK.out 1).trans rfl
      have fz0 := blk_frozen BK.out 0
      have fz1 := blk_frozen BK.out 1
      go_upto_region 20 with (fail)
      have HS := Aside0.mk ((HS.out.set W16.out N16.out.1 N16.out.2.1 0 (.int .i64 m.f0)).set W16.out N16.out.1 N16.out.2.1 1 (.slice Ac m.f1.length cc))
      have HGL := Aside0.mk (cellS (i := 1) (x := .slice Ac m.f1.length cc) (cellS (i := 0) (x := .int .i64 m.f0) HGL.out N16.out.2.2.1) N16.out.2.2.1)
      have HGR := Aside0.mk (cellS (i := 1) (x := .slice Ac m.f1.length cc) (cellS (i := 0) (x := .int .i64 m.f0) HGR.out N16.out.2.2.2) N16.out.2.2.2)
      have HM := Aside0.mk (Kd.F_far (p := ⟨g16, 1, none⟩) (Kd.F_far (p := ⟨g16, 0, none⟩) HM.out (fun _ hk => hk.2) (.int .i64 m.f0)) (fun _ hk => hk.2) (.slice Ac m.f1.length cc))
      have HF := Aside0.mk (Kd.F_mono (ok' := Al) (Kd.F_far (p := ⟨g16, 1, none⟩) (Kd.F_far (p := ⟨g16, 0, none⟩) HF.out (fun k hk => by show k ≠ g16; have h1 := L16.out; omega) (.int .i64 m.f0)) (fun k hk => by show k ≠ g16; have h1 := L16.out; omega) (.slice Ac m.f1.length cc)) (fun _ _ => trivial))
      have BK := Aside0.mk (put2 BK.out (.int .i64 m.f0) (.slice Ac m.f1.length cc))
      clear cx0 cx1 cz0 cz1 fz0 fz1 BT
      generalize ((wk.setCell ⟨g16, 0, none⟩ (.int .i64 m.f0)).setCell ⟨g16, 1, none⟩ (.slice Ac m.f1.length cc)) = wm at HS HGL HGR HM HF BK ⊢
      have ca0 := (blk_cell HS.out.b3 0).trans rfl
      have ca1 := (blk_cell HS.out.b3 1).trans rfl
      have ca2 := (blk_cell HS.out.b3 2).trans rfl
      have ca3 := (blk_cell HS.out.b3 3).trans rfl
      have cx0 := (blk_cell BK.out 0).trans rfl
      have cx1 := (blk_cell BK.out 1).trans rfl
      go_upto_region 21 with (first | ((with_reducible refine gate_callee (f := 18) rfl ?_); refine goesL_ (some 108) rfl rfl Try.func18 (by kernel_rfl) rfl #[.agg #[.int .i64 n.f0, .string n.f1, .int .i64 n.f2, .slice A3 n.f3.length c3], .agg #[.int .i64 m.f0, .slice Ac m.f1.length cc], .func (.func 34) #[] #[.pointer (some ⟨gl, 0, none⟩), .pointer (some ⟨gr, 0, none⟩)]] rfl (by (try simp only [zm1, zm2, zm3]); first | done | rfl) ?_; (refine ((show ThinkC (ansV l2 0) (q, ⟨f0, kids⟩, ()) n m from HTH.out) Al _ A3 c3 Ac cc _ _ _ (pure_answers HGL.out HGR.out (Kd.C_below HR2.out HS.out.bel)) HC3.out HC.out (Kd.F_mono (Kd.F_below HT.out HS.out.bel) fun _ _ => trivial) HF.out (fun _ _ => trivial)).mono ?_); rintro e we ⟨At, ct, rfl, hct, hFt, hb⟩; refine ⟨_, rfl, ?_⟩; have HS := Aside0.mk (HS.out.below hb); have HGL := Aside0.mk (cellB hb HGL.out); have HGR := Aside0.mk (cellB hb HGR.out); have HM := Aside0.mk (Kd.F_below HM.out hb); have HFt := Aside0.mk hFt; have HCt := Aside0.mk hct; clear hct hFt hb cx0 cx1 ca0 ca1 ca2 ca3) | ((with_reducible refine gate_dst (N := 21) rfl ?_); refine box_event ?hg (N := 21) ?hd (cs := #[.int .i64 0, .slice none 0 0]) (t := 40) ?hr ?_; (case hd => rfl); (case hg => rfl); (case hr => first | (go_simp; done) | (go_simp; rfl)); intro g21 hg wf hbox hb; have HB := Aside0.mk hb; have GE := Aside0.mk (Nat.le_of_eq hg.symm); have BT := Aside0.mk hbox; clear hg hbox hb; have cy0 := (blk_cell BT.out 0).trans rfl; have cy1 := (blk_cell BT.out 1).trans rfl; have fy0 := blk_frozen BT.out 0; have fy1 := blk_frozen BT.out 1))
      have HE := Aside0.mk (below2 HB.out GE.out (.int .i64 f0) (.slice At kids.length ct))
      have HS := Aside0.mk (HS.out.below HE.out)
      have HM := Aside0.mk (Kd.F_below HM.out HE.out)
      have HGL := Aside0.mk (cellB HE.out HGL.out)
      have HGR := Aside0.mk (cellB HE.out HGR.out)
      have HFt := Aside0.mk (Kd.F_below HFt.out HE.out)
      have BT := Aside0.mk (put2 BT.out (.int .i64 f0) (.slice At kids.length ct))
      clear HE HB GE cy0 cy1 fy0 fy1
      generalize ((wf.setCell ⟨g21, 0, none⟩ (.int .i64 f0)).setCell ⟨g21, 1, none⟩ (.slice At kids.length ct)) = wg at HS HGL HGR HM HFt BT ⊢
      have ct0 := (blk_cell BT.out 0).trans rfl
      have ct1 := (blk_cell BT.out 1).trans rfl
      have hqq : (q == q) = true := beq_self_eq_true q
      go_wp2_with (first | ((with_reducible refine gate_callee (f := 20) rfl ?_); refine goesW_ (some 121) rfl ?hw Try.func20 (by kernel_rfl) rfl #[.agg #[.int .i64 f0, .slice At kids.length ct]] rfl (by (try simp only [zm1, zm2, zm3]); first | done | rfl) ?_; (case hw => rfl); (refine (tourref5_Mind_List.calls kl f0 At ct kids fl _ (Kd.F_now HFt.out) HCt.out HKL.out).mono ?_); rintro e wh ⟨v0_, rfl, hR, hb⟩; refine ⟨_, rfl, ?_⟩; have HS := Aside0.mk (HS.out.below hb); have HGL := Aside0.mk (cellB hb HGL.out); have HGR := Aside0.mk (cellB hb HGR.out); have HM := Aside0.mk (Kd.F_below HM.out hb); obtain ⟨Av, cv, rfl⟩ := Kd.R_slice hR; have HV := Aside0.mk (Kd.R_reads' hR); clear hR hb ct0 ct1) | ((with_reducible refine gate_callee (f := 19) rfl ?_); refine goesW_ (some 122) rfl ?hw Try.func19 (by kernel_rfl) rfl #[.slice Am fl.length cm, .slice Av fl.length cv] rfl (by (try simp only [zm1, zm2, zm3]); first | done | rfl) ?_; (case hw => rfl); (refine (slices_Equal_int_int.calls (fl.length + 1) Am cm fl Av cv fl true _ (Kd.F_now HM.out) HMC.out HV.out.2.2 HV.out.2.1 HEQ.out).mono ?_); rintro e wi ⟨rfl, hb⟩; refine ⟨_, rfl, ?_⟩; have HS := Aside0.mk (HS.out.below hb.below); clear hb))
      go_ret
      exact ⟨rfl, HS.out.bel⟩
    · have H9 := Aside0.mk h9
      clear h9
      have hgt : decide ((l1.length : Int) > 0) = true := decide_eq_true (by omega)
      have hgt2 : decide (0 < (l1.length : Int)) = true := decide_eq_true (by omega)
      have hgt3 : (0 < l1.length) = True := eq_true hp
      have hgt4 : (0 < (l1.length : Int)) = True := eq_true (by omega)
      have HKM := Aside0.mk hkm
      clear hkm hp
      go_upto_region 12 with (first | ((with_reducible refine gate_callee (f := 7) rfl ?_); refine goesL_ (some 51) rfl rfl Try.func7 (by kernel_rfl) rfl #[.agg #[.int .i64 n.f0, .string n.f1, .int .i64 n.f2, .slice A3 n.f3.length c3], .slice A1 l1.length c1, .func (.func 34) #[] #[.pointer (some ⟨gl, 0, none⟩), .pointer (some ⟨gr, 0, none⟩)]] rfl (by (try simp only [zm1, zm2, zm3]); first | done | rfl) ?_; (refine (Top_any k9 n A3 c3 A1 c1 l1 (asks_answers HGL.out HGR.out (Kd.C_below HR2.out HS.out.bel)) (s := ()) (Below.refl _ _) (fun k hk => hk.2) (tr_now1 (Kd.F_mono (Kd.F_below HT.out HS.out.bel) fun _ _ => trivial)) HC3.out (Kd.C_below HR1.out HS.out.bel) HC1.out H9.out).mono ?_); rintro e w9 ⟨v9, rfl, hR, hI, hle⟩; refine ⟨_, rfl, ?_⟩; have HGL := Aside0.mk (cellB hI HGL.out); have HGR := Aside0.mk (cellB hI HGR.out); have HS := Aside0.mk (HS.out.below hI); obtain ⟨Am, cm, rfl⟩ := Kd.R_slice hR; have HM := Aside0.mk (Kd.R_F hR); have HMC := Aside0.mk (Kd.R_reads' hR).2.1; clear hR hI hle ca0 ca1 ca2 ca3))
      have HS := Aside0.mk (HS.out.below (Below.refl _ _).drew)
      have HGL := Aside0.mk (cellB (Below.refl _ _).drew HGL.out)
      have HGR := Aside0.mk (cellB (Below.refl _ _).drew HGR.out)
      have HM := Aside0.mk (Kd.F_drew HM.out)
      refine start_ (n := 4) (S := fun w' => w'.cell? ⟨g3, 0, none⟩ = some (.int .i64 n.f0) ∧ w'.cell? ⟨g3, 1, none⟩ = some (.string n.f1) ∧ w'.cell? ⟨g3, 2, none⟩ = some (.int .i64 n.f2) ∧ w'.cell? ⟨g3, 3, none⟩ = some (.slice A3 n.f3.length c3) ∧ w'.cell? ⟨g10, 0, none⟩ = some (.int .i64 (szD d n : Int))) (ds := []) #[false, false, false, false] (by kernel_rfl) rfl rfl ⟨(blk_cell HS.out.b3 0).trans rfl, (blk_cell HS.out.b3 1).trans rfl, (blk_cell HS.out.b3 2).trans rfl, (blk_cell HS.out.b3 3).trans rfl, (blk_cell HS.out.b10 0).trans rfl⟩ (fun hHeld => ?_)
      generalize w9.drew = wd at HS HGL HGR HM hHeld ⊢
      refine take_ (i := 0) (N := some 69) (v := ?_) (a' := ?_) #[true, false, false, false] rfl rfl (by kernel_rfl) (fun _ _ _ h => h) (Or.inl ⟨by rfl, ?_⟩) hHeld ?_ ?_
      rotate_left
      · rintro w' ⟨s0, s1, s2, s3, s4⟩
        go_simp
        with_reducible rfl
      rotate_left
      · simp only [Act.put, List.setIfInBounds_toArray, List.set_cons_zero, List.set_cons_succ, i64_w, i32_w]
        rfl
      refine take_ (i := 2) (N := some 71) (v := ?_) (a' := ?_) #[true, false, true, false] rfl rfl (by kernel_rfl) (fun _ _ _ h => h) (Or.inl ⟨by rfl, ?_⟩) hHeld ?_ ?_
      rotate_left
      · rintro w' ⟨s0, s1, s2, s3, s4⟩
        go_simp
        with_reducible rfl
      rotate_left
      · simp only [Act.put, List.setIfInBounds_toArray, List.set_cons_zero, List.set_cons_succ, i64_w, i32_w]
        rfl
      refine one_ (i := 1) (N := some 70) #[true, true, true, false] rfl rfl (by kernel_rfl) (by decide) (fun K hK => ?_)
      refine goes_ Try.func15 (by kernel_rfl) rfl #[.agg #[.int .i64 n.f0, .string n.f1, .int .i64 n.f2, .slice A3 n.f3.length c3]] (by rfl) rfl rfl (by simp only [List.map_toArray, List.map_cons, List.map_nil]; rfl) ?_
      with_reducible refine (tree_Size.calls ks n.f0 n.f1 n.f2 A3 c3 n.f3 (szD d n : Int) _ (Kd.F_now (Kd.F_below HT.out HS.out.bel)) HC3.out HKS.out).mono ?_
      rintro e wa ⟨rfl, hb⟩
      refine ⟨_, rfl, ?_⟩
      have HS := Aside0.mk (HS.out.below hb)
      have HGL := Aside0.mk (cellB hb HGL.out)
      have HGR := Aside0.mk (cellB hb HGR.out)
      have HM := Aside0.mk (Kd.F_below HM.out hb)
      clear hb
      refine hK.out _ _ ⟨(blk_cell HS.out.b3 0).trans rfl, (blk_cell HS.out.b3 1).trans rfl, (blk_cell HS.out.b3 2).trans rfl, (blk_cell HS.out.b3 3).trans rfl, (blk_cell HS.out.b10 0).trans rfl⟩ (fun hHeld => ?_)
      clear hK K
      refine norm_ (a' := ?_) ?_ ?_
      rotate_left
      · show Act.put _ (some 70) _ = _
        simp only [Act.put, List.setIfInBounds_toArray, List.set_cons_zero, List.set_cons_succ, i64_w, i32_w]
        rfl
      refine pure_ (i := 3) (N := some 72) (v := ?_) (a' := ?_) #[true, true, true, true] rfl rfl (by kernel_rfl) (fun _ _ _ h => h) (Or.inl ⟨by rfl, ?_⟩) ?_ ?_
      rotate_left
      · intro w'
        go_simp
        with_reducible rfl
      rotate_left
      · simp only [Act.put, List.setIfInBounds_toArray, List.set_cons_zero, List.set_cons_succ, i64_w, i32_w]
        rfl
      refine done_ (by kernel_rfl) ?_
      have hss : ((szD d n : Int) != (szD d n : Int)) = false := bne_self_eq_false _
      have ca0 := (blk_cell HS.out.b3 0).trans rfl
      have ca1 := (blk_cell HS.out.b3 1).trans rfl
      have ca2 := (blk_cell HS.out.b3 2).trans rfl
      have ca3 := (blk_cell HS.out.b3 3).trans rfl
      go_upto_region 15 with (first | ((with_reducible refine gate_callee (f := 16) rfl ?_); refine goesL_ (some 74) rfl rfl Try.func16 (by kernel_rfl) rfl #[.agg #[.int .i64 n.f0, .string n.f1, .int .i64 n.f2, .slice A3 n.f3.length c3]] rfl (by (try simp only [zm1, zm2, zm3]); first | done | rfl) ?_; (refine (tourref5_Blank.calls kb n.f0 n.f1 n.f2 A3 c3 n.f3 0 bl _ (Kd.F_now (Kd.F_below HT.out HS.out.bel)) HC3.out HKB.out).mono ?_); rintro e wb ⟨vb, rfl, hR, hb⟩; refine ⟨_, rfl, ?_⟩; have HS := Aside0.mk (HS.out.below hb); have HGL := Aside0.mk (cellB hb HGL.out); have HGR := Aside0.mk (cellB hb HGR.out); have HM := Aside0.mk (Kd.F_below HM.out hb); obtain ⟨Ab, cb, rfl⟩ := Kd.R_slice hR; have HF := Aside0.mk (Kd.R_F hR); have HC := Aside0.mk (Kd.R_reads' hR).2.1; clear hR hb ca0 ca1 ca2 ca3) | ((with_reducible refine gate_dst (N := 16) rfl ?_); refine box_event ?hg (N := 16) ?hd (cs := #[.int .i64 0, .slice none 0 0]) (t := 40) ?hr ?_; (case hd => rfl); (case hg => rfl); (case hr => first | (go_simp; done) | (go_simp; rfl)); intro g16 hg wc hbox hb; have HB := Aside0.mk hb; have GE := Aside0.mk (Nat.le_of_eq hg.symm); have BK := Aside0.mk hbox; clear hg hbox hb; have cy0 := (blk_cell BK.out 0).trans rfl; have cy1 := (blk_cell BK.out 1).trans rfl; have fy0 := blk_frozen BK.out 0; have fy1 := blk_frozen BK.out 1))
      clear hss
      have HE := Aside0.mk (below2 HB.out GE.out (.int .i64 0) (.slice Ab bl.length cb))
      have HS := Aside0.mk (HS.out.below HE.out)
      have HGL := Aside0.mk (cellB HE.out HGL.out)
      have HGR := Aside0.mk (cellB HE.out HGR.out)
      have HM := Aside0.mk (Kd.F_below HM.out HE.out)
      have HF := Aside0.mk (Kd.F_below HF.out HE.out)
      have BK := Aside0.mk (put2 BK.out (.int .i64 0) (.slice Ab bl.length cb))
      clear HE HB GE cy0 cy1 fy0 fy1
      generalize ((wc.setCell ⟨g16, 0, none⟩ (.int .i64 0)).setCell ⟨g16, 1, none⟩ (.slice Ab bl.length cb)) = wd at HS HGL HGR HM HF BK ⊢
      cases b with
      | false =>
        clear hbad
        have ca0 := (blk_cell HS.out.b3 0).trans rfl
        have ca1 := (blk_cell HS.out.b3 1).trans rfl
        have ca2 := (blk_cell HS.out.b3 2).trans rfl
        have ca3 := (blk_cell HS.out.b3 3).trans rfl
        go_wp2_with (first | ((with_reducible refine gate_callee (f := 17) rfl ?_); refine goesL_ (some 81) rfl rfl Try.func17 (by kernel_rfl) rfl #[.agg #[.int .i64 n.f0, .string n.f1, .int .i64 n.f2, .slice A3 n.f3.length c3], .slice A1 l1.length c1] rfl (by (try simp only [zm1, zm2, zm3]); first | done | rfl) ?_; (refine (tourref5_MindOf.calls km n.f0 n.f1 n.f2 A3 c3 n.f3 (fun k => k < W.heap.size) A1 c1 l1 m.f0 m.f1 left false wd (Kd.F_now (Kd.F_below HT.out HS.out.bel)) HC3.out (Kd.V_mk HC1.out (Kd.F_below (Kd.C_F (Kd.heap_int _) HR1.out) HS.out.bel)) HKM.out).mono ?_); rintro e wi ⟨v1_, v2_, rfl, hR, hV, hb⟩; refine ⟨_, rfl, ?_⟩; have L16 := Aside0.mk (blk_lt BK.out); have BK := Aside0.mk (blk_below BK.out hb); have HS := Aside0.mk (HS.out.below hb); have HGL := Aside0.mk (cellB hb HGL.out); have HGR := Aside0.mk (cellB hb HGR.out); have HM := Aside0.mk (Kd.F_below HM.out hb); obtain ⟨Ac, cc, rfl⟩ := Kd.R_slice hR; obtain ⟨Ad, cd, rfl⟩ := Kd.V_slice hV; have HF := Aside0.mk (Kd.R_F hR); have HC := Aside0.mk (Kd.R_reads' hR).2.1; clear hR hV hb ca0 ca1 ca2 ca3) | ((with_reducible refine gate_dst (N := 17) rfl ?_); refine box_event ?hg (N := 17) ?hd (cs := #[.int .i64 0, .slice none 0 0]) (t := 40) ?hr ?_; (case hd => rfl); (case hg => rfl); (case hr => first | (go_simp; done) | (go_simp; rfl)); intro g17 hg wj hbox hb; have HB := Aside0.mk hb; have GE := Aside0.mk (Nat.le_of_eq hg.symm); have BT := Aside0.mk hbox; clear hg hbox hb; have cy0 := (blk_cell BT.out 0).trans rfl; have cy1 := (blk_cell BT.out 1).trans rfl; have fy0 := blk_frozen BT.out 0; have fy1 := blk_frozen BT.out 1))
        go_ret
        exact ⟨rfl, (HS.out.bel.trans ((below2 HB.out GE.out _ _).mono HS.out.bel.size))⟩
      | true =>
        have hleft : 0 < left.length := List.length_pos_iff.mpr fun h => hbad ⟨rfl, h⟩
        have hlt : decide ((left.length : Int) > 0) = true := decide_eq_true (by omega)
        have hlt2 : decide (0 < (left.length : Int)) = true := decide_eq_true (by omega)
        have hlt3 : (0 < left.length) = True := eq_true hleft
        have hlt4 : (0 < (left.length : Int)) = True := eq_true (by omega)
        clear hbad hleft
        have ca0 := (blk_cell HS.out.b3 0).trans rfl
        have ca1 := (blk_cell HS.out.b3 1).trans rfl
        have ca2 := (blk_cell HS.out.b3 2).trans rfl
        have ca3 := (blk_cell HS.out.b3 3).trans rfl
        go_wp2_with (first | ((with_reducible refine gate_callee (f := 17) rfl ?_); refine goesL_ (some 81) rfl rfl Try.func17 (by kernel_rfl) rfl #[.agg #[.int .i64 n.f0, .string n.f1, .int .i64 n.f2, .slice A3 n.f3.length c3], .slice A1 l1.length c1] rfl (by (try simp only [zm1, zm2, zm3]); first | done | rfl) ?_; (refine (tourref5_MindOf.calls km n.f0 n.f1 n.f2 A3 c3 n.f3 (fun k => k < W.heap.size) A1 c1 l1 m.f0 m.f1 left true wd (Kd.F_now (Kd.F_below HT.out HS.out.bel)) HC3.out (Kd.V_mk HC1.out (Kd.F_below (Kd.C_F (Kd.heap_int _) HR1.out) HS.out.bel)) HKM.out).mono ?_); rintro e wi ⟨v1_, v2_, rfl, hR, hV, hb⟩; refine ⟨_, rfl, ?_⟩; have L16 := Aside0.mk (blk_lt BK.out); have BK := Aside0.mk (blk_below BK.out hb); have HS := Aside0.mk (HS.out.below hb); have HGL := Aside0.mk (cellB hb HGL.out); have HGR := Aside0.mk (cellB hb HGR.out); have HM := Aside0.mk (Kd.F_below HM.out hb); obtain ⟨Ac, cc, rfl⟩ := Kd.R_slice hR; obtain ⟨Ad, cd, rfl⟩ := Kd.V_slice hV; have HF := Aside0.mk (Kd.R_F hR); have HC := Aside0.mk (Kd.R_reads' hR).2.1; clear hR hV hb ca0 ca1 ca2 ca3) | ((with_reducible refine gate_dst (N := 17) rfl ?_); refine box_event ?hg (N := 17) ?hd (cs := #[.int .i64 0, .slice none 0 0]) (t := 40) ?hr ?_; (case hd => rfl); (case hg => rfl); (case hr => first | (go_simp; done) | (go_simp; rfl)); intro g17 hg wj hbox hb; have HB := Aside0.mk hb; have GE := Aside0.mk (Nat.le_of_eq hg.symm); have BT := Aside0.mk hbox; clear hg hbox hb; have cy0 := (blk_cell BT.out 0).trans rfl; have cy1 := (blk_cell BT.out 1).trans rfl; have fy0 := blk_frozen BT.out 0; have fy1 := blk_frozen BT.out 1))
        go_ret
        exact ⟨rfl, (HS.out.bel.trans ((below2 HB.out GE.out _ _).mono HS.out.bel.size))⟩
end Go.Proofs.Ytbpgfjfkogdolaa.TreeTellsWalkTreeTells
