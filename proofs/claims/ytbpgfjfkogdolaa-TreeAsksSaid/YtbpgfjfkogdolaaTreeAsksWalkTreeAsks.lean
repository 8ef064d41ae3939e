/- The walk of the law TreeAsks. Under no condition but what stands at it. -/
import Derived.Test.YtbpgfjfkogdolaaTreeAsksRoundTreeAsks
import Derived.Outline
namespace Go.Proofs.Ytbpgfjfkogdolaa.TreeAsksWalkTreeAsks
open Go Go.RowKit Go.Proofs.YtbpgfjfkogdolaaW.PrintWords Go.Proofs.YtbpgfjfkogdolaaW.PrintLast Go.Proofs.YtbpgfjfkogdolaaW.PrintMore Go.Proofs.Ytbpgfjfkogdolaa.PTreeAsks Go.Proofs.Ytbpgfjfkogdolaa.Fnv Go.Proofs.Ytbpgfjfkogdolaa.TreePlainTreeAsks Go.Proofs.Ytbpgfjfkogdolaa.TreeMemTreeAsks Go.Proofs.Ytbpgfjfkogdolaa.TreeEvTreeAsks Go.Proofs.Ytbpgfjfkogdolaa.TreeTTreeAsks Go.Proofs.Ytbpgfjfkogdolaa.TreeRightTreeAsks Go.Proofs.Ytbpgfjfkogdolaa.TreeTopTreeAsks Go.Proofs.Ytbpgfjfkogdolaa.TreeRowTreeAsks Go.Proofs.Ytbpgfjfkogdolaa.TreeCheckTreeAsks Go.Proofs.Ytbpgfjfkogdolaa.TreeAnswersTreeAsks Go.Proofs.Ytbpgfjfkogdolaa.TreeAsksLawTreeAsks Go.Proofs.Ytbpgfjfkogdolaa.TreeNamesTreeAsks Go.Proofs.Ytbpgfjfkogdolaa.TreeStepsTreeAsks Go.Proofs.Ytbpgfjfkogdolaa.TreeNamesMemTreeAsks Go.Proofs.Ytbpgfjfkogdolaa.TreeAsksMemTreeAsks Go.Proofs.Ytbpgfjfkogdolaa.TreeAsksRoundTreeAsks
set_option linter.unusedVariables false
set_option linter.unusedSimpArgs false
abbrev IntsOk (l : List Int) : Prop := l.length ≤ 9223372036854775807 ∧ ∀ x ∈ l, (Lit.int .i64 x).wf = true
theorem HasZ.below {w w' : World} {b : Nat} {A : Option Addr} {c : Nat} {Z : List ByteArray} (h : HasZ w b A c Z) (hb : Below w.heap.size w w') : HasZ w' b A c Z := ⟨h.1, fun hp => by obtain ⟨g, tl, e, hg, hr⟩ := h.2 hp; exact ⟨g, tl, e, hg, hr.below hb⟩⟩
theorem HasZ.zero {w : World} {b : Nat} {A : Option Addr} {c : Nat} {Z : List ByteArray} (h : HasZ w b A c Z) : HasZ w 0 A c Z := ⟨h.1, fun hp => by obtain ⟨g, tl, e, hg, hr⟩ := h.2 hp; exact ⟨g, tl, e, Nat.zero_le _, hr⟩⟩
theorem Laid.has {W0 : World} {g11 g8 g4 g10 : Nat} {AZ : Option Addr} {cZ : Nat} {Z : List ByteArray} {A2 : Option Addr} {c2 : Nat} {l2 : List Int} {k : Int} (h : Laid W0 g11 g8 g4 g10 AZ cZ Z A2 c2 l2 k) : HasZ W0 0 AZ cZ Z := ⟨h.zc, fun hp => by obtain ⟨g, tl, e, _, hr⟩ := h.z hp; exact ⟨g, tl, e, Nat.zero_le _, hr⟩⟩
theorem blk_lift {w w' : World} {B g : Nat} {o : Obj} (h : w.heap[g]? = some o) (hb : Below B w w') (hl : g < B) : w'.heap[g]? = some o := (hb.block g hl).trans h
theorem max_call {w : World} {b : Nat} {A : Option Addr} {c : Nat} {m : List Int} (hR : Kd.R (Kd.int .i64) 3 w b (fun k => b ≤ k) (.slice A m.length c) m) (hn : 0 < m.length) (hl : m.length ≤ 1000) (h0 : Go.Lib.maxOf m = 0) :
    Calls Try.prog 29 #[.slice A m.length c] w fun e w' => e = .returned (.int .i64 0) ∧ w' = w := by
  obtain ⟨ad, rfl, hc⟩ := R_cells hR hn
  obtain ⟨g, rfl⟩ := Kd.R_head hR
  have h := Try.slices_Max_int g 0 m.length c m w hn (Nat.le_refl _) (by omega) (fun j hj => by
    have h1 := hc j (.int .i64 (m.getD j 0)) (by rw [List.getElem?_map, List.getElem?_eq_getElem hj]; simp [List.getD_eq_getElem?_getD, List.getElem?_eq_getElem hj])
    have e : (Addr.add ⟨g, 0, none⟩ j) = ⟨g, 0 + j, none⟩ := by
      unfold Addr.add
      split <;> simp_all
    rwa [e] at h1)
  rw [List.take_length, h0] at h
  exact h
theorem HasZ.C {w : World} {b : Nat} {A : Option Addr} {c : Nat} {Z : List ByteArray} (h : HasZ w b A c Z) (hl : Z.length ≤ 1000) : Kd.C Kd.string w A Z.length Z := by
  refine ⟨rfl, by omega, fun hp => ?_⟩
  obtain ⟨g, tl, rfl, hg, hr⟩ := h.2 hp
  refine ⟨_, rfl, fun j x hj => ⟨[.string x], rfl, rfl, fun i u hi => ?_⟩⟩
  match i, hi with
  | 0, hi =>
    injection hi with hi
    subst hi
    have e3 : (Addr.add ⟨g, 0, none⟩ (j * Kd.string.sz + 0)) = ⟨g, j, none⟩ := by
      rw [show Kd.string.sz = 1 from rfl]
      unfold Addr.add
      split
      · next h0 => simp at h0; simp [h0]
      · simp
    have hl2 : j < Z.length := (List.getElem?_eq_some_iff.1 hj).1
    rw [e3, hr.cell, List.getElem?_append_left (by simpa using hl2), List.getElem?_map, hj]
    rfl
set_option maxHeartbeats 8000000 in
set_option maxRecDepth 100000 in
theorem walk (A0 : Option Addr) (c0 : Nat) (l0 : List Int) {W : World} (hr0 : Kd.C (Kd.int .i64) W A0 l0.length l0) (hc0 : l0.length ≤ c0) (ok0 : IntsOk l0) (A1 : Option Addr) (c1 : Nat) (l1 : List Int) (hr1 : Kd.C (Kd.int .i64) W A1 l1.length l1) (hc1 : l1.length ≤ c1) (ok1 : IntsOk l1) (a2 : Int) (ok2 : (Lit.int .i64 a2).wf = true) :
    Calls Try.prog 6 #[.slice A0 l0.length c0, .slice A1 l1.length c1, .int .i64 a2] W fun e w' => e = .returned (.bool true) ∧ Below W.heap.size W w' := by
  obtain ⟨n, ⟨kt, hkt⟩, hw, hs⟩ := TreeMadeTreeAsks.tree_made l0 ok0.1
  obtain ⟨kn, hkn⟩ := names_ev 3 n (Well.good 3 n hw).deep (by omega)
  have hnl := names_len 3 n
  obtain ⟨ks, hks⟩ := size_ev 3 n (Well.good 3 n hw).deep (by omega)
  obtain ⟨ki, hki⟩ := namesZ_sorted (namesN 3 n) (by omega)
  obtain ⟨Z, hZ⟩ : ∃ Z, (namesZ (namesN 3 n)).map bs = Z := ⟨_, rfl⟩
  have hzl : Z.length ≤ 1000 := by rw [← hZ, List.length_map]; have := namesZ_len (namesN 3 n); omega
  have hnm : Named (Go.Lib.containsS Z) 3 n := named_of 3 n hw fun x hx => (Go.Lib.containsS_iff Z x).mpr (by rw [← hZ]; exact namesZ_mem _ x hx)
  obtain ⟨z, hz⟩ : ∃ z, szD 3 n = z := ⟨_, rfl⟩
  have hzp := szD_pos 3 n
  rw [hZ] at hki
  have HRD := Aside0.mk (fun (k : Int) (m : List Int) (hm : m = [] ∨ Fit 3 n m) => round_asks (ansV l1 k) (Go.Lib.containsS Z) 3 n hw (by omega) hnm m hm)
  rw [hz] at hs hks hzp HRD
  have HKT := Aside0.mk (hkt kt (Nat.le_refl _))
  have HKN := Aside0.mk (hkn kn (Nat.le_refl _))
  have HKS := Aside0.mk (show tree_Size.f ks n.f0 n.f1 n.f2 n.f3 = some (z : Int) from hks ks (Nat.le_refl _))
  have HKI := Aside0.mk hki
  have HZE := Aside0.mk hZ
  have HZL := Aside0.mk hzl
  have HNL := Aside0.mk (show (namesN 3 n).length ≤ 1000 from by omega)
  have HZP := Aside0.mk (show 0 < z ∧ z ≤ 40 from ⟨hzp, hs⟩)
  have HR0 := Aside0.mk hr0
  have HC0 := Aside0.mk hc0
  have HR1 := Aside0.mk (Kd.C_F (Kd.heap_int _) hr1)
  have HBE := Aside0.mk (below_f a2 8 (by decide))
  have HBR := Aside0.mk (belowV_range a2 8 (by decide) (by decide))
  obtain ⟨bb, hbb⟩ : ∃ b, belowV a2 8 = b := ⟨_, rfl⟩
  rw [hbb] at HBE HBR
  have hz1 : decide ((z : Int) < 1) = false := decide_eq_false (by omega)
  clear hkt hkn hks hki hZ hzl hnl hz hzp hs hw hnm hr0 hc0 ok0 hr1 hc1 ok1 ok2 hbb
  go_enter Try.func6, Try.ntmps6
  go_upto_region 2 with (first | ((with_reducible refine gate_dst (N := 4) rfl ?_); refine box_event ?hg (N := 4) ?hd (cs := #[.slice A1 l1.length c1]) (t := 22) ?hr ?_; (case hd => rfl); (case hg => rfl); (case hr => first | (go_simp; done) | (go_simp; rfl)); intro g4 hg w1 hbox hb; have HB := Aside0.mk hb; have B4 := Aside0.mk hbox; clear hg hbox hb) | ((with_reducible refine gate_dst (N := 17) rfl ?_); (with_reducible refine gate_callee (f := 9) rfl ?_); refine goesL_ (some 17) rfl rfl Try.func9 (by kernel_rfl) rfl #[.slice A0 l0.length c0] rfl (by (simp only [List.map_toArray, List.map_cons, List.map_nil]); first | done | rfl) ?_; (refine (tourref5_Tree.calls kt A0 c0 l0 _ _ _ _ w1 (Kd.C_below HR0.out HB.out) HC0.out HKT.out).mono ?_); rintro e w2 ⟨v, rfl, hN, hb⟩; refine ⟨_, rfl, ?_⟩; obtain ⟨A3, c3, rfl⟩ := Kd.N_slice hN; have HC3 := Aside0.mk (Kd.N_reads' hN).2.1; have HT := Aside0.mk (show Tr w2 Al A3 n.f3 from Kd.F_mono (Kd.N_F hN) (fun _ _ => trivial)); have B4 := Aside0.mk (blk_below B4.out hb); have HB := Aside0.mk (HB.out.trans (hb.mono HB.out.size)); clear hN hb) | ((with_reducible refine gate_dst (N := 7) rfl ?_); refine box_event ?hg (N := 7) ?hd (cs := #[.int .i64 0, .string (⟨#[]⟩ : ByteArray), .int .i64 0, .slice none 0 0]) (t := 25) ?hr ?_; (case hd => rfl); (case hg => rfl); (case hr => first | (go_simp; done) | (go_simp; rfl)); intro g7 hg w3 hbox hb; have HE := Aside0.mk hb; have GE := Aside0.mk (Nat.le_of_eq hg.symm); have B7 := Aside0.mk hbox; clear hg hbox hb; have cz0 := (blk_cell B7.out 0).trans rfl; have fz0 := blk_frozen B7.out 0; have cz1 := (blk_cell B7.out 1).trans rfl; have fz1 := blk_frozen B7.out 1; have cz2 := (blk_cell B7.out 2).trans rfl; have fz2 := blk_frozen B7.out 2; have cz3 := (blk_cell B7.out 3).trans rfl; have fz3 := blk_frozen B7.out 3))
  have HE := Aside0.mk (below4 HE.out GE.out (.int .i64 n.f0) (.string n.f1) (.int .i64 n.f2) (.slice A3 n.f3.length c3))
  have B7 := Aside0.mk (put4 B7.out (.int .i64 n.f0) (.string n.f1) (.int .i64 n.f2) (.slice A3 n.f3.length c3))
  have HB := Aside0.mk (HB.out.trans (HE.out.mono HB.out.size))
  have B4 := Aside0.mk (blk_below B4.out HE.out)
  have HT := Aside0.mk (Kd.F_below HT.out HE.out)
  clear HE GE cz0 fz0 cz1 fz1 cz2 fz2 cz3 fz3
  generalize ((((w3.setCell ⟨g7, 0, none⟩ (.int .i64 n.f0)).setCell ⟨g7, 1, none⟩ (.string n.f1)).setCell ⟨g7, 2, none⟩ (.int .i64 n.f2)).setCell ⟨g7, 3, none⟩ (.slice A3 n.f3.length c3)) = w4 at HB B4 B7 HT ⊢
  have ct0 := (blk_cell B7.out 0).trans rfl
  have ct1 := (blk_cell B7.out 1).trans rfl
  have ct2 := (blk_cell B7.out 2).trans rfl
  have ct3 := (blk_cell B7.out 3).trans rfl
  go_upto_region 3 with (first | ((with_reducible refine gate_dst (N := 19) rfl ?_); (with_reducible refine gate_callee (f := 25) rfl ?_); refine goesL_ (some 19) rfl rfl Try.func25 (by kernel_rfl) rfl #[.agg #[.int .i64 n.f0, .string n.f1, .int .i64 n.f2, .slice A3 n.f3.length c3]] rfl (by (simp only [List.map_toArray, List.map_cons, List.map_nil]); first | done | rfl) ?_; (refine (Names_any n A3 c3 (Kd.F_now HT.out) HC3.out HKN.out HNL.out).mono ?_); rintro e w5 ⟨AZ, cZ, rfl, hZ, hb⟩; refine ⟨_, rfl, ?_⟩; rw [HZE.out] at hZ ⊢; have HZ := Aside0.mk hZ; have B4 := Aside0.mk (blk_below B4.out hb); have B7 := Aside0.mk (blk_below B7.out hb); have HT := Aside0.mk (Kd.F_below HT.out hb); have HB := Aside0.mk (HB.out.trans ((hb).mono HB.out.size)); clear hZ hb ct0 ct1 ct2 ct3) | ((with_reducible refine gate_dst (N := 8) rfl ?_); refine box_event ?hg (N := 8) ?hd (cs := #[.slice none 0 0]) (t := 50) ?hr ?_; (case hd => rfl); (case hg => rfl); (case hr => first | (go_simp; done) | (go_simp; rfl)); intro g8 hg w6 hbox hb; have HE := Aside0.mk hb; have GE := Aside0.mk (Nat.le_of_eq hg.symm); have B8 := Aside0.mk hbox; clear hg hbox hb; have cz0 := (blk_cell B8.out 0).trans rfl; have fz0 := blk_frozen B8.out 0))
  have HE := Aside0.mk (show Below w5.heap.size w5 (w6.setCell ⟨g8, 0, none⟩ (.slice AZ Z.length cZ)) from HE.out.setCell GE.out _)
  have B8 := Aside0.mk (show (w6.setCell ⟨g8, 0, none⟩ (.slice AZ Z.length cZ)).heap[g8]? = some (.cells #[.slice AZ Z.length cZ] 50 (0, 0)) from blk_put B8.out 0 _ rfl)
  have B4 := Aside0.mk (blk_below B4.out HE.out)
  have B7 := Aside0.mk (blk_below B7.out HE.out)
  have HT := Aside0.mk (Kd.F_below HT.out HE.out)
  have HB := Aside0.mk (HB.out.trans ((HE.out).mono HB.out.size))
  have HZ := Aside0.mk (HasZ.below HZ.out HE.out)
  clear HE GE cz0 fz0
  generalize (w6.setCell ⟨g8, 0, none⟩ (.slice AZ Z.length cZ)) = w7 at HB B4 B7 B8 HT HZ ⊢
  have ct0 := (blk_cell B7.out 0).trans rfl
  have ct1 := (blk_cell B7.out 1).trans rfl
  have ct2 := (blk_cell B7.out 2).trans rfl
  have ct3 := (blk_cell B7.out 3).trans rfl
  have c8 := (blk_cell B8.out 0).trans rfl
  go_wp2_with (first | ((with_reducible refine gate_dst (N := 21) rfl ?_); (with_reducible refine gate_callee (f := 15) rfl ?_); refine goesL_ (some 21) rfl rfl Try.func15 (by kernel_rfl) rfl #[.agg #[.int .i64 n.f0, .string n.f1, .int .i64 n.f2, .slice A3 n.f3.length c3]] rfl (by (simp only [List.map_toArray, List.map_cons, List.map_nil]); first | done | rfl) ?_; (refine (tree_Size.calls ks n.f0 n.f1 n.f2 A3 c3 n.f3 (z : Int) _ (Kd.F_now HT.out) HC3.out HKS.out).mono ?_); rintro e w8 ⟨rfl, hb⟩; refine ⟨_, rfl, ?_⟩; have B4 := Aside0.mk (blk_below B4.out hb); have B7 := Aside0.mk (blk_below B7.out hb); have HT := Aside0.mk (Kd.F_below HT.out hb); have HB := Aside0.mk (HB.out.trans ((hb).mono HB.out.size)); have B8 := Aside0.mk (blk_below B8.out hb); have HZ := Aside0.mk (HasZ.below HZ.out hb); clear hb ct0 ct1 ct2 ct3 c8; have c8 := (blk_cell B8.out 0).trans rfl) | ((with_reducible refine gate_dst (N := 25) rfl ?_); (with_reducible refine gate_callee (f := 26) rfl ?_); refine goesW_ (some 25) rfl ?hw Try.func26 (by kernel_rfl) rfl #[.slice AZ Z.length cZ] rfl (by (simp only [List.map_toArray, List.map_cons, List.map_nil]); first | done | rfl) ?_; (case hw => rfl); (refine (slices_IsSorted_string_string.calls ki AZ cZ Z true _ (HasZ.C HZ.out HZL.out) HZ.out.1 HKI.out).mono ?_); rintro e w9 ⟨rfl, hb0⟩; refine ⟨_, rfl, ?_⟩; have hb := hb0.below; have B4 := Aside0.mk (blk_below B4.out hb); have B7 := Aside0.mk (blk_below B7.out hb); have HT := Aside0.mk (Kd.F_below HT.out hb); have HB := Aside0.mk (HB.out.trans ((hb).mono HB.out.size)); have B8 := Aside0.mk (blk_below B8.out hb); have HZ := Aside0.mk (HasZ.below HZ.out hb); clear hb hb0 c8) | ((with_reducible refine gate_dst (N := 29) rfl ?_); (with_reducible refine gate_callee (f := 21) rfl ?_); refine goesL_ (some 29) rfl rfl Try.func21 (by kernel_rfl) rfl #[.int .i64 a2, .int .i64 8] rfl (by (simp only [List.map_toArray, List.map_cons, List.map_nil]); first | done | rfl) ?_; (refine (tourref5_Below.calls a2 8 bb _ HBE.out).mono ?_); rintro e wa ⟨rfl, hb0⟩; refine ⟨_, rfl, ?_⟩; have hb := hb0.below; have B4 := Aside0.mk (blk_below B4.out hb); have B7 := Aside0.mk (blk_below B7.out hb); have HT := Aside0.mk (Kd.F_below HT.out hb); have HB := Aside0.mk (HB.out.trans ((hb).mono HB.out.size)); have B8 := Aside0.mk (blk_below B8.out hb); have HZ := Aside0.mk (HasZ.below HZ.out hb); clear hb hb0))
  have HZ := Aside0.mk (HasZ.zero HZ.out)
  go_loopg [9, 30] bb.toNat (fun kq v9 v30 wr => ∃ (i : Int) (m : List Int) (Am : Option Addr) (cm : Nat), v9 = .slice Am m.length cm ∧ v30 = .int .i64 i ∧ Aside0 (i + kq = bb ∧ 0 ≤ i) ∧ Aside0 (m = [] ∨ Fit 3 n m) ∧ Aside0 (m.length ≤ cm) ∧ Aside0 (Kd.C (Kd.int .i64) wr Am m.length m) ∧ Aside0 (Below W.heap.size W wr) ∧ Aside0 (wr.heap[g4]? = some (.cells #[.slice A1 l1.length c1] 22 (0, 0))) ∧ Aside0 (wr.heap[g7]? = some (.cells #[.int .i64 n.f0, .string n.f1, .int .i64 n.f2, .slice A3 n.f3.length c3] 25 (0, 0))) ∧ Aside0 (wr.heap[g8]? = some (.cells #[.slice AZ Z.length cZ] 50 (0, 0))) ∧ Aside0 (HasZ wr 0 AZ cZ Z) ∧ Aside0 (Tr wr Al A3 n.f3))
  case atStart => exact ⟨0, [], none, 0, rfl, rfl, ⟨by have := HBR.out; omega⟩, ⟨.inl rfl⟩, ⟨Nat.le_refl _⟩, ⟨Kd.C_nil _ _⟩, HB, B4, B7, B8, HZ, HT⟩
  case round =>
    clear HB B4 B7 B8 HZ HT
    obtain ⟨i, m, Am, cm, rfl, rfl, HI, HREL, HMC, HM, HB, B4, B7, B8, HZ, HT⟩ := hrel
    by_cases hi : i < bb
    · have hib : decide (i < bb) = true := decide_eq_true hi
      have HIB := Aside0.mk hi
      clear hi
      obtain ⟨kf, r, m2, a, hF, ha0, haz, hl, hr0, hr2, hzs, hfit⟩ := HRD.out i m HREL.out
      have HF := Aside0.mk hF
      have HA := Aside0.mk (show 0 ≤ a ∧ a ≤ (z : Int) from ⟨ha0, haz⟩)
      have HL2 := Aside0.mk hl
      have HRR := Aside0.mk (show 0 ≤ r ∧ r ≤ 2 from ⟨hr0, hr2⟩)
      have HZS := Aside0.mk hzs
      have HFIT := Aside0.mk hfit
      clear hF ha0 haz hl hr0 hr2 hzs hfit
      have L8 := Aside0.mk (blk_lt B8.out)
      have L4 := Aside0.mk (blk_lt B4.out)
      have L7 := Aside0.mk (blk_lt B7.out)
      have WSZ := Aside0.mk HB.out.size
      have HZB0 := Aside0.mk (show ∀ gz, AZ = some ⟨gz, 0, none⟩ → 0 < Z.length → gz < wr.heap.size from fun gz e hp => (by obtain ⟨g', tl, e', _, hr⟩ := HZ.out.2 hp; rw [e] at e'; injection e' with e'; injection e' with e'; subst e'; exact hr.lt))
      have HTg := Aside0.mk (show Tr wr (fun k => k < wr.heap.size) A3 n.f3 from Kd.F_mono (Kd.F_bound HT.out) (fun _ hk => hk.2))
      clear HT
      go_upto_region 9 with (first | ((with_reducible refine gate_dst (N := 10) rfl ?_); refine box_event ?hg (N := 10) ?hd (cs := #[.int .i64 0]) (t := 3) ?hr ?_; (case hd => rfl); (case hg => rfl); (case hr => first | (go_simp; done) | (go_simp; rfl)); intro g10 hg wb hbox hb; have HE := Aside0.mk hb; have GE := Aside0.mk (Nat.le_of_eq hg.symm); have E10 := Aside0.mk hg; have B10 := Aside0.mk hbox; clear hg hbox hb; have cz0 := (blk_cell B10.out 0).trans rfl; have fz0 := blk_frozen B10.out 0))
      have HE := Aside0.mk (show Below wr.heap.size wr (wb.setCell ⟨g10, 0, none⟩ (.int .i64 i)) from HE.out.setCell GE.out _)
      have B10 := Aside0.mk (show (wb.setCell ⟨g10, 0, none⟩ (.int .i64 i)).heap[g10]? = some (.cells #[.int .i64 i] 3 (0, 0)) from blk_put B10.out 0 _ rfl)
      have HB := Aside0.mk (HB.out.trans ((HE.out).mono HB.out.size))
      have B4 := Aside0.mk (blk_below B4.out HE.out)
      have B7 := Aside0.mk (blk_below B7.out HE.out)
      have B8 := Aside0.mk (blk_below B8.out HE.out)
      have HZ := Aside0.mk (HasZ.below HZ.out HE.out)
      have HTg := Aside0.mk (Kd.F_below HTg.out HE.out)
      have HM := Aside0.mk (Kd.C_below HM.out HE.out)
      have S10 := Aside0.mk HE.out.size
      have T10 := Aside0.mk (blk_lt B10.out)
      clear HE GE cz0 fz0
      generalize (wb.setCell ⟨g10, 0, none⟩ (.int .i64 i)) = wc at HB B4 B7 B8 HZ HTg HM B10 S10 T10 ⊢
      go_upto_region 10 with (first | ((with_reducible refine gate_dst (N := 11) rfl ?_); refine box_event ?hg (N := 11) ?hd (cs := #[.int .i64 0]) (t := 3) ?hr ?_; (case hd => rfl); (case hg => rfl); (case hr => first | (go_simp; done) | (go_simp; rfl)); intro g11 hg wd hbox hb; have HE := Aside0.mk hb; have GE := Aside0.mk (Nat.le_of_eq hg.symm); have E11 := Aside0.mk hg; have B11 := Aside0.mk hbox; clear hg hbox hb; have cz0 := (blk_cell B11.out 0).trans rfl; have fz0 := blk_frozen B11.out 0))
      have HE := Aside0.mk (show Below wc.heap.size wc (wd.setCell ⟨g11, 0, none⟩ (.int .i64 0)) from HE.out.setCell GE.out _)
      have B11 := Aside0.mk (show (wd.setCell ⟨g11, 0, none⟩ (.int .i64 0)).heap[g11]? = some (.cells #[.int .i64 0] 3 (0, 0)) from blk_put B11.out 0 _ rfl)
      have HB := Aside0.mk (HB.out.trans ((HE.out).mono HB.out.size))
      have B4 := Aside0.mk (blk_below B4.out HE.out)
      have B7 := Aside0.mk (blk_below B7.out HE.out)
      have B8 := Aside0.mk (blk_below B8.out HE.out)
      have HZ := Aside0.mk (HasZ.below HZ.out HE.out)
      have HTg := Aside0.mk (Kd.F_below HTg.out HE.out)
      have HM := Aside0.mk (Kd.C_below HM.out HE.out)
      have B10 := Aside0.mk (blk_below B10.out HE.out)
      have S11 := Aside0.mk HE.out.size
      have T11 := Aside0.mk (blk_lt B11.out)
      clear HE GE cz0 fz0
      generalize (wd.setCell ⟨g11, 0, none⟩ (.int .i64 0)) = we at HB B4 B7 B8 HZ HTg HM B10 B11 S11 T11 ⊢
      go_upto_region 11 with (first | ((with_reducible refine gate_dst (N := 12) rfl ?_); refine box_event ?hg (N := 12) ?hd (cs := #[.bool false]) (t := 4) ?hr ?_; (case hd => rfl); (case hg => rfl); (case hr => first | (go_simp; done) | (go_simp; rfl)); intro g12 hg wf hbox hb; have HE := Aside0.mk hb; have GE := Aside0.mk (Nat.le_of_eq hg.symm); have E12 := Aside0.mk hg; have B12 := Aside0.mk hbox; clear hg hbox hb; have cz0 := (blk_cell B12.out 0).trans rfl; have fz0 := blk_frozen B12.out 0))
      have HE := Aside0.mk (show Below we.heap.size we (wf.setCell ⟨g12, 0, none⟩ (.bool true)) from HE.out.setCell GE.out _)
      have B12 := Aside0.mk (show (wf.setCell ⟨g12, 0, none⟩ (.bool true)).heap[g12]? = some (.cells #[.bool true] 4 (0, 0)) from blk_put B12.out 0 _ rfl)
      have HB := Aside0.mk (HB.out.trans ((HE.out).mono HB.out.size))
      have B4 := Aside0.mk (blk_below B4.out HE.out)
      have B7 := Aside0.mk (blk_below B7.out HE.out)
      have B8 := Aside0.mk (blk_below B8.out HE.out)
      have HZ := Aside0.mk (HasZ.below HZ.out HE.out)
      have HTg := Aside0.mk (Kd.F_below HTg.out HE.out)
      have HM := Aside0.mk (Kd.C_below HM.out HE.out)
      have B10 := Aside0.mk (blk_below B10.out HE.out)
      have B11 := Aside0.mk (blk_below B11.out HE.out)
      have S12 := Aside0.mk HE.out.size
      have T12 := Aside0.mk (blk_lt B12.out)
      clear HE GE cz0 fz0
      generalize (wf.setCell ⟨g12, 0, none⟩ (.bool true)) = wg at HB B4 B7 B8 HZ HTg HM B10 B11 B12 S12 T12 ⊢
      have G11 := Aside0.mk (show wr.heap.size ≤ g10 ∧ g10 < g11 ∧ g11 < g12 ∧ g12 < wg.heap.size ∧ wr.heap.size < g11 from (by have h10 := E10.out; have h11 := E11.out; have h12 := E12.out; have s10 := S10.out; have s11 := S11.out; have s12 := S12.out; have t10 := T10.out; have t11 := T11.out; have t12 := T12.out; omega))
      have WR := Aside0.mk (show W.heap.size ≤ g11 from Nat.le_trans WSZ.out (Nat.le_of_lt G11.out.2.2.2.2))
      have HZB := Aside0.mk (show ∀ gz, AZ = some ⟨gz, 0, none⟩ → 0 < Z.length → gz < g11 from fun gz e hp => Nat.lt_trans (HZB0.out gz e hp) G11.out.2.2.2.2)
      have HLD := Aside0.mk (show Laid wg g11 g8 g4 g10 AZ cZ Z A1 c1 l1 i from ⟨B8.out, Nat.lt_trans L8.out G11.out.2.2.2.2, B4.out, Nat.lt_trans L4.out G11.out.2.2.2.2, B10.out, G11.out.2.1, fun hp => (by obtain ⟨gz, tl, e, _, hr⟩ := HZ.out.2 hp; exact ⟨gz, tl, e, HZB.out gz e hp, hr⟩), HZ.out.1, HZL.out, Kd.F_mono (Kd.F_below HR1.out HB.out) (fun k hk => Nat.lt_of_lt_of_le hk WR.out)⟩)
      have HI0 := Aside0.mk (show InvA wg g11 g12 wg ((0 : Int), true) from ⟨Below.refl _ _, (by have h := B11.out; rw [show (0 : Int) = wrap64 0 from (by unfold wrap64; decide)] at h; exact h), B12.out⟩)
      have ct0 := (blk_cell B7.out 0).trans rfl
      have ct1 := (blk_cell B7.out 1).trans rfl
      have ct2 := (blk_cell B7.out 2).trans rfl
      have ct3 := (blk_cell B7.out 3).trans rfl
      go_upto_region 12 with (first | ((with_reducible refine gate_dst (N := 37) rfl ?_); (with_reducible refine gate_callee (f := 7) rfl ?_); refine goesL_ (some 37) rfl rfl Try.func7 (by kernel_rfl) rfl #[.agg #[.int .i64 n.f0, .string n.f1, .int .i64 n.f2, .slice A3 n.f3.length c3], .slice Am m.length cm, .func (.func 27) #[] #[.pointer (some ⟨g11, 0, none⟩), .pointer (some ⟨g12, 0, none⟩), .pointer (some ⟨g8, 0, none⟩), .pointer (some ⟨g4, 0, none⟩), .pointer (some ⟨g10, 0, none⟩)]] rfl (by (simp only [List.map_toArray, List.map_cons, List.map_nil]); first | done | rfl) ?_; (refine (Top_any kf n A3 c3 Am cm m (asks_a HLD.out G11.out.2.2.1 G11.out.2.2.2.1) (s := ((0 : Int), true)) HI0.out (fun k hk => Nat.lt_trans hk (Nat.lt_trans G11.out.2.2.1 G11.out.2.2.2.1)) (Kd.F_mono HTg.out (fun k hk => Nat.lt_trans hk G11.out.2.2.2.2)) HC3.out HM.out HMC.out HF.out).mono ?_); rintro e wh ⟨v, rfl, hR, hI, hle⟩; refine ⟨_, rfl, ?_⟩; obtain ⟨Am2, cm2, rfl⟩ := Kd.R_slice hR; have HI2 := Aside0.mk hI; have HR := Aside0.mk hR; clear hR hI hle ct0 ct1 ct2 ct3))
      have HB := Aside0.mk (HB.out.trans (HI2.out.bel.mono WR.out))
      have B4 := Aside0.mk (blk_lift B4.out HI2.out.bel (Nat.lt_trans L4.out G11.out.2.2.2.2))
      have B7 := Aside0.mk (blk_lift B7.out HI2.out.bel (Nat.lt_trans L7.out G11.out.2.2.2.2))
      have B8 := Aside0.mk (blk_lift B8.out HI2.out.bel (Nat.lt_trans L8.out G11.out.2.2.2.2))
      have HZ := Aside0.mk (Laid.has (HLD.out.at HI2.out.bel))
      have HT := Aside0.mk (show Tr wh Al A3 n.f3 from Kd.F_mono (Kd.F_step (Kd.F_mono (ok' := fun k => k < g11) HTg.out (fun k hk => Nat.lt_trans hk G11.out.2.2.2.2)) fun j hj _ => HI2.out.bel.block j hj) (fun _ _ => trivial))
      have EWA := Aside0.mk (show wrap64 a = a from (by have h1 := HA.out; have h2 := HZP.out; unfold wrap64; omega))
      have B11 := Aside0.mk (show wh.heap[g11]? = some (.cells #[.int .i64 a] 3 (0, 0)) from (by have h11 : wh.heap[g11]? = some (.cells #[.int .i64 (wrap64 a)] 3 (0, 0)) := HI2.out.b11; rw [EWA.out] at h11; exact h11))
      have B12 := Aside0.mk (show wh.heap[g12]? = some (.cells #[.bool true] 4 (0, 0)) from HI2.out.b12)
      clear HLD HTg HM B10
      have HB := Aside0.mk (HB.out.trans (((Below.refl _ _).drew).mono HB.out.size))
      have B4 := Aside0.mk (blk_below B4.out (Below.refl _ _).drew)
      have B7 := Aside0.mk (blk_below B7.out (Below.refl _ _).drew)
      have B8 := Aside0.mk (blk_below B8.out (Below.refl _ _).drew)
      have B11 := Aside0.mk (blk_below B11.out (Below.refl _ _).drew)
      have B12 := Aside0.mk (blk_below B12.out (Below.refl _ _).drew)
      have HT := Aside0.mk (Kd.F_below HT.out (Below.refl _ _).drew)
      have HZ := Aside0.mk (HasZ.below HZ.out (Below.refl _ _).drew)
      have HR := Aside0.mk (Kd.R_below HR.out (Below.refl _ _).drew)
      have hgt : decide (a > (z : Int)) = false := decide_eq_false (by have := HA.out; omega)
      have hgt2 : decide ((z : Int) < a) = false := decide_eq_false (by have := HA.out; omega)
      have hlz : ((m2.length : Int) != (z : Int)) = false := by rw [HL2.out]; exact bne_self_eq_false _
      have hr0 : decide (r < 0) = false := decide_eq_false (by have := HRR.out; omega)
      have hr2 : decide (r > 2) = false := decide_eq_false (by have := HRR.out; omega)
      have hr3 : decide (2 < r) = false := decide_eq_false (by have := HRR.out; omega)
      refine start_ (n := 27) (S := fun w' => w'.cell? ⟨g12, 0, none⟩ = some (.bool true) ∧ w'.cell? ⟨g11, 0, none⟩ = some (.int .i64 a) ∧ w'.cell? ⟨g7, 0, none⟩ = some (.int .i64 n.f0) ∧ w'.cell? ⟨g7, 1, none⟩ = some (.string n.f1) ∧ w'.cell? ⟨g7, 2, none⟩ = some (.int .i64 n.f2) ∧ w'.cell? ⟨g7, 3, none⟩ = some (.slice A3 n.f3.length c3)) (ds := []) #[false, false, false, false, false, false, false, false, false, false, false, false, false, false, false, false, false, false, false, false, false, false, false, false, false, false, false] (by kernel_rfl) rfl rfl ⟨(blk_cell B12.out 0).trans rfl, (blk_cell B11.out 0).trans rfl, (blk_cell B7.out 0).trans rfl, (blk_cell B7.out 1).trans rfl, (blk_cell B7.out 2).trans rfl, (blk_cell B7.out 3).trans rfl⟩ (fun hHeld => ?_)
      generalize wh.drew = wi at HB B4 B7 B8 B11 B12 HT HZ HR hHeld ⊢
      refine pure_ (i := 0) (N := some 41) (v := ?_) (a' := ?_) #[true, false, false, false, false, false, false, false, false, false, false, false, false, false, false, false, false, false, false, false, false, false, false, false, false, false, false] rfl rfl (by kernel_rfl) (fun _ _ _ h => h) (Or.inl ⟨by rfl, ?_⟩) ?_ ?_
      rotate_left
      · intro w'
        go_simp
        with_reducible rfl
      rotate_left
      · simp only [Act.put, List.setIfInBounds_toArray, List.set_cons_zero, List.set_cons_succ, i64_w, i32_w]
        rfl
      refine pure_ (i := 1) (N := some 42) (v := ?_) (a' := ?_) #[true, true, false, false, false, false, false, false, false, false, false, false, false, false, false, false, false, false, false, false, false, false, false, false, false, false, false] rfl rfl (by kernel_rfl) (fun _ _ _ h => h) (Or.inl ⟨by rfl, ?_⟩) ?_ ?_
      rotate_left
      · intro w'
        go_simp
        with_reducible rfl
      rotate_left
      · simp only [Act.put, List.setIfInBounds_toArray, List.set_cons_zero, List.set_cons_succ, i64_w, i32_w]
        rfl
      refine pure_ (i := 2) (N := some 43) (v := ?_) (a' := ?_) #[true, true, true, false, false, false, false, false, false, false, false, false, false, false, false, false, false, false, false, false, false, false, false, false, false, false, false] rfl rfl (by kernel_rfl) (fun _ _ _ h => h) (Or.inl ⟨by rfl, ?_⟩) ?_ ?_
      rotate_left
      · intro w'
        go_simp
        with_reducible rfl
      rotate_left
      · simp only [Act.put, List.setIfInBounds_toArray, List.set_cons_zero, List.set_cons_succ, i64_w, i32_w]
        rfl
      refine take_ (i := 3) (N := some 44) (v := ?_) (a' := ?_) #[true, true, true, true, false, false, false, false, false, false, false, false, false, false, false, false, false, false, false, false, false, false, false, false, false, false, false] rfl rfl (by kernel_rfl) (fun _ _ _ h => h) (Or.inl ⟨by rfl, ?_⟩) hHeld ?_ ?_
      rotate_left
      · rintro w' ⟨s0, s1, s2, s3, s4, s5⟩
        go_simp
        with_reducible rfl
      rotate_left
      · simp only [Act.put, List.setIfInBounds_toArray, List.set_cons_zero, List.set_cons_succ, i64_w, i32_w]
        rfl
      refine pure_ (i := 4) (N := some 45) (v := ?_) (a' := ?_) #[true, true, true, true, true, false, false, false, false, false, false, false, false, false, false, false, false, false, false, false, false, false, false, false, false, false, false] rfl rfl (by kernel_rfl) (fun _ _ _ h => h) (Or.inl ⟨by rfl, ?_⟩) ?_ ?_
      rotate_left
      · intro w'
        go_simp
        with_reducible rfl
      rotate_left
      · simp only [Act.put, List.setIfInBounds_toArray, List.set_cons_zero, List.set_cons_succ, i64_w, i32_w]
        rfl
      refine pure_ (i := 5) (N := some 46) (v := ?_) (a' := ?_) #[true, true, true, true, true, true, false, false, false, false, false, false, false, false, false, false, false, false, false, false, false, false, false, false, false, false, false] rfl rfl (by kernel_rfl) (fun _ _ _ h => h) (Or.inl ⟨by rfl, ?_⟩) ?_ ?_
      rotate_left
      · intro w'
        go_simp
        with_reducible rfl
      rotate_left
      · simp only [Act.put, List.setIfInBounds_toArray, List.set_cons_zero, List.set_cons_succ, i64_w, i32_w]
        rfl
      refine pure_ (i := 6) (N := some 47) (v := ?_) (a' := ?_) #[true, true, true, true, true, true, true, false, false, false, false, false, false, false, false, false, false, false, false, false, false, false, false, false, false, false, false] rfl rfl (by kernel_rfl) (fun _ _ _ h => h) (Or.inl ⟨by rfl, ?_⟩) ?_ ?_
      rotate_left
      · intro w'
        go_simp
        with_reducible rfl
      rotate_left
      · simp only [Act.put, List.setIfInBounds_toArray, List.set_cons_zero, List.set_cons_succ, i64_w, i32_w]
        rfl
      refine take_ (i := 7) (N := some 48) (v := ?_) (a' := ?_) #[true, true, true, true, true, true, true, true, false, false, false, false, false, false, false, false, false, false, false, false, false, false, false, false, false, false, false] rfl rfl (by kernel_rfl) (fun _ _ _ h => h) (Or.inl ⟨by rfl, ?_⟩) hHeld ?_ ?_
      rotate_left
      · rintro w' ⟨s0, s1, s2, s3, s4, s5⟩
        go_simp
        with_reducible rfl
      rotate_left
      · simp only [Act.put, List.setIfInBounds_toArray, List.set_cons_zero, List.set_cons_succ, i64_w, i32_w]
        rfl
      refine take_ (i := 8) (N := some 49) (v := ?_) (a' := ?_) #[true, true, true, true, true, true, true, true, true, false, false, false, false, false, false, false, false, false, false, false, false, false, false, false, false, false, false] rfl rfl (by kernel_rfl) (fun _ _ _ h => h) (Or.inl ⟨by rfl, ?_⟩) hHeld ?_ ?_
      rotate_left
      · rintro w' ⟨s0, s1, s2, s3, s4, s5⟩
        go_simp
        with_reducible rfl
      rotate_left
      · simp only [Act.put, List.setIfInBounds_toArray, List.set_cons_zero, List.set_cons_succ, i64_w, i32_w]
        rfl
      refine one_ (i := 9) (N := some 50) #[true, true, true, true, true, true, true, true, true, true, false, false, false, false, false, false, false, false, false, false, false, false, false, false, false, false, false] rfl rfl (by kernel_rfl) (by decide) (fun K hK => ?_)
      refine goes_ Try.func15 (by kernel_rfl) rfl #[.agg #[.int .i64 n.f0, .string n.f1, .int .i64 n.f2, .slice A3 n.f3.length c3]] (by rfl) rfl rfl (by simp only [List.map_toArray, List.map_cons, List.map_nil]; rfl) ?_
      with_reducible refine (tree_Size.calls ks n.f0 n.f1 n.f2 A3 c3 n.f3 (z : Int) _ (Kd.F_now HT.out) HC3.out HKS.out).mono ?_
      rintro e wj ⟨rfl, hb⟩
      refine ⟨_, rfl, ?_⟩
      have HB := Aside0.mk (HB.out.trans ((hb).mono HB.out.size))
      have B4 := Aside0.mk (blk_below B4.out hb)
      have B7 := Aside0.mk (blk_below B7.out hb)
      have B8 := Aside0.mk (blk_below B8.out hb)
      have B11 := Aside0.mk (blk_below B11.out hb)
      have B12 := Aside0.mk (blk_below B12.out hb)
      have HT := Aside0.mk (Kd.F_below HT.out hb)
      have HZ := Aside0.mk (HasZ.below HZ.out hb)
      have HR := Aside0.mk (Kd.R_below HR.out hb)
      clear hb
      refine hK.out _ _ ⟨(blk_cell B12.out 0).trans rfl, (blk_cell B11.out 0).trans rfl, (blk_cell B7.out 0).trans rfl, (blk_cell B7.out 1).trans rfl, (blk_cell B7.out 2).trans rfl, (blk_cell B7.out 3).trans rfl⟩ (fun hHeld => ?_)
      clear hK K
      refine norm_ (a' := ?_) ?_ ?_
      rotate_left
      · show Act.put _ (some 50) _ = _
        simp only [Act.put, List.setIfInBounds_toArray, List.set_cons_zero, List.set_cons_succ, i64_w, i32_w]
        rfl
      refine pure_ (i := 10) (N := some 51) (v := ?_) (a' := ?_) #[true, true, true, true, true, true, true, true, true, true, true, false, false, false, false, false, false, false, false, false, false, false, false, false, false, false, false] rfl rfl (by kernel_rfl) (fun _ _ _ h => h) (Or.inl ⟨by rfl, ?_⟩) ?_ ?_
      rotate_left
      · intro w'
        go_simp
        with_reducible rfl
      rotate_left
      · simp only [Act.put, List.setIfInBounds_toArray, List.set_cons_zero, List.set_cons_succ, i64_w, i32_w]
        rfl
      refine pure_ (i := 11) (N := some 52) (v := ?_) (a' := ?_) #[true, true, true, true, true, true, true, true, true, true, true, true, false, false, false, false, false, false, false, false, false, false, false, false, false, false, false] rfl rfl (by kernel_rfl) (fun _ _ _ h => h) (Or.inl ⟨by rfl, ?_⟩) ?_ ?_
      rotate_left
      · intro w'
        go_simp
        with_reducible rfl
      rotate_left
      · simp only [Act.put, List.setIfInBounds_toArray, List.set_cons_zero, List.set_cons_succ, i64_w, i32_w]
        rfl
      refine pure_ (i := 12) (N := some 53) (v := ?_) (a' := ?_) #[true, true, true, true, true, true, true, true, true, true, true, true, true, false, false, false, false, false, false, false, false, false, false, false, false, false, false] rfl rfl (by kernel_rfl) (fun _ _ _ h => h) (Or.inl ⟨by rfl, ?_⟩) ?_ ?_
      rotate_left
      · intro w'
        go_simp
        with_reducible rfl
      rotate_left
      · simp only [Act.put, List.setIfInBounds_toArray, List.set_cons_zero, List.set_cons_succ, i64_w, i32_w]
        rfl
      refine pure_ (i := 13) (N := some 54) (v := ?_) (a' := ?_) #[true, true, true, true, true, true, true, true, true, true, true, true, true, true, false, false, false, false, false, false, false, false, false, false, false, false, false] rfl rfl (by kernel_rfl) (fun _ _ _ h => h) (Or.inl ⟨by rfl, ?_⟩) ?_ ?_
      rotate_left
      · intro w'
        go_simp
        with_reducible rfl
      rotate_left
      · simp only [Act.put, List.setIfInBounds_toArray, List.set_cons_zero, List.set_cons_succ, i64_w, i32_w]
        rfl
      refine pure_ (i := 14) (N := some 55) (v := ?_) (a' := ?_) #[true, true, true, true, true, true, true, true, true, true, true, true, true, true, true, false, false, false, false, false, false, false, false, false, false, false, false] rfl rfl (by kernel_rfl) (fun _ _ _ h => h) (Or.inl ⟨by rfl, ?_⟩) ?_ ?_
      rotate_left
      · intro w'
        go_simp
        with_reducible rfl
      rotate_left
      · simp only [Act.put, List.setIfInBounds_toArray, List.set_cons_zero, List.set_cons_succ, i64_w, i32_w]
        rfl
      refine take_ (i := 15) (N := some 56) (v := ?_) (a' := ?_) #[true, true, true, true, true, true, true, true, true, true, true, true, true, true, true, true, false, false, false, false, false, false, false, false, false, false, false] rfl rfl (by kernel_rfl) (fun _ _ _ h => h) (Or.inl ⟨by rfl, ?_⟩) hHeld ?_ ?_
      rotate_left
      · rintro w' ⟨s0, s1, s2, s3, s4, s5⟩
        go_simp
        with_reducible rfl
      rotate_left
      · simp only [Act.put, List.setIfInBounds_toArray, List.set_cons_zero, List.set_cons_succ, i64_w, i32_w]
        rfl
      refine one_ (i := 16) (N := some 57) #[true, true, true, true, true, true, true, true, true, true, true, true, true, true, true, true, true, false, false, false, false, false, false, false, false, false, false] rfl rfl (by kernel_rfl) (by decide) (fun K hK => ?_)
      refine goes_ Try.func15 (by kernel_rfl) rfl #[.agg #[.int .i64 n.f0, .string n.f1, .int .i64 n.f2, .slice A3 n.f3.length c3]] (by rfl) rfl rfl (by simp only [List.map_toArray, List.map_cons, List.map_nil]; rfl) ?_
      with_reducible refine (tree_Size.calls ks n.f0 n.f1 n.f2 A3 c3 n.f3 (z : Int) _ (Kd.F_now HT.out) HC3.out HKS.out).mono ?_
      rintro e wk ⟨rfl, hb⟩
      refine ⟨_, rfl, ?_⟩
      have HB := Aside0.mk (HB.out.trans ((hb).mono HB.out.size))
      have B4 := Aside0.mk (blk_below B4.out hb)
      have B7 := Aside0.mk (blk_below B7.out hb)
      have B8 := Aside0.mk (blk_below B8.out hb)
      have B11 := Aside0.mk (blk_below B11.out hb)
      have B12 := Aside0.mk (blk_below B12.out hb)
      have HT := Aside0.mk (Kd.F_below HT.out hb)
      have HZ := Aside0.mk (HasZ.below HZ.out hb)
      have HR := Aside0.mk (Kd.R_below HR.out hb)
      clear hb
      refine hK.out _ _ ⟨(blk_cell B12.out 0).trans rfl, (blk_cell B11.out 0).trans rfl, (blk_cell B7.out 0).trans rfl, (blk_cell B7.out 1).trans rfl, (blk_cell B7.out 2).trans rfl, (blk_cell B7.out 3).trans rfl⟩ (fun hHeld => ?_)
      clear hK K
      refine norm_ (a' := ?_) ?_ ?_
      rotate_left
      · show Act.put _ (some 57) _ = _
        simp only [Act.put, List.setIfInBounds_toArray, List.set_cons_zero, List.set_cons_succ, i64_w, i32_w]
        rfl
      refine pure_ (i := 17) (N := some 58) (v := ?_) (a' := ?_) #[true, true, true, true, true, true, true, true, true, true, true, true, true, true, true, true, true, true, false, false, false, false, false, false, false, false, false] rfl rfl (by kernel_rfl) (fun _ _ _ h => h) (Or.inl ⟨by rfl, ?_⟩) ?_ ?_
      rotate_left
      · intro w'
        go_simp
        with_reducible rfl
      rotate_left
      · simp only [Act.put, List.setIfInBounds_toArray, List.set_cons_zero, List.set_cons_succ, i64_w, i32_w]
        rfl
      refine pure_ (i := 18) (N := some 59) (v := ?_) (a' := ?_) #[true, true, true, true, true, true, true, true, true, true, true, true, true, true, true, true, true, true, true, false, false, false, false, false, false, false, false] rfl rfl (by kernel_rfl) (fun _ _ _ h => h) (Or.inl ⟨by rfl, ?_⟩) ?_ ?_
      rotate_left
      · intro w'
        go_simp
        with_reducible rfl
      rotate_left
      · simp only [Act.put, List.setIfInBounds_toArray, List.set_cons_zero, List.set_cons_succ, i64_w, i32_w]
        rfl
      refine pure_ (i := 19) (N := some 60) (v := ?_) (a' := ?_) #[true, true, true, true, true, true, true, true, true, true, true, true, true, true, true, true, true, true, true, true, false, false, false, false, false, false, false] rfl rfl (by kernel_rfl) (fun _ _ _ h => h) (Or.inl ⟨by rfl, ?_⟩) ?_ ?_
      rotate_left
      · intro w'
        go_simp
        with_reducible rfl
      rotate_left
      · simp only [Act.put, List.setIfInBounds_toArray, List.set_cons_zero, List.set_cons_succ, i64_w, i32_w]
        rfl
      refine pure_ (i := 20) (N := some 61) (v := ?_) (a' := ?_) #[true, true, true, true, true, true, true, true, true, true, true, true, true, true, true, true, true, true, true, true, true, false, false, false, false, false, false] rfl rfl (by kernel_rfl) (fun _ _ _ h => h) (Or.inl ⟨by rfl, ?_⟩) ?_ ?_
      rotate_left
      · intro w'
        go_simp
        with_reducible rfl
      rotate_left
      · simp only [Act.put, List.setIfInBounds_toArray, List.set_cons_zero, List.set_cons_succ, i64_w, i32_w]
        rfl
      refine pure_ (i := 21) (N := some 62) (v := ?_) (a' := ?_) #[true, true, true, true, true, true, true, true, true, true, true, true, true, true, true, true, true, true, true, true, true, true, false, false, false, false, false] rfl rfl (by kernel_rfl) (fun _ _ _ h => h) (Or.inl ⟨by rfl, ?_⟩) ?_ ?_
      rotate_left
      · intro w'
        go_simp
        with_reducible rfl
      rotate_left
      · simp only [Act.put, List.setIfInBounds_toArray, List.set_cons_zero, List.set_cons_succ, i64_w, i32_w]
        rfl
      refine pure_ (i := 22) (N := some 63) (v := ?_) (a' := ?_) #[true, true, true, true, true, true, true, true, true, true, true, true, true, true, true, true, true, true, true, true, true, true, true, false, false, false, false] rfl rfl (by kernel_rfl) (fun _ _ _ h => h) (Or.inl ⟨by rfl, ?_⟩) ?_ ?_
      rotate_left
      · intro w'
        go_simp
        with_reducible rfl
      rotate_left
      · simp only [Act.put, List.setIfInBounds_toArray, List.set_cons_zero, List.set_cons_succ, i64_w, i32_w]
        rfl
      refine pure_ (i := 23) (N := some 64) (v := ?_) (a' := ?_) #[true, true, true, true, true, true, true, true, true, true, true, true, true, true, true, true, true, true, true, true, true, true, true, true, false, false, false] rfl rfl (by kernel_rfl) (fun _ _ _ h => h) (Or.inl ⟨by rfl, ?_⟩) ?_ ?_
      rotate_left
      · intro w'
        go_simp
        with_reducible rfl
      rotate_left
      · simp only [Act.put, List.setIfInBounds_toArray, List.set_cons_zero, List.set_cons_succ, i64_w, i32_w]
        rfl
      refine pure_ (i := 24) (N := some 65) (v := ?_) (a' := ?_) #[true, true, true, true, true, true, true, true, true, true, true, true, true, true, true, true, true, true, true, true, true, true, true, true, true, false, false] rfl rfl (by kernel_rfl) (fun _ _ _ h => h) (Or.inl ⟨by rfl, ?_⟩) ?_ ?_
      rotate_left
      · intro w'
        go_simp
        with_reducible rfl
      rotate_left
      · simp only [Act.put, List.setIfInBounds_toArray, List.set_cons_zero, List.set_cons_succ, i64_w, i32_w]
        rfl
      refine pure_ (i := 25) (N := some 66) (v := ?_) (a' := ?_) #[true, true, true, true, true, true, true, true, true, true, true, true, true, true, true, true, true, true, true, true, true, true, true, true, true, true, false] rfl rfl (by kernel_rfl) (fun _ _ _ h => h) (Or.inl ⟨by rfl, ?_⟩) ?_ ?_
      rotate_left
      · intro w'
        go_simp
        with_reducible rfl
      rotate_left
      · simp only [Act.put, List.setIfInBounds_toArray, List.set_cons_zero, List.set_cons_succ, i64_w, i32_w]
        rfl
      refine pure_ (i := 26) (N := some 67) (v := ?_) (a' := ?_) #[true, true, true, true, true, true, true, true, true, true, true, true, true, true, true, true, true, true, true, true, true, true, true, true, true, true, true] rfl rfl (by kernel_rfl) (fun _ _ _ h => h) (Or.inl ⟨by rfl, ?_⟩) ?_ ?_
      rotate_left
      · intro w'
        go_simp
        with_reducible rfl
      rotate_left
      · simp only [Act.put, List.setIfInBounds_toArray, List.set_cons_zero, List.set_cons_succ, i64_w, i32_w]
        rfl
      refine done_ (by kernel_rfl) ?_

      by_cases h2 : r = 2
      · have hn2 : (r != 2) = false := bne_eq_false_iff_eq.mpr h2
        clear h2
        cases gk with
        | zero => exact absurd HI.out.1 (by have := HIB.out; omega)
        | succ k1 =>
          go_wp2
          go_roundg k1
          case measure => omega
          case rel => exact ⟨i + 1, m2, Am2, cm2, rfl, (by first | rfl | (rw [show wrap64 (i + 1) = i + 1 from (by have h1 := HI.out; have h2 := HBR.out; have h3 := HIB.out; unfold wrap64; omega)])), ⟨by have h1 := HI.out; omega⟩, ⟨.inr HFIT.out⟩, ⟨(Kd.R_reads' HR.out).2.1⟩, ⟨(Kd.R_reads' HR.out).2.2⟩, HB, B4, B7, B8, HZ, HT⟩
      · have hn2 : (r != 2) = true := bne_iff_ne.mpr h2
        have HMX := Aside0.mk (show Go.Lib.maxOf m2 = 0 from (by rw [HZS.out h2]; exact max_zs _))
        clear h2
        cases gk with
        | zero => exact absurd HI.out.1 (by have := HIB.out; omega)
        | succ k1 =>
          go_wp2_with (first | ((with_reducible refine gate_dst (N := 72) rfl ?_); (with_reducible refine gate_callee (f := 29) rfl ?_); refine goesW_ (some 72) rfl ?hw Try.func29 (by kernel_rfl) rfl #[.slice Am2 m2.length cm2] rfl (by (simp only [List.map_toArray, List.map_cons, List.map_nil]); first | done | rfl) ?_; (case hw => rfl); (refine (max_call HR.out (by rw [HL2.out]; exact HZP.out.1) (by rw [HL2.out]; exact Nat.le_trans HZP.out.2 (by decide)) HMX.out).mono ?_); rintro e wl ⟨rfl, rfl⟩; refine ⟨_, rfl, ?_⟩))
          go_roundg k1
          case measure => omega
          case rel => exact ⟨i + 1, m2, Am2, cm2, rfl, (by first | rfl | (rw [show wrap64 (i + 1) = i + 1 from (by have h1 := HI.out; have h2 := HBR.out; have h3 := HIB.out; unfold wrap64; omega)])), ⟨by have h1 := HI.out; omega⟩, ⟨.inr HFIT.out⟩, ⟨(Kd.R_reads' HR.out).2.1⟩, ⟨(Kd.R_reads' HR.out).2.2⟩, HB, B4, B7, B8, HZ, HT⟩
    · have hib : decide (i < bb) = false := decide_eq_false hi
      clear hi
      go_wp2
      go_ret
      exact ⟨rfl, HB.out⟩
end Go.Proofs.Ytbpgfjfkogdolaa.TreeAsksWalkTreeAsks
