/- The walk of the law CullLess. Under no condition but what stands at it. -/
import Derived.Test.YtijochlkmkmhdaaLessSeenCullLess
namespace Go.Proofs.Ytijochlkmkmhdaa.PCullLess
open Go Go.RowKit Go.Proofs.YtijochlkmkmhdaaW.PrintWords Go.Proofs.YtijochlkmkmhdaaW.PrintLast Go.Proofs.YtijochlkmkmhdaaW.PrintMore
structure S57 where
  f0 : S46
  f1 : S46
def k57 : Kd S57 := Kd.iso (Kd.pair k46 k46) (fun x : S57 => (x.f0, x.f1))
theorem k57_open {w : World} {x : S57} {cs : List Value} (h : k57.K w x cs) : cs = [.int .i64 x.f0.f0, .int .i64 x.f0.f1, .int .i64 x.f1.f0, .int .i64 x.f1.f1] := by
  obtain ⟨_, _, rfl, s0, s1⟩ := h
  obtain rfl := k46_open s0
  obtain rfl := k46_open s1
  rfl
end Go.Proofs.Ytijochlkmkmhdaa.PCullLess
namespace Go.Proofs.Ytijochlkmkmhdaa.LessWalkCullLess
open Go Go.RowKit Go.Proofs.Ytijochlkmkmhdaa.Fnv Go.Proofs.YtijochlkmkmhdaaW.PrintWords Go.Proofs.YtijochlkmkmhdaaW.PrintLast Go.Proofs.YtijochlkmkmhdaaW.PrintMore Go.Proofs.Ytijochlkmkmhdaa.PCullLess Go.Proofs.Ytijochlkmkmhdaa.RasterCullLess Go.Proofs.Ytijochlkmkmhdaa.ThingsCullLess Go.Proofs.Ytijochlkmkmhdaa.LessSortCullLess Go.Proofs.Ytijochlkmkmhdaa.LessMemCullLess Go.Proofs.Ytijochlkmkmhdaa.LessSeenCullLess
set_option linter.unusedVariables false
set_option linter.unusedSimpArgs false
abbrev IntsOk (l : List Int) : Prop := l.length ≤ 9223372036854775807 ∧ ∀ x ∈ l, (Lit.int .i64 x).wf = true
theorem C_cells {w : World} {A : Option Addr} {l : List Int} (h : Kd.C (Kd.int .i64) w A l.length l) (hn : 0 < l.length) : ∃ ad, A = some ad ∧ ∀ j v, l[j]? = some v → w.cell? (ad.add j) = some (.int .i64 v) := by
  obtain ⟨_, _, h3⟩ := h
  obtain ⟨ad, e, hc⟩ := h3 hn
  refine ⟨ad, e, fun j v hj => ?_⟩
  obtain ⟨c, h1, h2, h4⟩ := hc j v hj
  have e2 : c = [.int .i64 v] := h2
  have := h4 0 (.int .i64 v) (by rw [e2]; rfl)
  simpa [show (Kd.int IntKind.i64).sz = 1 from rfl] using this
theorem draws_ev : Ev (fun k => tourkeep5_draws.f k) true := Ev.of (fun k => tourkeep5_draws.mono k) (k := 60) (by decide +kernel)
theorem less_sub (L : List Th) (v u : View) (n : Nat) (h0 : v.v0 ≤ u.v0) (h1 : v.v1 ≤ u.v1) (h2 : u.v2 = v.v2) (h3 : u.v3 = v.v3) : (sortF (keyL L) (seenU L u n)).Sublist (sortF (keyL L) (seenU L v n)) := by
  refine sortF_sub _ (filter_sub (fun i hi => ?_) _)
  unfold meetV at hi ⊢
  have := of_decide_eq_true hi
  refine decide_eq_true ?_
  rw [h2, h3] at this
  unfold mx mn at this ⊢
  refine ⟨?_, ?_⟩
  · have h := this.1
    (repeat' split at h) <;> (repeat' split) <;> omega
  · have h := this.2
    (repeat' split at h) <;> (repeat' split) <;> omega
set_option maxHeartbeats 8000000 in
set_option maxRecDepth 100000 in
theorem walk (A0 : Option Addr) (c0 : Nat) (l0 : List Int) {W : World} (hr0 : Kd.C (Kd.int .i64) W A0 l0.length l0) (hc0 : l0.length ≤ c0) (ok0 : IntsOk l0) (x1 : S57) (ok1 : ((Lit.int .i64 x1.f0.f0).wf = true ∧ (Lit.int .i64 x1.f0.f1).wf = true) ∧ (Lit.int .i64 x1.f1.f0).wf = true ∧ (Lit.int .i64 x1.f1.f1).wf = true) (a2 : Int) (ok2 : (Lit.int .i64 a2).wf = true) (a3 : Int) (ok3 : (Lit.int .i64 a3).wf = true) :
    Calls Try.prog 10 #[.slice A0 l0.length c0, .agg #[.int .i64 x1.f0.f0, .int .i64 x1.f0.f1, .int .i64 x1.f1.f0, .int .i64 x1.f1.f1], .int .i64 a2, .int .i64 a3] W fun e w' => e = .returned (.bool true) ∧ Below W.heap.size W w' := by
  obtain ⟨L, ⟨kt, hkt⟩, hL6, hLok⟩ := things_ev l0 ok0.1
  obtain ⟨kd, hkd⟩ := draws_ev
  have HKT := Aside0.mk (hkt kt (Nat.le_refl _))
  have HKD := Aside0.mk (hkd kd (Nat.le_refl _))
  have H6 := Aside0.mk hL6
  have HOK := Aside0.mk hLok
  have HR0 := Aside0.mk hr0
  have HC0 := Aside0.mk hc0
  obtain ⟨p0, hp0⟩ : ∃ p, x1.f0.f0 = p := ⟨_, rfl⟩
  obtain ⟨p1, hp1⟩ : ∃ p, x1.f0.f1 = p := ⟨_, rfl⟩
  obtain ⟨p2, hp2⟩ : ∃ p, x1.f1.f0 = p := ⟨_, rfl⟩
  obtain ⟨p3, hp3⟩ : ∃ p, x1.f1.f1 = p := ⟨_, rfl⟩
  rw [hp0, hp1, hp2, hp3]
  clear hkt hkd hLok hr0 hc0 ok0 ok1 ok2 ok3 hp0 hp1 hp2 hp3
  obtain ⟨q2, hq2⟩ : ∃ q, (if p2 < p0 then p0 else p2) = q := ⟨_, rfl⟩
  obtain ⟨q3, hq3⟩ : ∃ q, (if p3 < p1 then p1 else p3) = q := ⟨_, rfl⟩
  obtain ⟨m0, hm0⟩ : ∃ m, (if p0 < a2 then a2 else p0) = m := ⟨_, rfl⟩
  obtain ⟨m1, hm1⟩ : ∃ m, (if p1 < a3 then a3 else p1) = m := ⟨_, rfl⟩
  obtain ⟨s0, hs0⟩ : ∃ s, (if q2 < m0 then q2 else m0) = s := ⟨_, rfl⟩
  obtain ⟨s1, hs1⟩ : ∃ s, (if q3 < m1 then q3 else m1) = s := ⟨_, rfl⟩
  have HM0 := Aside0.mk hm0
  have HM1 := Aside0.mk hm1
  have HS0 := Aside0.mk hs0
  have HS1 := Aside0.mk hs1
  have l0' : p0 ≤ s0 := by rw [← hs0, ← hm0, ← hq2]; (repeat' split) <;> omega
  have l1' : p1 ≤ s1 := by rw [← hs1, ← hm1, ← hq3]; (repeat' split) <;> omega
  obtain ⟨SA, hSA⟩ : ∃ S, sortF (keyL L) (seenU L ⟨p0, p1, q2, q3⟩ L.length) = S := ⟨_, rfl⟩
  obtain ⟨SB, hSB⟩ : ∃ S, sortF (keyL L) (seenU L ⟨s0, s1, q2, q3⟩ L.length) = S := ⟨_, rfl⟩
  have HSUB := Aside0.mk (show SB.Sublist SA from by rw [← hSA, ← hSB]; exact less_sub L ⟨p0, p1, q2, q3⟩ ⟨s0, s1, q2, q3⟩ L.length l0' l1' rfl rfl)
  have HLA := Aside0.mk (show SA.length ≤ 6 from by rw [← hSA, sortF_len]; exact Nat.le_trans (seenU_len _ _ _) hL6)
  have HLB := Aside0.mk (show SB.length ≤ 6 from by rw [← hSB, sortF_len]; exact Nat.le_trans (seenU_len _ _ _) hL6)
  have HSA := Aside0.mk hSA
  have HSB := Aside0.mk hSB
  have HQ2 := Aside0.mk hq2
  have HQ3 := Aside0.mk hq3
  clear hq2 hq3 hm0 hm1 hs0 hs1 hSA hSB l0' l1' hL6
  go_enter Try.func10, Try.ntmps10
  go_upto_region 5 with (first | ((with_reducible refine gate_dst (N := 5) rfl ?_); refine box_event ?hg (N := 5) ?hd (cs := #[.int .i64 p0, .int .i64 p1, .int .i64 p2, .int .i64 p3]) (t := 57) ?hr ?_; (case hd => rfl); (case hg => rfl); (case hr => first | (go_simp; done) | (go_simp; rfl)); intro g5 hg w1 hbox hb; have HB := Aside0.mk hb; have G5 := Aside0.mk (Nat.le_of_eq hg.symm); have B5 := Aside0.mk hbox; clear hg hbox hb) | ((with_reducible refine gate_callee (f := 20) rfl ?_); refine goesL_ (some 18) rfl rfl Try.func20 (by kernel_rfl) rfl #[] rfl (by (simp only [List.map_toArray, List.map_cons, List.map_nil]); first | done | rfl) ?_; (refine (tourkeep5_draws.calls kd true _ HKD.out).mono ?_); rintro e w2 ⟨rfl, hb⟩; refine ⟨_, rfl, ?_⟩; have B5 := Aside0.mk (blk_below B5.out hb); have HB := Aside0.mk (HB.out.trans (hb.mono HB.out.size)); clear hb) | ((with_reducible refine gate_callee (f := 18) rfl ?_); refine goesL_ (some 21) rfl rfl Try.func18 (by kernel_rfl) rfl #[.slice A0 l0.length c0] rfl (by (simp only [List.map_toArray, List.map_cons, List.map_nil]); first | done | rfl) ?_; (refine (tourref5_Things.calls kt A0 c0 l0 L _ (Kd.C_below HR0.out HB.out) HC0.out HKT.out).mono ?_); rintro e w3 ⟨v_, rfl, hS, hb⟩; refine ⟨_, rfl, ?_⟩; obtain ⟨AL, cL, rfl⟩ := Kd.R_slice (Kd.S_R hS); have HFL := Aside0.mk (Kd.F_mono (ok' := fun k => True ∧ k ≠ g5) (Kd.S_F (Kd.S_bound hS)) (fun k hk => ⟨trivial, by have h1 := blk_lt B5.out; have h2 := hk.2.1; omega⟩)); have B5 := Aside0.mk (blk_below B5.out hb); have HB := Aside0.mk (HB.out.trans (hb.mono HB.out.size)); clear hS hb; have cv0 := (blk_cell B5.out 0).trans rfl; have fv0 := blk_frozen B5.out 0; have cv1 := (blk_cell B5.out 1).trans rfl; have fv1 := blk_frozen B5.out 1; have cv2 := (blk_cell B5.out 2).trans rfl; have fv2 := blk_frozen B5.out 2; have cv3 := (blk_cell B5.out 3).trans rfl; have fv3 := blk_frozen B5.out 3))
  rw [HQ2.out, HQ3.out]
  have HB := Aside0.mk ((HB.out.setCell (p := ⟨g5, 2, none⟩) G5.out (.int .i64 q2)).setCell (p := ⟨g5, 3, none⟩) G5.out (.int .i64 q3))
  have HFL := Aside0.mk (Kd.F_far (p := ⟨g5, 3, none⟩) (Kd.F_far (p := ⟨g5, 2, none⟩) HFL.out (fun _ hk => hk.2) (.int .i64 q2)) (fun _ hk => hk.2) (.int .i64 q3))
  have B5 := Aside0.mk (show ((w3.setCell ⟨g5, 2, none⟩ (.int .i64 q2)).setCell ⟨g5, 3, none⟩ (.int .i64 q3)).heap[g5]? = some (.cells #[.int .i64 p0, .int .i64 p1, .int .i64 q2, .int .i64 q3] 57 (0, 0)) from blk_put (blk_put B5.out 2 _ rfl) 3 _ rfl)
  clear cv0 fv0 cv1 fv1 cv2 fv2 cv3 fv3
  generalize ((w3.setCell ⟨g5, 2, none⟩ (.int .i64 q2)).setCell ⟨g5, 3, none⟩ (.int .i64 q3)) = w4 at HB HFL B5 ⊢
  have cv0 := (blk_cell B5.out 0).trans rfl
  have cv1 := (blk_cell B5.out 1).trans rfl
  have cv2 := (blk_cell B5.out 2).trans rfl
  have cv3 := (blk_cell B5.out 3).trans rfl
  go_upto_region 7 with (first | ((with_reducible refine gate_dst (N := 10) rfl ?_); refine box_event ?hg (N := 10) ?hd (cs := #[.int .i64 0, .int .i64 0, .int .i64 0, .int .i64 0]) (t := 57) ?hr ?_; (case hd => rfl); (case hg => rfl); (case hr => first | (go_simp; done) | (go_simp; rfl)); intro g10 hg w5 hbox hb; have HE := Aside0.mk hb; have GE := Aside0.mk (Nat.le_of_eq hg.symm); have B10 := Aside0.mk hbox; have N5 := Aside0.mk (show g5 ≠ g10 from by have := blk_lt B5.out; omega); have B5 := Aside0.mk (blk_below B5.out hb); clear hg hbox hb cv0 cv1 cv2 cv3; have e1 := N5.out; have e2 := N5.out.symm; have cz0 := (blk_cell B10.out 0).trans rfl; have fz0 := blk_frozen B10.out 0; have cv0 := (blk_cell B5.out 0).trans rfl; have cz1 := (blk_cell B10.out 1).trans rfl; have fz1 := blk_frozen B10.out 1; have cv1 := (blk_cell B5.out 1).trans rfl; have cz2 := (blk_cell B10.out 2).trans rfl; have fz2 := blk_frozen B10.out 2; have cv2 := (blk_cell B5.out 2).trans rfl; have cz3 := (blk_cell B10.out 3).trans rfl; have fz3 := blk_frozen B10.out 3; have cv3 := (blk_cell B5.out 3).trans rfl))
  rw [HM0.out, HM1.out, HS0.out, HS1.out]
  have HE := Aside0.mk (show Below w4.heap.size w4 ((((((w5.setCell ⟨g10, 0, none⟩ (.int .i64 p0)).setCell ⟨g10, 1, none⟩ (.int .i64 p1)).setCell ⟨g10, 2, none⟩ (.int .i64 q2)).setCell ⟨g10, 3, none⟩ (.int .i64 q3)).setCell ⟨g10, 0, none⟩ (.int .i64 s0)).setCell ⟨g10, 1, none⟩ (.int .i64 s1)) from (((((HE.out.setCell GE.out _).setCell GE.out _).setCell GE.out _).setCell GE.out _).setCell GE.out _).setCell GE.out _)
  have B5 := Aside0.mk (show (((((((w5.setCell ⟨g10, 0, none⟩ (.int .i64 p0)).setCell ⟨g10, 1, none⟩ (.int .i64 p1)).setCell ⟨g10, 2, none⟩ (.int .i64 q2)).setCell ⟨g10, 3, none⟩ (.int .i64 q3)).setCell ⟨g10, 0, none⟩ (.int .i64 s0)).setCell ⟨g10, 1, none⟩ (.int .i64 s1))).heap[g5]? = some (.cells #[.int .i64 p0, .int .i64 p1, .int .i64 q2, .int .i64 q3] 57 (0, 0)) from blk_far (blk_far (blk_far (blk_far (blk_far (blk_far B5.out N5.out _) N5.out _) N5.out _) N5.out _) N5.out _) N5.out _)
  have B10 := Aside0.mk (show (((((((w5.setCell ⟨g10, 0, none⟩ (.int .i64 p0)).setCell ⟨g10, 1, none⟩ (.int .i64 p1)).setCell ⟨g10, 2, none⟩ (.int .i64 q2)).setCell ⟨g10, 3, none⟩ (.int .i64 q3)).setCell ⟨g10, 0, none⟩ (.int .i64 s0)).setCell ⟨g10, 1, none⟩ (.int .i64 s1))).heap[g10]? = some (.cells #[.int .i64 s0, .int .i64 s1, .int .i64 q2, .int .i64 q3] 57 (0, 0)) from blk_put (blk_put (blk_put (blk_put (blk_put (blk_put B10.out 0 _ rfl) 1 _ rfl) 2 _ rfl) 3 _ rfl) 0 _ rfl) 1 _ rfl)
  have HB := Aside0.mk (HB.out.trans (HE.out.mono HB.out.size))
  have HFL := Aside0.mk (Kd.F_below HFL.out HE.out)
  clear HE GE e1 e2 cz0 fz0 cv0 cz1 fz1 cv1 cz2 fz2 cv2 cz3 fz3 cv3
  generalize ((((((w5.setCell ⟨g10, 0, none⟩ (.int .i64 p0)).setCell ⟨g10, 1, none⟩ (.int .i64 p1)).setCell ⟨g10, 2, none⟩ (.int .i64 q2)).setCell ⟨g10, 3, none⟩ (.int .i64 q3)).setCell ⟨g10, 0, none⟩ (.int .i64 s0)).setCell ⟨g10, 1, none⟩ (.int .i64 s1)) = w6 at HB HFL B5 B10 ⊢
  have cv0 := (blk_cell B5.out 0).trans rfl
  have cv1 := (blk_cell B5.out 1).trans rfl
  have cv2 := (blk_cell B5.out 2).trans rfl
  have cv3 := (blk_cell B5.out 3).trans rfl
  have cy0 := (blk_cell B10.out 0).trans rfl
  have cy1 := (blk_cell B10.out 1).trans rfl
  have cy2 := (blk_cell B10.out 2).trans rfl
  have cy3 := (blk_cell B10.out 3).trans rfl
  go_upto_region 9 with (first | ((with_reducible refine gate_dst (N := 62) rfl ?_); (with_reducible refine gate_callee (f := 26) rfl ?_); refine goesL_ (some 62) rfl rfl Try.func26 (by kernel_rfl) rfl #[.slice AL L.length cL, .agg #[.int .i64 p0, .int .i64 p1, .int .i64 q2, .int .i64 q3]] rfl (by (simp only [List.map_toArray, List.map_cons, List.map_nil]); first | done | rfl) ?_; have hc_ := seen_any L H6.out HOK.out AL cL ⟨p0, p1, q2, q3⟩ (Kd.F_mono (Kd.F_bound HFL.out) fun _ h => h.2); rw [HSA.out] at hc_; refine hc_.mono ?_; clear hc_; rintro e w7 ⟨AA, cA, rfl, hX, hb⟩; refine ⟨_, rfl, ?_⟩; have HXA := Aside0.mk hX; have HB := Aside0.mk (HB.out.trans (hb.mono HB.out.size)); have HFL := Aside0.mk (Kd.F_below HFL.out hb); have B10 := Aside0.mk (blk_below B10.out hb); clear hX hb cy0 cy1 cy2 cy3; (try clear cv0 cv1 cv2 cv3); have cy0 := (blk_cell B10.out 0).trans rfl; have cy1 := (blk_cell B10.out 1).trans rfl; have cy2 := (blk_cell B10.out 2).trans rfl; have cy3 := (blk_cell B10.out 3).trans rfl) | ((with_reducible refine gate_dst (N := 68) rfl ?_); (with_reducible refine gate_callee (f := 26) rfl ?_); refine goesL_ (some 68) rfl rfl Try.func26 (by kernel_rfl) rfl #[.slice AL L.length cL, .agg #[.int .i64 s0, .int .i64 s1, .int .i64 q2, .int .i64 q3]] rfl (by (simp only [List.map_toArray, List.map_cons, List.map_nil]); first | done | rfl) ?_; have hc_ := seen_any L H6.out HOK.out AL cL ⟨s0, s1, q2, q3⟩ (Kd.F_mono (Kd.F_bound HFL.out) fun _ h => h.2); rw [HSB.out] at hc_; refine hc_.mono ?_; clear hc_; rintro e w8 ⟨AB, cB, rfl, hX, hb⟩; refine ⟨_, rfl, ?_⟩; have HXA := Aside0.mk (Kd.C_below HXA.out hb); have HXB := Aside0.mk hX; have HB := Aside0.mk (HB.out.trans (hb.mono HB.out.size)); have HFL := Aside0.mk (Kd.F_below HFL.out hb); have B10 := Aside0.mk (blk_below B10.out hb); clear hX hb cy0 cy1 cy2 cy3; (try clear cv0 cv1 cv2 cv3); have cy0 := (blk_cell B10.out 0).trans rfl; have cy1 := (blk_cell B10.out 1).trans rfl; have cy2 := (blk_cell B10.out 2).trans rfl; have cy3 := (blk_cell B10.out 3).trans rfl))
  clear cy0 cy1 cy2 cy3 B5 B10 HFL
  go_wp2
  go_loopg [15, 79] SA.length (fun kq v15 v79 wr => ∃ (k i : Int), v15 = .int .i64 k ∧ v79 = .int .i64 i ∧ w8 = wr ∧ Aside0 (0 ≤ i ∧ i.toNat + kq = SA.length ∧ 0 ≤ k ∧ k.toNat ≤ SB.length) ∧ Aside0 ((SB.drop k.toNat).Sublist (SA.drop i.toNat)))
  case atStart => exact ⟨0, 0, rfl, rfl, rfl, ⟨by omega, by omega, by omega, by omega⟩, HSUB⟩
  case round =>
    obtain ⟨k, i, rfl, rfl, rfl, HI, HD⟩ := hrel
    by_cases hi : i < (SA.length : Int)
    · have HIL := Aside0.mk hi
      have h0 := HI.out.1
      obtain ⟨aa, rfl, hca⟩ := C_cells HXA.out (by omega)
      obtain ⟨x, hx⟩ : ∃ x, SA[i.toNat]? = some x := ⟨SA[i.toNat]'(by omega), List.getElem?_eq_getElem _⟩
      have xa := hca _ _ hx
      have hdr : SA.drop i.toNat = x :: SA.drop (i + 1).toNat := by
        have hlt : i.toNat < SA.length := by omega
        rw [show (i + 1).toNat = i.toNat + 1 from by omega, List.drop_eq_getElem_cons hlt]
        rw [List.getElem?_eq_getElem hlt] at hx
        injection hx with hx
        rw [hx]
      have hib : decide (i < (SA.length : Int)) = true := decide_eq_true hi
      have p0_ := eq_true h0
      have q0_ := eq_true hi
      have HW1 := Aside0.mk (show wrap64 (i + 1) = i + 1 from wrap_in (by omega) (by have := HLA.out; omega))
      have HDR := Aside0.mk hdr
      obtain ⟨ko, hko⟩ : ∃ ko, gk = ko + 1 := ⟨gk - 1, by have := HI.out; omega⟩
      subst hko
      by_cases hk : k < (SB.length : Int)
      · have hk0 := HI.out.2.2.1
        obtain ⟨ab, rfl, hcb⟩ := C_cells HXB.out (by omega)
        obtain ⟨y, hy⟩ : ∃ y, SB[k.toNat]? = some y := ⟨SB[k.toNat]'(by omega), List.getElem?_eq_getElem _⟩
        have xb := hcb _ _ hy
        have hdk : SB.drop k.toNat = y :: SB.drop (k + 1).toNat := by
          have hlt : k.toNat < SB.length := by omega
          rw [show (k + 1).toNat = k.toNat + 1 from by omega, List.drop_eq_getElem_cons hlt]
          rw [List.getElem?_eq_getElem hlt] at hy
          injection hy with hy
          rw [hy]
        have hst := HD.out
        rw [hdk, hdr] at hst
        have HST := Aside0.mk (sub_step hst)
        have HDK := Aside0.mk hdk
        have hkb : decide (k < (SB.length : Int)) = true := decide_eq_true hk
        have p1_ := eq_true hk0
        have q1_ := eq_true hk
        have HW2 := Aside0.mk (show wrap64 (k + 1) = k + 1 from wrap_in (by omega) (by have := HLB.out; omega))
        have HKL := Aside0.mk hk
        by_cases hyx : y = x
        · subst hyx
          have HSS := Aside0.mk (HST.out.1 rfl)
          clear hx hy hca hcb hdr hdk hst HST hi hk h0 hk0
          go_wp2
          go_roundg ko
          case measure => omega
          case rel => exact ⟨k + 1, i + 1, by rw [HW2.out], by rw [HW1.out], rfl, ⟨by have := HI.out; omega, by have := HI.out; omega, by have := HI.out; omega, by have := HI.out; have := HKL.out; omega⟩, HSS⟩
        · have hyb : (y == x) = false := beq_eq_false_iff_ne.mpr hyx
          have HSS := Aside0.mk (HST.out.2 hyx)
          clear hx hy hca hcb hdr hst HST hi hk h0 hk0 hyx hdk
          go_wp2
          go_roundg ko
          case measure => omega
          case rel => exact ⟨k, i + 1, rfl, by rw [HW1.out], rfl, ⟨by have := HI.out; omega, by have := HI.out; omega, by have := HI.out; omega, by have := HI.out; omega⟩, ⟨by rw [HDK.out]; exact HSS.out⟩⟩
      · have hkb : decide (k < (SB.length : Int)) = false := decide_eq_false hk
        have q1_ : (k < (SB.length : Int)) = False := eq_false hk
        have hnil : SB.drop k.toNat = [] := List.drop_eq_nil_of_le (by omega)
        have HNL := Aside0.mk hnil
        clear hx hca hdr hi hk h0 hnil
        go_wp2
        go_roundg ko
        case measure => omega
        case rel => exact ⟨k, i + 1, rfl, by rw [HW1.out], rfl, ⟨by have := HI.out; omega, by have := HI.out; omega, by have := HI.out; omega, by have := HI.out; omega⟩, ⟨by rw [HNL.out]; exact List.nil_sublist _⟩⟩
    · have hib : decide (i < (SA.length : Int)) = false := decide_eq_false hi
      have q0_ : (i < (SA.length : Int)) = False := eq_false hi
      have hend : SA.drop i.toNat = [] := List.drop_eq_nil_of_le (by have := HI.out; omega)
      have hd := HD.out
      rw [hend] at hd
      have hk0 : SB.length ≤ k.toNat := List.drop_eq_nil_iff.mp (List.sublist_nil.mp hd)
      have hkl : k = (SB.length : Int) := by have := HI.out; omega
      have hkb : (k == (SB.length : Int)) = true := beq_iff_eq.mpr hkl
      clear hi hend hd hk0
      subst hkl
      go_wp2
      go_ret
      exact ⟨by first | rfl | simp, HB.out⟩
end Go.Proofs.Ytijochlkmkmhdaa.LessWalkCullLess
