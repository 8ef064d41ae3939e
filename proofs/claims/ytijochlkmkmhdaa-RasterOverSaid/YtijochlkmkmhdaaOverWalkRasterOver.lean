/- The walk of the law RasterOver. Under no condition but what stands at it. -/
import Derived.Test.YtijochlkmkmhdaaOverMemRasterOver
namespace Go.Proofs.Ytijochlkmkmhdaa.OverWalkRasterOver
open Go Go.RowKit Go.Proofs.Ytijochlkmkmhdaa.Fnv Go.Proofs.YtijochlkmkmhdaaW.PrintWords Go.Proofs.YtijochlkmkmhdaaW.PrintLast Go.Proofs.YtijochlkmkmhdaaW.PrintMore Go.Proofs.Ytijochlkmkmhdaa.PRasterOver Go.Proofs.Ytijochlkmkmhdaa.RasterRasterOver Go.Proofs.Ytijochlkmkmhdaa.OverLawRasterOver Go.Proofs.Ytijochlkmkmhdaa.OverMemRasterOver
set_option linter.unusedVariables false
set_option linter.unusedSimpArgs false
abbrev IntsOk (l : List Int) : Prop := l.length ≤ 9223372036854775807 ∧ ∀ x ∈ l, (Lit.int .i64 x).wf = true
set_option maxHeartbeats 8000000 in
set_option maxRecDepth 100000 in
theorem walk (A0 : Option Addr) (c0 : Nat) (l0 : List Int) {W : World} (hr0 : Kd.C (Kd.int .i64) W A0 l0.length l0) (hc0 : l0.length ≤ c0) (ok0 : IntsOk l0) (A1 : Option Addr) (c1 : Nat) (l1 : List Int) (hr1 : Kd.C (Kd.int .i64) W A1 l1.length l1) (hc1 : l1.length ≤ c1) (ok1 : IntsOk l1) :
    Calls Try.prog 7 #[.slice A0 l0.length c0, .slice A1 l1.length c1] W fun e w' => e = .returned (.bool true) ∧ Below W.heap.size W w' := by
  obtain ⟨a, b, P, Q, R, kd, ka, kb, kp, kq, kr, hd, ha, hb, ha6, hb6, hp, hq, hr, hP, hQ, hR, hpix⟩ := over_calls l0 l1 ok0.1 ok1.1
  have HR0 := Aside0.mk hr0
  have HC0 := Aside0.mk hc0
  have HR1 := Aside0.mk hr1
  have HC1 := Aside0.mk hc1
  have HD := Aside0.mk hd
  have HKA := Aside0.mk ha
  have HKB := Aside0.mk hb
  have H6A := Aside0.mk ha6
  have H6B := Aside0.mk hb6
  have HKP := Aside0.mk hp
  have HKQ := Aside0.mk hq
  have HKR := Aside0.mk hr
  have HP := Aside0.mk hP
  have HQ := Aside0.mk hQ
  have HRL := Aside0.mk hR
  have HPIX := Aside0.mk hpix
  clear hr0 hc0 ok0 hr1 hc1 ok1 hd ha hb ha6 hb6 hp hq hr hP hQ hR hpix
  go_enter Try.func7, Try.ntmps7
  go_upto_region 5 with (first | ((with_reducible refine gate_callee (f := 20) rfl ?_); refine goesL_ (some 16) rfl rfl Try.func20 (by kernel_rfl) rfl #[] rfl (by (simp only [List.map_toArray, List.map_cons, List.map_nil]); first | done | rfl) ?_; (refine (tourkeep5_draws.calls kd true W HD.out).mono ?_); rintro e w1 ⟨rfl, hb⟩; refine ⟨_, rfl, ?_⟩; have HB := Aside0.mk hb; clear hb) | ((with_reducible refine gate_callee (f := 18) rfl ?_); refine goesL_ (some 19) rfl rfl Try.func18 (by kernel_rfl) rfl #[.slice A0 l0.length c0] rfl (by (simp only [List.map_toArray, List.map_cons, List.map_nil]); first | done | rfl) ?_; (refine (tourref5_Things.calls ka A0 c0 l0 a _ (Kd.C_below HR0.out HB.out) HC0.out HKA.out).mono ?_); rintro e w2 ⟨v, rfl, hS, hb⟩; refine ⟨_, rfl, ?_⟩; obtain ⟨Aa, ca, rfl⟩ := Kd.R_slice (Kd.S_R hS); have HFA := Aside0.mk (Kd.S_F hS); have HCA := Aside0.mk (Kd.R_reads' (Kd.S_R hS)).2.1; have HB := Aside0.mk (HB.out.trans (hb.mono HB.out.size)); clear hS hb) | ((with_reducible refine gate_callee (f := 18) rfl ?_); refine goesL_ (some 21) rfl rfl Try.func18 (by kernel_rfl) rfl #[.slice A1 l1.length c1] rfl (by (simp only [List.map_toArray, List.map_cons, List.map_nil]); first | done | rfl) ?_; (refine (tourref5_Things.calls kb A1 c1 l1 b _ (Kd.C_below HR1.out HB.out) HC1.out HKB.out).mono ?_); rintro e w3 ⟨v, rfl, hS, hb⟩; refine ⟨_, rfl, ?_⟩; obtain ⟨Ab, cb, rfl⟩ := Kd.R_slice (Kd.S_R hS); have HFB := Aside0.mk (Kd.S_F hS); have HCB := Aside0.mk (Kd.R_reads' (Kd.S_R hS)).2.1; have HFA := Aside0.mk (Kd.F_below HFA.out hb); have HB := Aside0.mk (HB.out.trans (hb.mono HB.out.size)); clear hS hb) | ((with_reducible refine gate_dst (N := 7) rfl ?_); refine box_event ?hg (N := 7) ?hd (cs := #[.int .i64 0, .int .i64 0, .int .i64 0, .int .i64 0]) (t := 23) ?hr ?_; (case hd => rfl); (case hg => rfl); (case hr => first | (go_simp; done) | (go_simp; rfl)); intro g7 hg w4 hbox hb; have HE := Aside0.mk hb; have GE := Aside0.mk (Nat.le_of_eq hg.symm); have BK := Aside0.mk hbox; clear hg hbox hb; have cz0 := (blk_cell BK.out 0).trans rfl; have fz0 := blk_frozen BK.out 0; have cz1 := (blk_cell BK.out 1).trans rfl; have fz1 := blk_frozen BK.out 1; have cz2 := (blk_cell BK.out 2).trans rfl; have fz2 := blk_frozen BK.out 2; have cz3 := (blk_cell BK.out 3).trans rfl; have fz3 := blk_frozen BK.out 3))
  have HE := Aside0.mk (show Below w3.heap.size w3 ((((w4.setCell ⟨g7, 0, none⟩ (.int .i64 (-2))).setCell ⟨g7, 1, none⟩ (.int .i64 (-2))).setCell ⟨g7, 2, none⟩ (.int .i64 16)).setCell ⟨g7, 3, none⟩ (.int .i64 16)) from (((HE.out.setCell GE.out _).setCell GE.out _).setCell GE.out _).setCell GE.out _)
  have BK := Aside0.mk (show (((((w4.setCell ⟨g7, 0, none⟩ (.int .i64 (-2))).setCell ⟨g7, 1, none⟩ (.int .i64 (-2))).setCell ⟨g7, 2, none⟩ (.int .i64 16)).setCell ⟨g7, 3, none⟩ (.int .i64 16))).heap[g7]? = some (.cells #[.int .i64 (-2), .int .i64 (-2), .int .i64 16, .int .i64 16] 23 (0, 0)) from blk_put (blk_put (blk_put (blk_put BK.out 0 _ rfl) 1 _ rfl) 2 _ rfl) 3 _ rfl)
  have HB := Aside0.mk (HB.out.trans (HE.out.mono HB.out.size))
  have HFA := Aside0.mk (Kd.F_below HFA.out HE.out)
  have HFB := Aside0.mk (Kd.F_below HFB.out HE.out)
  clear HE GE cz0 fz0 cz1 fz1 cz2 fz2 cz3 fz3
  generalize ((((w4.setCell ⟨g7, 0, none⟩ (.int .i64 (-2))).setCell ⟨g7, 1, none⟩ (.int .i64 (-2))).setCell ⟨g7, 2, none⟩ (.int .i64 16)).setCell ⟨g7, 3, none⟩ (.int .i64 16)) = w5 at HB BK HFA HFB ⊢
  have ca0 := (blk_cell BK.out 0).trans rfl
  have ca1 := (blk_cell BK.out 1).trans rfl
  have ca2 := (blk_cell BK.out 2).trans rfl
  have ca3 := (blk_cell BK.out 3).trans rfl
  go_upto_region 7 with (first | ((with_reducible refine gate_callee (f := 13) rfl ?_); refine goesL_ (some 26) rfl rfl Try.func13 (by kernel_rfl) rfl #[.slice Aa a.length ca, .agg #[.int .i64 (-2), .int .i64 (-2), .int .i64 16, .int .i64 16]] rfl (by (simp only [List.map_toArray, List.map_cons, List.map_nil]); first | done | rfl) ?_; (refine (raster_Picture.calls kp Aa ca a (-2) (-2) 16 16 P 0 _ (Kd.F_now HFA.out) HCA.out HKP.out).mono ?_); rintro e w6 ⟨v, rfl, hR, hb⟩; refine ⟨_, rfl, ?_⟩; obtain ⟨AP, cP, ev⟩ := Kd.R_slice hR; rw [HP.out] at ev; subst ev; have HXP := Aside0.mk (Kd.R_reads' hR).2.2; have HB := Aside0.mk (HB.out.trans (hb.mono HB.out.size)); have BK := Aside0.mk (blk_below BK.out hb); have HFA := Aside0.mk (Kd.F_below HFA.out hb); have HFB := Aside0.mk (Kd.F_below HFB.out hb); clear ca0 ca1 ca2 ca3; have ca0 := (blk_cell BK.out 0).trans rfl; have ca1 := (blk_cell BK.out 1).trans rfl; have ca2 := (blk_cell BK.out 2).trans rfl; have ca3 := (blk_cell BK.out 3).trans rfl; clear hR hb) | ((with_reducible refine gate_callee (f := 13) rfl ?_); refine goesL_ (some 32) rfl rfl Try.func13 (by kernel_rfl) rfl #[.slice Ab b.length cb, .agg #[.int .i64 (-2), .int .i64 (-2), .int .i64 16, .int .i64 16]] rfl (by (simp only [List.map_toArray, List.map_cons, List.map_nil]); first | done | rfl) ?_; (refine (raster_Picture.calls kq Ab cb b (-2) (-2) 16 16 Q 0 _ (Kd.F_now HFB.out) HCB.out HKQ.out).mono ?_); rintro e w7 ⟨v, rfl, hR, hb⟩; refine ⟨_, rfl, ?_⟩; obtain ⟨AQ, cQ, ev⟩ := Kd.R_slice hR; rw [HQ.out] at ev; subst ev; have HXQ := Aside0.mk (Kd.R_reads' hR).2.2; have HB := Aside0.mk (HB.out.trans (hb.mono HB.out.size)); have BK := Aside0.mk (blk_below BK.out hb); have HFA := Aside0.mk (Kd.F_below HFA.out hb); have HFB := Aside0.mk (Kd.F_below HFB.out hb); have HXP := Aside0.mk (Kd.C_below HXP.out hb); clear ca0 ca1 ca2 ca3; clear hR hb))
  have HB := Aside0.mk (HB.out.trans ((Below.refl _ _).drew.mono HB.out.size))
  have BK := Aside0.mk (blk_drew BK.out)
  have HFA := Aside0.mk (Kd.F_drew HFA.out)
  have HFB := Aside0.mk (Kd.F_drew HFB.out)
  have HXP := Aside0.mk (Kd.C_drew HXP.out)
  have HXQ := Aside0.mk (Kd.C_drew HXQ.out)
  refine start_ (n := 11) (S := fun w' => w'.cell? ⟨g7, 0, none⟩ = some (.int .i64 (-2)) ∧ w'.cell? ⟨g7, 1, none⟩ = some (.int .i64 (-2)) ∧ w'.cell? ⟨g7, 2, none⟩ = some (.int .i64 16) ∧ w'.cell? ⟨g7, 3, none⟩ = some (.int .i64 16)) (ds := []) #[false, false, false, false, false, false, false, false, false, false, false] (by kernel_rfl) rfl rfl ⟨(blk_cell BK.out 0).trans rfl, (blk_cell BK.out 1).trans rfl, (blk_cell BK.out 2).trans rfl, (blk_cell BK.out 3).trans rfl⟩ (fun hHeld => ?_)
  generalize w7.drew = wd at HB BK HFA HFB HXP HXQ hHeld ⊢
  refine pure_ (i := 0) (N := some 36) (v := ?_) (a' := ?_) #[true, false, false, false, false, false, false, false, false, false, false] rfl rfl (by kernel_rfl) (fun _ _ _ h => h) (Or.inl ⟨by rfl, ?_⟩) ?_ ?_
  rotate_left
  · intro w'
    go_simp
    with_reducible rfl
  rotate_left
  · simp only [Act.put, List.setIfInBounds_toArray, List.set_cons_zero, List.set_cons_succ, i64_w, i32_w]
    rfl
  refine pure_ (i := 1) (N := some 37) (v := ?_) (a' := ?_) #[true, true, false, false, false, false, false, false, false, false, false] rfl rfl (by kernel_rfl) (fun _ _ _ h => h) (Or.inl ⟨by rfl, ?_⟩) ?_ ?_
  rotate_left
  · intro w'
    go_simp
    with_reducible rfl
  rotate_left
  · simp only [Act.put, List.setIfInBounds_toArray, List.set_cons_zero, List.set_cons_succ, i64_w, i32_w]
    rfl
  refine take_ (i := 4) (N := some 40) (v := ?_) (a' := ?_) #[true, true, false, false, true, false, false, false, false, false, false] rfl rfl (by kernel_rfl) (fun _ _ _ h => h) (Or.inl ⟨by rfl, ?_⟩) hHeld ?_ ?_
  rotate_left
  · rintro w' ⟨s0, s1, s2, s3⟩
    go_simp
    with_reducible rfl
  rotate_left
  · simp only [Act.put, List.setIfInBounds_toArray, List.set_cons_zero, List.set_cons_succ, i64_w, i32_w]
    rfl
  refine one_ (i := 2) (N := some 38) #[true, true, true, false, true, false, false, false, false, false, false] rfl rfl (by kernel_rfl) (by decide) (fun K hK => ?_)
  refine row_step (by rfl) rfl (cs := #[.slice Aa a.length ca, .slice Ab b.length cb]) (t := 30) (n := 2) ?_ ?_
  · first | (go_simp; done) | (go_simp; rfl)
  intro g8 hg wa hbox hb
  have HRW := Aside0.mk hbox
  have HFA := Aside0.mk (Kd.F_below HFA.out hb)
  have HFB := Aside0.mk (Kd.F_below HFB.out hb)
  have HB := Aside0.mk (HB.out.trans (hb.mono HB.out.size))
  have BK := Aside0.mk (blk_below BK.out hb)
  have HXP := Aside0.mk (Kd.C_below HXP.out hb)
  have HXQ := Aside0.mk (Kd.C_below HXQ.out hb)
  clear hg hbox hb
  refine hK.out _ _ ⟨(blk_cell BK.out 0).trans rfl, (blk_cell BK.out 1).trans rfl, (blk_cell BK.out 2).trans rfl, (blk_cell BK.out 3).trans rfl⟩ (fun hHeld => ?_)
  clear hK K
  refine norm_ (a' := ?_) ?_ ?_
  rotate_left
  · show Act.put _ (some 38) _ = _
    simp only [Act.put, List.setIfInBounds_toArray, List.set_cons_zero, List.set_cons_succ, i64_w, i32_w]
    rfl
  refine one_ (i := 3) (N := some 39) #[true, true, true, true, true, false, false, false, false, false, false] rfl rfl (by kernel_rfl) (by decide) (fun K hK => ?_)
  refine goes_ Try.func21 (by kernel_rfl) rfl #[.slice (some ⟨g8, 0, none⟩) 2 2] (by rfl) rfl rfl (by simp only [List.map_toArray, List.map_cons, List.map_nil]; rfl) ?_
  refine (concat_any Aa ca a Ab cb b HRW.out (Kd.F_mono (Kd.F_bound HFA.out) fun _ h => h.2) (Kd.F_mono (Kd.F_bound HFB.out) fun _ h => h.2) H6A.out H6B.out).mono ?_
  rintro e wb ⟨Ac, cc, rfl, hcc, hF, hb⟩
  refine ⟨_, rfl, ?_⟩
  have HB := Aside0.mk (HB.out.trans (hb.mono HB.out.size))
  have BK := Aside0.mk (blk_below BK.out hb)
  have HXP := Aside0.mk (Kd.C_below HXP.out hb)
  have HXQ := Aside0.mk (Kd.C_below HXQ.out hb)
  have HFC := Aside0.mk hF
  have HCC := Aside0.mk hcc
  clear hcc hF hb
  refine hK.out _ _ ⟨(blk_cell BK.out 0).trans rfl, (blk_cell BK.out 1).trans rfl, (blk_cell BK.out 2).trans rfl, (blk_cell BK.out 3).trans rfl⟩ (fun hHeld => ?_)
  clear hK K
  refine norm_ (a' := ?_) ?_ ?_
  rotate_left
  · show Act.put _ (some 39) _ = _
    simp only [Act.put, List.setIfInBounds_toArray, List.set_cons_zero, List.set_cons_succ, i64_w, i32_w]
    rfl
  refine one_ (i := 5) (N := some 41) #[true, true, true, true, true, true, false, false, false, false, false] rfl rfl (by kernel_rfl) (by decide) (fun K hK => ?_)
  refine goes_ Try.func13 (by kernel_rfl) rfl #[.slice Ac (a ++ b).length cc, .agg #[.int .i64 (-2), .int .i64 (-2), .int .i64 16, .int .i64 16]] (by rfl) rfl rfl (by simp only [List.map_toArray, List.map_cons, List.map_nil]; rfl) ?_
  with_reducible refine (raster_Picture.calls kr Ac cc (a ++ b) (-2) (-2) 16 16 R 0 _ (Kd.F_now HFC.out) HCC.out HKR.out).mono ?_
  rintro e wc ⟨v, rfl, hR, hb⟩
  refine ⟨_, rfl, ?_⟩
  obtain ⟨AR, cR, ev⟩ := Kd.R_slice hR
  rw [HRL.out] at ev
  subst ev
  have HXR := Aside0.mk (Kd.R_reads' hR).2.2
  have HB := Aside0.mk (HB.out.trans (hb.mono HB.out.size))
  have BK := Aside0.mk (blk_below BK.out hb)
  have HXP := Aside0.mk (Kd.C_below HXP.out hb)
  have HXQ := Aside0.mk (Kd.C_below HXQ.out hb)
  clear hR hb
  refine hK.out _ _ ⟨(blk_cell BK.out 0).trans rfl, (blk_cell BK.out 1).trans rfl, (blk_cell BK.out 2).trans rfl, (blk_cell BK.out 3).trans rfl⟩ (fun hHeld => ?_)
  clear hK K
  refine norm_ (a' := ?_) ?_ ?_
  rotate_left
  · show Act.put _ (some 41) _ = _
    simp only [Act.put, List.setIfInBounds_toArray, List.set_cons_zero, List.set_cons_succ, i64_w, i32_w]
    rfl
  refine pure_ (i := 6) (N := some 35) (v := ?_) (a' := ?_) #[true, true, true, true, true, true, true, false, false, false, false] rfl rfl (by kernel_rfl) (fun _ _ _ h => h) (Or.inl ⟨by rfl, ?_⟩) ?_ ?_
  rotate_left
  · intro w'
    go_simp
    with_reducible rfl
  rotate_left
  · simp only [Act.put, List.setIfInBounds_toArray, List.set_cons_zero, List.set_cons_succ, i64_w, i32_w]
    rfl
  refine pure_ (i := 7) (N := some 42) (v := ?_) (a' := ?_) #[true, true, true, true, true, true, true, true, false, false, false] rfl rfl (by kernel_rfl) (fun _ _ _ h => h) (Or.inl ⟨by rfl, ?_⟩) ?_ ?_
  rotate_left
  · intro w'
    go_simp
    with_reducible rfl
  rotate_left
  · simp only [Act.put, List.setIfInBounds_toArray, List.set_cons_zero, List.set_cons_succ, i64_w, i32_w]
    rfl
  refine pure_ (i := 8) (N := some 43) (v := ?_) (a' := ?_) #[true, true, true, true, true, true, true, true, true, false, false] rfl rfl (by kernel_rfl) (fun _ _ _ h => h) (Or.inl ⟨by rfl, ?_⟩) ?_ ?_
  rotate_left
  · intro w'
    go_simp
    with_reducible rfl
  rotate_left
  · simp only [Act.put, List.setIfInBounds_toArray, List.set_cons_zero, List.set_cons_succ, i64_w, i32_w]
    rfl
  refine pure_ (i := 9) (N := some 12) (v := ?_) (a' := ?_) #[true, true, true, true, true, true, true, true, true, true, false] rfl rfl (by kernel_rfl) (fun _ _ _ h => h) (Or.inl ⟨by rfl, ?_⟩) ?_ ?_
  rotate_left
  · intro w'
    go_simp
    with_reducible rfl
  rotate_left
  · simp only [Act.put, List.setIfInBounds_toArray, List.set_cons_zero, List.set_cons_succ, i64_w, i32_w]
    rfl
  refine pure_ (i := 10) (N := some 13) (v := ?_) (a' := ?_) #[true, true, true, true, true, true, true, true, true, true, true] rfl rfl (by kernel_rfl) (fun _ _ _ h => h) (Or.inl ⟨by rfl, ?_⟩) ?_ ?_
  rotate_left
  · intro w'
    go_simp
    with_reducible rfl
  rotate_left
  · simp only [Act.put, List.setIfInBounds_toArray, List.set_cons_zero, List.set_cons_succ, i64_w, i32_w]
    rfl
  refine done_ (by kernel_rfl) ?_
  clear BK HFA HFB
  obtain ⟨ap, rfl, hcp⟩ := C_cells (show Kd.C (Kd.int .i64) wc AP P.length P from HXP.out) (by rw [HP.out]; decide)
  obtain ⟨aq, rfl, hcq⟩ := C_cells (show Kd.C (Kd.int .i64) wc AQ Q.length Q from HXQ.out) (by rw [HQ.out]; decide)
  obtain ⟨ar, rfl, hcr⟩ := C_cells (show Kd.C (Kd.int .i64) wc AR R.length R from HXR.out) (by rw [HRL.out]; decide)
  have HCP := Aside0.mk hcp
  have HCQ := Aside0.mk hcq
  have HCR := Aside0.mk hcr
  clear hcp hcq hcr HXP HXQ HXR
  go_wp2
  go_loopg [71] 256 (fun kq v71 wr => ∃ i : Int, v71 = .int .i64 i ∧ wc = wr ∧ 0 ≤ i ∧ i.toNat + kq = 256)
  case atStart => exact ⟨0, rfl, rfl, by omega, rfl⟩
  case round =>
    obtain ⟨i, rfl, rfl, h0, hk⟩ := hrel
    by_cases hi : i < 256
    · obtain ⟨p, q, r, ep, eq, er, e⟩ := HPIX.out i.toNat (by omega)
      have xp := HCP.out _ _ ep
      have xq := HCQ.out _ _ eq
      have xr := HCR.out _ _ er
      have HK := Aside0.mk (show 0 ≤ i ∧ i.toNat + gk = 256 from ⟨h0, hk⟩)
      have hib : decide (i < 256) = true := decide_eq_true hi
      have p0 := eq_true h0
      have q0 := eq_true hi
      have HI := Aside0.mk hi
      have HW := Aside0.mk (show wrap64 (i + 1) = i + 1 from wrap_in (by omega) (by omega))
      clear ep eq er hi h0 hk
      cases gk with
      | zero => exact absurd HK.out.2 (by have := HI.out; have := HK.out.1; omega)
      | succ kz =>
        by_cases hq : q = 0
        · subst hq
          rw [if_neg (by simp)] at e
          subst e
          go_wp2
          go_roundg kz
          case measure => omega
          case rel => exact ⟨i + 1, by rw [HW.out], rfl, by have := HK.out.1; omega, by have := HK.out; omega⟩
        · rw [if_pos hq] at e
          subst e
          have hqb : (r != 0) = true := bne_iff_ne.mpr hq
          clear hq
          go_wp2
          go_roundg kz
          case measure => omega
          case rel => exact ⟨i + 1, by rw [HW.out], rfl, by have := HK.out.1; omega, by have := HK.out; omega⟩
    · have hib : decide (i < 256) = false := decide_eq_false hi
      have q0 : (i < 256) = False := eq_false hi
      clear hi
      go_wp2
      go_ret
      exact ⟨rfl, HB.out⟩
end Go.Proofs.Ytijochlkmkmhdaa.OverWalkRasterOver

