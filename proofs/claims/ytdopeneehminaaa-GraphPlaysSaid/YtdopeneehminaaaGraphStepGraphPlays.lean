/- One step of the law GraphPlays. Under no condition but what stands at it. -/
import Derived.Test.YtdopeneehminaaaGraphPSGraphPlays
import Derived.Outline
namespace Go.Proofs.Ytdopeneehminaaa.GraphStepGraphPlays
open Go Go.RowKit Go.Proofs.YtdopeneehminaaaW.PrintWords Go.Proofs.YtdopeneehminaaaW.PrintLast Go.Proofs.YtdopeneehminaaaW.PrintMore Go.Proofs.Ytdopeneehminaaa.Fnv Go.Proofs.Ytdopeneehminaaa.PGraphPlays Go.Proofs.Ytdopeneehminaaa.GraphMemGraphPlays Go.Proofs.Ytdopeneehminaaa.GraphAtGraphPlays Go.Proofs.Ytdopeneehminaaa.GraphSetGraphPlays Go.Proofs.Ytdopeneehminaaa.GraphAddGraphPlays Go.Proofs.Ytdopeneehminaaa.NumGraphPlays Go.Proofs.Ytdopeneehminaaa.GraphWiGraphPlays Go.Proofs.Ytdopeneehminaaa.GraphRunsGraphPlays Go.Proofs.Ytdopeneehminaaa.GraphNewGraphPlays Go.Proofs.Ytdopeneehminaaa.GraphTwoGraphPlays Go.Proofs.Ytdopeneehminaaa.GraphMoveGraphPlays Go.Proofs.Ytdopeneehminaaa.GraphWhereGraphPlays Go.Proofs.Ytdopeneehminaaa.GraphPSGraphPlays
set_option linter.unusedVariables false
set_option linter.unusedSimpArgs false
abbrev tO : TypeId := 67
def StepPost (W : World) (g m : Nat) (e : Ending) (w' : World) : Prop := e = .returned (.bool true) ∧ ∃ (s' : GS) (V' : Nat → Pl) (r' : Nat → Nat) (v0 v1 v2 v3 vu vo : Value), Sane V' r' s' ∧ PS W w' g m v0 v1 v2 v3 vu vo s' s'.up s'.own
theorem fits_ref (p : Pl) : tourref5_PlaceFits.f p.x p.y p.a p.s = some (fitsV p) := by
  unfold tourref5_PlaceFits.f fitsV mn mx
  by_cases c1 : p.x < p.y <;> by_cases c2 : p.x ≤ 65536000 <;> by_cases c3 : -65536000 ≤ p.x <;> by_cases c4 : p.y ≤ 65536000 <;> by_cases c5 : -65536000 ≤ p.y <;> by_cases c6 : 0 ≤ p.s <;> simp [c1, c2, c3, c4, c5, c6] <;> (try split) <;> (try split) <;> (try omega) <;> simp_all <;> omega
theorem three {w : World} {x : Nat} {t : TypeId} {v0 v1 v2 : Value} (B : w.heap[x]? = some (.cells #[v0, v1, v2] t (0, 0))) : w.cell? ⟨x, 0, none⟩ = some v0 ∧ w.cell? ⟨x, 1, none⟩ = some v1 ∧ w.cell? ⟨x, 2, none⟩ = some v2 := ⟨(blk_cell B 0).trans rfl, (blk_cell B 1).trans rfl, (blk_cell B 2).trans rfl⟩
set_option maxHeartbeats 32000000 in
set_option maxRecDepth 100000 in
theorem step_any {W : World} {g m : Nat} {v0 v1 v2 v3 vu vo : Value} {V : Nat → Pl} {r : Nat → Nat} (s : GS) (hs : Sane V r s) (a b c : Int) (p : Pl) (w : World) (h : PS W w g m v0 v1 v2 v3 vu vo s s.up s.own) :
    Calls Try.prog 36 #[.pointer (some ⟨g, 0, none⟩), .pointer (some ⟨m, 0, none⟩), .agg #[.int .i64 a, .int .i64 b, .int .i64 c], .agg #[.int .i64 p.x, .int .i64 p.y, .int .i64 p.a, .int .i64 p.s]] w (StepPost W g m) := by
  have hu66 := Try.underlying66
  have hu52 := Try.underlying52
  have hu67 := Try.underlying67
  obtain ⟨A0, c0, rfl⟩ := own_slice h.lu
  obtain ⟨A1, c1, rfl⟩ := own_slice h.lo
  have HS := Aside0.mk hs
  have PSH := Aside0.mk h
  clear hs h
  go_enter Try.func36, Try.ntmps36
  go_upto_region 0 with fail
  go_cut [6, 7] (fun v6 v7 w' => ∃ g6 g7 : Nat, v6 = .pointer (some ⟨g6, 0, none⟩) ∧ v7 = .pointer (some ⟨g7, 0, none⟩) ∧ w'.heap[g6]? = some (.cells #[.int .i64 a, .int .i64 b, .int .i64 c] tO (0, 0)) ∧ w'.heap[g7]? = some (.cells #[.int .i64 p.x, .int .i64 p.y, .int .i64 p.a, .int .i64 p.s] tP (0, 0)) ∧ w.heap.size ≤ g7 ∧ Below w.heap.size w w')
  case first =>
    go_wp2_with fail
    go_meet
    have e : ∀ o : Obj, (w.alloc o).heap.size = w.heap.size + 1 := fun o => by simp
    exact ⟨_, _, rfl, rfl, blk_below (blk_new _ _) (below_alloc (Below.refl _ _) _), (by have := blk_new (w.alloc (.cells #[.int .i64 a, .int .i64 b, .int .i64 c] tO (0, 0))) (.cells #[.int .i64 p.x, .int .i64 p.y, .int .i64 p.a, .int .i64 p.s] tP (0, 0)); rwa [e] at this), by omega, below_step (below_alloc (Below.refl _ _) _) (below_alloc (Below.refl _ _) _)⟩
  case rest =>
    obtain ⟨g6, g7, rfl, rfl, B6, B7, hg7, hb⟩ := hcut
    have OFF7 := Aside0.mk (PSH.out.away hg7)
    have PSH := Aside0.mk (PSH.out.below hb)
    have B6 := Aside0.mk B6
    have B7 := Aside0.mk B7
    clear hb hg7
    obtain ⟨m0, m1⟩ := two2 PSH.out.mbox
    go_upto_region 2 with fail
    clear m0 m1
    have HL := Aside0.mk HS.out.le
    have W2 := Aside0.mk (show wrap64 ((s.up.length : Int) + 2) = (s.up.length : Int) + 2 from by have := HL.out; unfold wrap64; omega)
    obtain ⟨bn, hbn⟩ : ∃ q, belowV b ((s.up.length : Int) + 2) = q := ⟨_, rfl⟩
    obtain ⟨bu, hbu⟩ : ∃ q, belowV c ((s.up.length : Int) + 2) = q := ⟨_, rfl⟩
    obtain ⟨d, hd⟩ : ∃ q, belowV a 4 = q := ⟨_, rfl⟩
    have FN := Aside0.mk (below_f b ((s.up.length : Int) + 2) (by omega))
    have FU := Aside0.mk (below_f c ((s.up.length : Int) + 2) (by omega))
    have FD := Aside0.mk (below_f a 4 (by omega))
    have HN := belowV_range b ((s.up.length : Int) + 2) (by omega) (by have := HL.out; omega)
    have HU := belowV_range c ((s.up.length : Int) + 2) (by omega) (by have := HL.out; omega)
    have HD := belowV_range a 4 (by omega) (by omega)
    rw [hbn] at FN HN
    rw [hbu] at FU HU
    rw [hd] at FD HD
    rw [← W2.out] at FN FU
    have HN := Aside0.mk (show -1 ≤ wrap64 (bn - 1) ∧ wrap64 (bn - 1) ≤ (s.up.length : Int) from by have := HL.out; unfold wrap64; omega)
    have HU := Aside0.mk (show -1 ≤ wrap64 (bu - 1) ∧ wrap64 (bu - 1) ≤ (s.up.length : Int) from by have := HL.out; unfold wrap64; omega)
    have HD := Aside0.mk HD
    clear hbn hbu hd
    have PSH := Aside0.mk PSH.out.drew
    have B6 := Aside0.mk (blk_drew B6.out)
    have B7 := Aside0.mk (blk_drew B7.out)
    refine start_ (n := 14) (S := fun w' => w'.cell? ⟨g6, 1, none⟩ = some (.int .i64 b) ∧ w'.cell? ⟨g6, 2, none⟩ = some (.int .i64 c)) (ds := []) #[false, false, false, false, false, false, false, false, false, false, false, false, false, false] (by kernel_rfl) rfl rfl ⟨(blk_cell B6.out 1).trans rfl, (blk_cell B6.out 2).trans rfl⟩ (fun hHeld => ?_)
    generalize wc.drew = wd at PSH B6 B7 hHeld ⊢
    refine pure_ (i := 0) (N := some 22) (v := ?_) (a' := ?_) #[true, false, false, false, false, false, false, false, false, false, false, false, false, false] rfl rfl (by kernel_rfl) (fun _ _ _ h => h) (Or.inl ⟨by rfl, ?_⟩) ?_ ?_
    rotate_left
    · intro w'
      go_simp
      with_reducible rfl
    rotate_left
    · simp only [Act.put, List.setIfInBounds_toArray, List.set_cons_zero, List.set_cons_succ, i64_w, i32_w]
      rfl
    refine pure_ (i := 2) (N := some 24) (v := ?_) (a' := ?_) #[true, false, true, false, false, false, false, false, false, false, false, false, false, false] rfl rfl (by kernel_rfl) (fun _ _ _ h => h) (Or.inl ⟨by rfl, ?_⟩) ?_ ?_
    rotate_left
    · intro w'
      go_simp
      with_reducible rfl
    rotate_left
    · simp only [Act.put, List.setIfInBounds_toArray, List.set_cons_zero, List.set_cons_succ, i64_w, i32_w]
      rfl
    refine pure_ (i := 3) (N := some 25) (v := ?_) (a' := ?_) #[true, false, true, true, false, false, false, false, false, false, false, false, false, false] rfl rfl (by kernel_rfl) (fun _ _ _ h => h) (Or.inl ⟨by rfl, ?_⟩) ?_ ?_
    rotate_left
    · intro w'
      go_simp
      with_reducible rfl
    rotate_left
    · simp only [Act.put, List.setIfInBounds_toArray, List.set_cons_zero, List.set_cons_succ, i64_w, i32_w]
      rfl
    refine pure_ (i := 6) (N := some 28) (v := ?_) (a' := ?_) #[true, false, true, true, false, false, true, false, false, false, false, false, false, false] rfl rfl (by kernel_rfl) (fun _ _ _ h => h) (Or.inl ⟨by rfl, ?_⟩) ?_ ?_
    rotate_left
    · intro w'
      go_simp
      with_reducible rfl
    rotate_left
    · simp only [Act.put, List.setIfInBounds_toArray, List.set_cons_zero, List.set_cons_succ, i64_w, i32_w]
      rfl
    refine pure_ (i := 8) (N := some 30) (v := ?_) (a' := ?_) #[true, false, true, true, false, false, true, false, true, false, false, false, false, false] rfl rfl (by kernel_rfl) (fun _ _ _ h => h) (Or.inl ⟨by rfl, ?_⟩) ?_ ?_
    rotate_left
    · intro w'
      go_simp
      with_reducible rfl
    rotate_left
    · simp only [Act.put, List.setIfInBounds_toArray, List.set_cons_zero, List.set_cons_succ, i64_w, i32_w]
      rfl
    refine pure_ (i := 9) (N := some 31) (v := ?_) (a' := ?_) #[true, false, true, true, false, false, true, false, true, true, false, false, false, false] rfl rfl (by kernel_rfl) (fun _ _ _ h => h) (Or.inl ⟨by rfl, ?_⟩) ?_ ?_
    rotate_left
    · intro w'
      go_simp
      with_reducible rfl
    rotate_left
    · simp only [Act.put, List.setIfInBounds_toArray, List.set_cons_zero, List.set_cons_succ, i64_w, i32_w]
      rfl
    refine take_ (i := 1) (N := some 23) (v := ?_) (a' := ?_) #[true, true, true, true, false, false, true, false, true, true, false, false, false, false] rfl rfl (by kernel_rfl) (fun _ _ _ h => h) (Or.inl ⟨by rfl, ?_⟩) hHeld ?_ ?_
    rotate_left
    · rintro w' ⟨s0, s1⟩
      go_simp
      with_reducible rfl
    rotate_left
    · simp only [Act.put, List.setIfInBounds_toArray, List.set_cons_zero, List.set_cons_succ, i64_w, i32_w]
      rfl
    refine take_ (i := 7) (N := some 29) (v := ?_) (a' := ?_) #[true, true, true, true, false, false, true, true, true, true, false, false, false, false] rfl rfl (by kernel_rfl) (fun _ _ _ h => h) (Or.inl ⟨by rfl, ?_⟩) hHeld ?_ ?_
    rotate_left
    · rintro w' ⟨s0, s1⟩
      go_simp
      with_reducible rfl
    rotate_left
    · simp only [Act.put, List.setIfInBounds_toArray, List.set_cons_zero, List.set_cons_succ, i64_w, i32_w]
      rfl
    refine one_ (i := 4) (N := some 26) #[true, true, true, true, true, false, true, true, true, true, false, false, false, false] rfl rfl (by kernel_rfl) (by decide) (fun K hK => ?_)
    refine goes_ Try.func28 (by kernel_rfl) rfl #[.int .i64 b, .int .i64 (wrap64 ((s.up.length : Int) + 2))] (by rfl) rfl rfl (by simp only [List.map_toArray, List.map_cons, List.map_nil]; rfl) ?_
    with_reducible refine (tourref5_Below.calls b (wrap64 ((s.up.length : Int) + 2)) bn _ FN.out).mono ?_
    rintro e we ⟨rfl, hb0⟩
    refine ⟨_, rfl, ?_⟩
    have hb := hb0.below
    have PSH := Aside0.mk (PSH.out.below hb)
    have B6 := Aside0.mk (blk_below B6.out hb)
    have B7 := Aside0.mk (blk_below B7.out hb)
    clear hb hb0
    refine hK.out _ _ ⟨(blk_cell B6.out 1).trans rfl, (blk_cell B6.out 2).trans rfl⟩ (fun hHeld => ?_)
    clear hK K
    refine norm_ (a' := ?_) ?_ ?_
    rotate_left
    · show Act.put _ (some 26) _ = _
      simp only [Act.put, List.setIfInBounds_toArray, List.set_cons_zero, List.set_cons_succ, i64_w, i32_w]
      rfl
    refine pure_ (i := 5) (N := some 27) (v := ?_) (a' := ?_) #[true, true, true, true, true, true, true, true, true, true, false, false, false, false] rfl rfl (by kernel_rfl) (fun _ _ _ h => h) (Or.inl ⟨by rfl, ?_⟩) ?_ ?_
    rotate_left
    · intro w'
      go_simp
      with_reducible rfl
    rotate_left
    · simp only [Act.put, List.setIfInBounds_toArray, List.set_cons_zero, List.set_cons_succ, i64_w, i32_w]
      rfl
    refine one_ (i := 10) (N := some 32) #[true, true, true, true, true, true, true, true, true, true, true, false, false, false] rfl rfl (by kernel_rfl) (by decide) (fun K hK => ?_)
    refine goes_ Try.func28 (by kernel_rfl) rfl #[.int .i64 c, .int .i64 (wrap64 ((s.up.length : Int) + 2))] (by rfl) rfl rfl (by simp only [List.map_toArray, List.map_cons, List.map_nil]; rfl) ?_
    with_reducible refine (tourref5_Below.calls c (wrap64 ((s.up.length : Int) + 2)) bu _ FU.out).mono ?_
    rintro e wf ⟨rfl, hb0⟩
    refine ⟨_, rfl, ?_⟩
    have hb := hb0.below
    have PSH := Aside0.mk (PSH.out.below hb)
    have B6 := Aside0.mk (blk_below B6.out hb)
    have B7 := Aside0.mk (blk_below B7.out hb)
    clear hb hb0
    refine hK.out _ _ ⟨(blk_cell B6.out 1).trans rfl, (blk_cell B6.out 2).trans rfl⟩ (fun hHeld => ?_)
    clear hK K
    refine norm_ (a' := ?_) ?_ ?_
    rotate_left
    · show Act.put _ (some 32) _ = _
      simp only [Act.put, List.setIfInBounds_toArray, List.set_cons_zero, List.set_cons_succ, i64_w, i32_w]
      rfl
    refine pure_ (i := 11) (N := some 33) (v := ?_) (a' := ?_) #[true, true, true, true, true, true, true, true, true, true, true, true, false, false] rfl rfl (by kernel_rfl) (fun _ _ _ h => h) (Or.inl ⟨by rfl, ?_⟩) ?_ ?_
    rotate_left
    · intro w'
      go_simp
      with_reducible rfl
    rotate_left
    · simp only [Act.put, List.setIfInBounds_toArray, List.set_cons_zero, List.set_cons_succ, i64_w, i32_w]
      rfl
    refine pure_ (i := 12) (N := some 10) (v := ?_) (a' := ?_) #[true, true, true, true, true, true, true, true, true, true, true, true, true, false] rfl rfl (by kernel_rfl) (fun _ _ _ h => h) (Or.inl ⟨by rfl, ?_⟩) ?_ ?_
    rotate_left
    · intro w'
      go_simp
      with_reducible rfl
    rotate_left
    · simp only [Act.put, List.setIfInBounds_toArray, List.set_cons_zero, List.set_cons_succ, i64_w, i32_w]
      rfl
    refine pure_ (i := 13) (N := some 11) (v := ?_) (a' := ?_) #[true, true, true, true, true, true, true, true, true, true, true, true, true, true] rfl rfl (by kernel_rfl) (fun _ _ _ h => h) (Or.inl ⟨by rfl, ?_⟩) ?_ ?_
    rotate_left
    · intro w'
      go_simp
      with_reducible rfl
    rotate_left
    · simp only [Act.put, List.setIfInBounds_toArray, List.set_cons_zero, List.set_cons_succ, i64_w, i32_w]
      rfl
    refine done_ (by kernel_rfl) ?_

    generalize wrap64 (bn - 1) = n at HN ⊢
    generalize wrap64 (bu - 1) = u at HU ⊢
    clear FN FU W2
    obtain ⟨q0, q1, q2⟩ := three B6.out
    go_upto_region 5 with (first | ((with_reducible refine gate_dst (N := 36) rfl ?_); (with_reducible refine gate_callee (f := 28) rfl ?_); refine goesL_ (some 36) rfl rfl Try.func28 (by kernel_rfl) rfl #[.int .i64 a, .int .i64 4] rfl (by (try simp only [List.map_toArray, List.map_cons, List.map_nil]); first | done | rfl) ?_; (refine (tourref5_Below.calls a 4 d _ FD.out).mono ?_); rintro e wk ⟨rfl, hb0⟩; refine ⟨_, rfl, ?_⟩; clear q0 q1 q2; have hb := hb0.below; have PSH := Aside0.mk (PSH.out.below hb); have B7 := Aside0.mk (blk_below B7.out hb); clear hb hb0))
    clear B6 FD
    obtain ⟨z0, z1, z2, z3⟩ := four B7.out
    have LL := Aside0.mk (show s.own.length = s.up.length ∧ s.kn.length = s.up.length ∧ s.wh.length = s.up.length from ⟨HS.out.l1, HS.out.l2, HS.out.l3⟩)
    obtain ⟨Au, cu, e0⟩ := PSH.out.size
    have hd4 : d = 0 ∨ d = 1 ∨ d = 2 ∨ d = 3 := by have := HD.out; omega
    clear HD
    rcases hd4 with rfl | rfl | rfl | rfl
    · by_cases k1 : 100 ≤ s.up.length
      · have hl : s.up.length = 100 := by have := HL.out; omega
        have a1 : decide ((s.up.length : Int) ≥ 100) = true := decide_eq_true (by omega)
        have a2 : (100 ≤ s.up.length) = True := eq_true k1
        rw [hl] at e0
        have E0 := Aside0.mk e0
        clear hl k1 e0
        go_wp2_with (first | ((with_reducible refine gate_dst (N := 74) rfl ?_); (with_reducible refine gate_callee (f := 31) rfl ?_); refine goesL_ (some 74) rfl rfl Try.func31 (by kernel_rfl) rfl #[.pointer (some ⟨g, 0, none⟩), .int .i64 u, .agg #[.int .i64 p.x, .int .i64 p.y, .int .i64 p.a, .int .i64 p.s]] rfl (by (try simp only [List.map_toArray, List.map_cons, List.map_nil]); first | done | rfl) ?_; (refine (Add_full _ g cu Au E0.out u p).mono ?_); rintro e w4 ⟨rfl, hb⟩; refine ⟨_, rfl, ?_⟩; have PSH := Aside0.mk (PSH.out.below hb); clear hb))
        go_ret
        exact ⟨rfl, s, V, r, _, _, _, _, _, _, HS.out, PSH.out⟩
      · have a1 : decide ((s.up.length : Int) ≥ 100) = false := decide_eq_false (by omega)
        have a2 : (100 ≤ s.up.length) = False := eq_false k1
        have K1 := Aside0.mk (show s.up.length < 100 from by omega)
        clear k1
        by_cases k2 : (s.up.length : Int) ≤ u
        · have a3 : decide (u ≥ (s.up.length : Int)) = true := decide_eq_true k2
          have a4 : ((s.up.length : Int) ≤ u) = True := eq_true k2
          have K2 := Aside0.mk k2
          clear k2
          go_wp2_with (first | ((with_reducible refine gate_dst (N := 74) rfl ?_); (with_reducible refine gate_callee (f := 31) rfl ?_); refine goesL_ (some 74) rfl rfl Try.func31 (by kernel_rfl) rfl #[.pointer (some ⟨g, 0, none⟩), .int .i64 u, .agg #[.int .i64 p.x, .int .i64 p.y, .int .i64 p.a, .int .i64 p.s]] rfl (by (try simp only [List.map_toArray, List.map_cons, List.map_nil]); first | done | rfl) ?_; (refine (Add_none _ g s.up.length cu Au e0 u p K1.out HU.out.1 K2.out).mono ?_); rintro e w4 ⟨rfl, hb⟩; refine ⟨_, rfl, ?_⟩; have PSH := Aside0.mk (PSH.out.below hb); clear hb))
          go_ret
          exact ⟨rfl, s, V, r, _, _, _, _, _, _, HS.out, PSH.out⟩
        · have a3 : decide (u ≥ (s.up.length : Int)) = false := decide_eq_false k2
          have a4 : ((s.up.length : Int) ≤ u) = False := eq_false k2
          have K2 := Aside0.mk (show u < s.up.length from by omega)
          clear k2
          cases hf : fitsV p with
          | false =>
            have HF := Aside0.mk (show tourref5_PlaceFits.f p.x p.y p.a p.s = some false from by rw [fits_ref, hf])
            have HF2 := Aside0.mk hf
            clear hf
            go_wp2_with (first | ((with_reducible refine gate_dst (N := 68) rfl ?_); (with_reducible refine gate_callee (f := 54) rfl ?_); refine goesL_ (some 68) rfl rfl Try.func54 (by kernel_rfl) rfl #[.agg #[.int .i64 p.x, .int .i64 p.y, .int .i64 p.a, .int .i64 p.s]] rfl (by (try simp only [List.map_toArray, List.map_cons, List.map_nil]); first | done | rfl) ?_; (refine (tourref5_PlaceFits.calls p.x p.y p.a p.s false _ HF.out).mono ?_); rintro e w3 ⟨rfl, hb⟩; refine ⟨_, rfl, ?_⟩; clear z0 z1 z2 z3 e0; have PSH := Aside0.mk (PSH.out.below hb); have B7 := Aside0.mk (blk_below B7.out hb); clear hb; obtain ⟨z0, z1, z2, z3⟩ := four B7.out; obtain ⟨Au, cu, e0⟩ := PSH.out.size) | ((with_reducible refine gate_dst (N := 74) rfl ?_); (with_reducible refine gate_callee (f := 31) rfl ?_); refine goesL_ (some 74) rfl rfl Try.func31 (by kernel_rfl) rfl #[.pointer (some ⟨g, 0, none⟩), .int .i64 u, .agg #[.int .i64 p.x, .int .i64 p.y, .int .i64 p.a, .int .i64 p.s]] rfl (by (try simp only [List.map_toArray, List.map_cons, List.map_nil]); first | done | rfl) ?_; (refine (Add_arg _ g s.up.length cu Au e0 u p K1.out HU.out.1 K2.out HF2.out).mono ?_); rintro e w4 ⟨rfl, hb⟩; refine ⟨_, rfl, ?_⟩; have PSH := Aside0.mk (PSH.out.below hb); clear hb))
            go_ret
            exact ⟨rfl, s, V, r, _, _, _, _, _, _, HS.out, PSH.out⟩
          | true =>
            have HF := Aside0.mk (show tourref5_PlaceFits.f p.x p.y p.a p.s = some true from by rw [fits_ref, hf])
            have FT := Aside0.mk (show graph_fits.f 3 p.x p.y p.a p.s = some true from by rw [show (3 : Nat) = 0 + 3 from rfl, fits_eq p 0, hf])
            clear hf
            go_upto_region 6 with (first | ((with_reducible refine gate_dst (N := 68) rfl ?_); (with_reducible refine gate_callee (f := 54) rfl ?_); refine goesL_ (some 68) rfl rfl Try.func54 (by kernel_rfl) rfl #[.agg #[.int .i64 p.x, .int .i64 p.y, .int .i64 p.a, .int .i64 p.s]] rfl (by (try simp only [List.map_toArray, List.map_cons, List.map_nil]); first | done | rfl) ?_; (refine (tourref5_PlaceFits.calls p.x p.y p.a p.s true _ HF.out).mono ?_); rintro e w3 ⟨rfl, hb⟩; refine ⟨_, rfl, ?_⟩; clear z0 z1 z2 z3 e0; have PSH := Aside0.mk (PSH.out.below hb); have B7 := Aside0.mk (blk_below B7.out hb); clear hb; obtain ⟨z0, z1, z2, z3⟩ := four B7.out; obtain ⟨Au, cu, e0⟩ := PSH.out.size))
            clear z0 z1 z2 z3 e0
            have PSH := Aside0.mk PSH.out.drew
            have B7 := Aside0.mk (blk_drew B7.out)
            have PRH := Aside0.mk PSH.out.pr
            have MB := Aside0.mk PSH.out.mbox
            have HM := Aside0.mk PSH.out.hm
            clear PSH
            refine start_ (n := 22) (S := fun w' => w'.cell? ⟨m, 0, none⟩ = some (.slice A0 s.up.length c0) ∧ w'.cell? ⟨m, 1, none⟩ = some (.slice A1 s.own.length c1) ∧ w'.cell? ⟨g7, 0, none⟩ = some (.int .i64 p.x) ∧ w'.cell? ⟨g7, 1, none⟩ = some (.int .i64 p.y) ∧ w'.cell? ⟨g7, 2, none⟩ = some (.int .i64 p.a) ∧ w'.cell? ⟨g7, 3, none⟩ = some (.int .i64 p.s)) (ds := [15, 18, 21]) #[false, false, false, false, false, false, false, false, false, false, false, false, false, false, false, false, false, false, false, false, false, false] (by kernel_rfl) rfl rfl ⟨(blk_cell MB.out 0).trans rfl, (blk_cell MB.out 1).trans rfl, (blk_cell B7.out 0).trans rfl, (blk_cell B7.out 1).trans rfl, (blk_cell B7.out 2).trans rfl, (blk_cell B7.out 3).trans rfl⟩ (fun hHeld => ?_)
            generalize w3.drew = wd6 at PRH MB B7 hHeld ⊢
            refine pure_ (i := 0) (N := some 39) (v := ?_) (a' := ?_) #[true, false, false, false, false, false, false, false, false, false, false, false, false, false, false, false, false, false, false, false, false, false] rfl rfl (by kernel_rfl) (fun _ _ _ h => h) (Or.inl ⟨by rfl, ?_⟩) ?_ ?_
            rotate_left
            · intro w'
              go_simp
              with_reducible rfl
            rotate_left
            · simp only [Act.put, List.setIfInBounds_toArray, List.set_cons_zero, List.set_cons_succ, i64_w, i32_w]
              rfl
            refine pure_ (i := 1) (N := some 40) (v := ?_) (a' := ?_) #[true, true, false, false, false, false, false, false, false, false, false, false, false, false, false, false, false, false, false, false, false, false] rfl rfl (by kernel_rfl) (fun _ _ _ h => h) (Or.inl ⟨by rfl, ?_⟩) ?_ ?_
            rotate_left
            · intro w'
              go_simp
              with_reducible rfl
            rotate_left
            · simp only [Act.put, List.setIfInBounds_toArray, List.set_cons_zero, List.set_cons_succ, i64_w, i32_w]
              rfl
            refine pure_ (i := 2) (N := some 41) (v := ?_) (a' := ?_) #[true, true, true, false, false, false, false, false, false, false, false, false, false, false, false, false, false, false, false, false, false, false] rfl rfl (by kernel_rfl) (fun _ _ _ h => h) (Or.inl ⟨by rfl, ?_⟩) ?_ ?_
            rotate_left
            · intro w'
              go_simp
              with_reducible rfl
            rotate_left
            · simp only [Act.put, List.setIfInBounds_toArray, List.set_cons_zero, List.set_cons_succ, i64_w, i32_w]
              rfl
            refine pure_ (i := 3) (N := some 42) (v := ?_) (a' := ?_) #[true, true, true, true, false, false, false, false, false, false, false, false, false, false, false, false, false, false, false, false, false, false] rfl rfl (by kernel_rfl) (fun _ _ _ h => h) (Or.inl ⟨by rfl, ?_⟩) ?_ ?_
            rotate_left
            · intro w'
              go_simp
              with_reducible rfl
            rotate_left
            · simp only [Act.put, List.setIfInBounds_toArray, List.set_cons_zero, List.set_cons_succ, i64_w, i32_w]
              rfl
            refine pure_ (i := 4) (N := some 43) (v := ?_) (a' := ?_) #[true, true, true, true, true, false, false, false, false, false, false, false, false, false, false, false, false, false, false, false, false, false] rfl rfl (by kernel_rfl) (fun _ _ _ h => h) (Or.inl ⟨by rfl, ?_⟩) ?_ ?_
            rotate_left
            · intro w'
              go_simp
              with_reducible rfl
            rotate_left
            · simp only [Act.put, List.setIfInBounds_toArray, List.set_cons_zero, List.set_cons_succ, i64_w, i32_w]
              rfl
            refine pure_ (i := 6) (N := some 45) (v := ?_) (a' := ?_) #[true, true, true, true, true, false, true, false, false, false, false, false, false, false, false, false, false, false, false, false, false, false] rfl rfl (by kernel_rfl) (fun _ _ _ h => h) (Or.inl ⟨by rfl, ?_⟩) ?_ ?_
            rotate_left
            · intro w'
              go_simp
              with_reducible rfl
            rotate_left
            · simp only [Act.put, List.setIfInBounds_toArray, List.set_cons_zero, List.set_cons_succ, i64_w, i32_w]
              rfl
            refine pure_ (i := 9) (N := some 48) (v := ?_) (a' := ?_) #[true, true, true, true, true, false, true, false, false, true, false, false, false, false, false, false, false, false, false, false, false, false] rfl rfl (by kernel_rfl) (fun _ _ _ h => h) (Or.inl ⟨by rfl, ?_⟩) ?_ ?_
            rotate_left
            · intro w'
              go_simp
              with_reducible rfl
            rotate_left
            · simp only [Act.put, List.setIfInBounds_toArray, List.set_cons_zero, List.set_cons_succ, i64_w, i32_w]
              rfl
            refine pure_ (i := 10) (N := some 49) (v := ?_) (a' := ?_) #[true, true, true, true, true, false, true, false, false, true, true, false, false, false, false, false, false, false, false, false, false, false] rfl rfl (by kernel_rfl) (fun _ _ _ h => h) (Or.inl ⟨by rfl, ?_⟩) ?_ ?_
            rotate_left
            · intro w'
              go_simp
              with_reducible rfl
            rotate_left
            · simp only [Act.put, List.setIfInBounds_toArray, List.set_cons_zero, List.set_cons_succ, i64_w, i32_w]
              rfl
            refine pure_ (i := 11) (N := some 50) (v := ?_) (a' := ?_) #[true, true, true, true, true, false, true, false, false, true, true, true, false, false, false, false, false, false, false, false, false, false] rfl rfl (by kernel_rfl) (fun _ _ _ h => h) (Or.inl ⟨by rfl, ?_⟩) ?_ ?_
            rotate_left
            · intro w'
              go_simp
              with_reducible rfl
            rotate_left
            · simp only [Act.put, List.setIfInBounds_toArray, List.set_cons_zero, List.set_cons_succ, i64_w, i32_w]
              rfl
            refine take_ (i := 5) (N := some 44) (v := ?_) (a' := ?_) #[true, true, true, true, true, true, true, false, false, true, true, true, false, false, false, false, false, false, false, false, false, false] rfl rfl (by kernel_rfl) (fun _ _ _ h => h) (Or.inl ⟨by rfl, ?_⟩) hHeld ?_ ?_
            rotate_left
            · rintro w' ⟨s0, s1, s2, s3, s4, s5⟩
              go_simp
              with_reducible rfl
            rotate_left
            · simp only [Act.put, List.setIfInBounds_toArray, List.set_cons_zero, List.set_cons_succ, i64_w, i32_w]
              rfl
            refine take_ (i := 12) (N := some 51) (v := ?_) (a' := ?_) #[true, true, true, true, true, true, true, false, false, true, true, true, true, false, false, false, false, false, false, false, false, false] rfl rfl (by kernel_rfl) (fun _ _ _ h => h) (Or.inl ⟨by rfl, ?_⟩) hHeld ?_ ?_
            rotate_left
            · rintro w' ⟨s0, s1, s2, s3, s4, s5⟩
              go_simp
              with_reducible rfl
            rotate_left
            · simp only [Act.put, List.setIfInBounds_toArray, List.set_cons_zero, List.set_cons_succ, i64_w, i32_w]
              rfl
            refine take_ (i := 13) (N := some 52) (v := ?_) (a' := ?_) #[true, true, true, true, true, true, true, false, false, true, true, true, true, true, false, false, false, false, false, false, false, false] rfl rfl (by kernel_rfl) (fun _ _ _ h => h) (Or.inl ⟨by rfl, ?_⟩) hHeld ?_ ?_
            rotate_left
            · rintro w' ⟨s0, s1, s2, s3, s4, s5⟩
              go_simp
              with_reducible rfl
            rotate_left
            · simp only [Act.put, List.setIfInBounds_toArray, List.set_cons_zero, List.set_cons_succ, i64_w, i32_w]
              rfl
            refine join_ (σ := Nat × Nat × Nat × Nat) 7 #[true, true, true, true, true, true, true, true, true, true, true, true, true, true, true, false, false, false, false, false, false, false] (fun x => [(46, .slice (some ⟨x.1, 0, none⟩) 1 1), (47, .slice (some ⟨x.2.1, 0, none⟩) (s.up.length + 1) x.2.2.1), (53, .slice (some ⟨x.2.2.2, 0, none⟩) 1 1)]) (fun x w' => PR W w' g v0 v1 v2 v3 (.slice (some ⟨x.2.1, 0, none⟩) (s.up.length + 1) x.2.2.1) (.slice A1 s.own.length c1) s (s.up ++ [u]) s.own ∧ w'.heap[m]? = some (.cells #[.slice A0 s.up.length c0, .slice A1 s.own.length c1] tN (0, 0)) ∧ w'.heap[g7]? = some (.cells #[.int .i64 p.x, .int .i64 p.y, .int .i64 p.a, .int .i64 p.s] tP (0, 0)) ∧ w'.heap[x.2.2.2]? = some (.cells #[.int .i64 p.x, .int .i64 p.y, .int .i64 p.a, .int .i64 p.s] tP (0, 0))) ?_ ?_
            rotate_left
            · intro hCont
              refine two_ (i := 7) (j := 14) (Ni := some 46) (Nj := some 53) #[true, true, true, true, true, true, true, true, false, true, true, true, true, true, false, false, false, false, false, false, false, false] #[true, true, true, true, true, true, true, false, false, true, true, true, true, true, true, false, false, false, false, false, false, false] rfl rfl rfl rfl (by kernel_rfl) (by decide) (by decide) (fun K hK => ?_) (fun K hK => ?_)
              · skip
                refine row_step (by rfl) rfl (cs := #[.int .i64 u]) (t := 3) (n := 1) ?_ ?_
                · first | (go_simp; done) | (go_simp; rfl)
                intro gA hg_ wa hbox hb
                have LA := Aside0.mk hbox
                have PRH := Aside0.mk (PRH.out.below hb)
                have MB := Aside0.mk (blk_below MB.out hb)
                have B7 := Aside0.mk (blk_below B7.out hb)
                clear hg_ hbox hb
                refine hK.out _ _ ⟨(blk_cell MB.out 0).trans rfl, (blk_cell MB.out 1).trans rfl, (blk_cell B7.out 0).trans rfl, (blk_cell B7.out 1).trans rfl, (blk_cell B7.out 2).trans rfl, (blk_cell B7.out 3).trans rfl⟩ (fun hHeld => ?_)
                clear hK K
                refine norm_ (a' := ?_) ?_ ?_
                rotate_left
                · show Act.put _ (some 46) _ = _
                  simp only [Act.put, List.setIfInBounds_toArray, List.set_cons_zero, List.set_cons_succ, i64_w, i32_w]
                  rfl
                refine two_ (i := 8) (j := 14) (Ni := some 47) (Nj := some 53) #[true, true, true, true, true, true, true, true, true, true, true, true, true, true, false, false, false, false, false, false, false, false] #[true, true, true, true, true, true, true, true, false, true, true, true, true, true, true, false, false, false, false, false, false, false] rfl rfl rfl rfl (by kernel_rfl) (by decide) (by decide) (fun K hK => ?_) (fun K hK => ?_)
                · skip
                  obtain ⟨i0, hi0, hz0, hs0, hb0⟩ := info_int
                  refine step_append_lies _ rfl (.tmp 44) (.tmp 46) 48 rfl W.heap.size 3 i0 _ 1 8 Try.underlying48 hi0 hz0 hs0 hb0 rfl (by decide) (.slice A0 s.up.length c0) s.up.length (s.up.map (Value.int .i64)) rfl PRH.out.lu ⟨gA, 0, none⟩ 1 1 [.int .i64 u] rfl rfl (by simpa using World.news_of_block LA.out) (by simp [Value.oneCell']) (by decide) (by have := K1.out; have := LL.out; unfold maxLen; omega) (by have := K1.out; have := LL.out; omega) PRH.out.rw.bel.size _ rfl ?_
                  intro hA capA wb hown hgr hat hlt
                  have MB := Aside0.mk (blk_grown MB.out hgr (own_ne PRH.out.lu MB.out (by decide)))
                  have B7 := Aside0.mk (blk_grown B7.out hgr (own_ne PRH.out.lu B7.out (by decide)))
                  have PRH := Aside0.mk (PRH.out.appu u hown hgr (hat.imp (fun e => e.symm) fun e => ⟨_, rfl, Nat.le_of_eq e.symm⟩))
                  clear hown hgr hat hlt i0 hi0 hz0 hs0 hb0 LA
                  refine hK.out _ _ ⟨(blk_cell MB.out 0).trans rfl, (blk_cell MB.out 1).trans rfl, (blk_cell B7.out 0).trans rfl, (blk_cell B7.out 1).trans rfl, (blk_cell B7.out 2).trans rfl, (blk_cell B7.out 3).trans rfl⟩ (fun hHeld => ?_)
                  clear hK K
                  refine norm_ (a' := ?_) ?_ ?_
                  rotate_left
                  · show Act.put _ (some 47) _ = _
                    simp only [Act.put, List.setIfInBounds_toArray, List.set_cons_zero, List.set_cons_succ, i64_w, i32_w]
                    rfl
                  refine one_ (i := 14) (N := some 53) #[true, true, true, true, true, true, true, true, true, true, true, true, true, true, true, false, false, false, false, false, false, false] rfl rfl (by kernel_rfl) (by decide) (fun K hK => ?_)
                  refine row_step (by rfl) rfl (cs := #[.int .i64 p.x, .int .i64 p.y, .int .i64 p.a, .int .i64 p.s]) (t := tP) (n := 1) ?_ ?_
                  · first | (go_simp; done) | (go_simp; rfl)
                  intro gB hg_ wa hbox hb
                  have LB := Aside0.mk hbox
                  have PRH := Aside0.mk (PRH.out.below hb)
                  have MB := Aside0.mk (blk_below MB.out hb)
                  have B7 := Aside0.mk (blk_below B7.out hb)
                  clear hg_ hbox hb
                  refine hK.out _ _ ⟨(blk_cell MB.out 0).trans rfl, (blk_cell MB.out 1).trans rfl, (blk_cell B7.out 0).trans rfl, (blk_cell B7.out 1).trans rfl, (blk_cell B7.out 2).trans rfl, (blk_cell B7.out 3).trans rfl⟩ (fun hHeld => ?_)
                  clear hK K
                  refine norm_ (a' := ?_) ?_ ?_
                  rotate_left
                  · show Act.put _ (some 53) _ = _
                    simp only [Act.put, List.setIfInBounds_toArray, List.set_cons_zero, List.set_cons_succ, i64_w, i32_w]
                    rfl
                  exact norm_ (by simp only [putAll, Act.put, List.setIfInBounds_toArray, List.set_cons_zero, List.set_cons_succ]) (hCont (gA, hA, capA, gB) _ ⟨PRH.out, MB.out, B7.out, LB.out⟩)
                · skip
                  refine row_step (by rfl) rfl (cs := #[.int .i64 p.x, .int .i64 p.y, .int .i64 p.a, .int .i64 p.s]) (t := tP) (n := 1) ?_ ?_
                  · first | (go_simp; done) | (go_simp; rfl)
                  intro gB hg_ wa hbox hb
                  have LB := Aside0.mk hbox
                  have PRH := Aside0.mk (PRH.out.below hb)
                  have MB := Aside0.mk (blk_below MB.out hb)
                  have B7 := Aside0.mk (blk_below B7.out hb)
                  have LA := Aside0.mk (blk_below LA.out hb)
                  clear hg_ hbox hb
                  refine hK.out _ _ ⟨(blk_cell MB.out 0).trans rfl, (blk_cell MB.out 1).trans rfl, (blk_cell B7.out 0).trans rfl, (blk_cell B7.out 1).trans rfl, (blk_cell B7.out 2).trans rfl, (blk_cell B7.out 3).trans rfl⟩ (fun hHeld => ?_)
                  clear hK K
                  refine norm_ (a' := ?_) ?_ ?_
                  rotate_left
                  · show Act.put _ (some 53) _ = _
                    simp only [Act.put, List.setIfInBounds_toArray, List.set_cons_zero, List.set_cons_succ, i64_w, i32_w]
                    rfl
                  refine one_ (i := 8) (N := some 47) #[true, true, true, true, true, true, true, true, true, true, true, true, true, true, true, false, false, false, false, false, false, false] rfl rfl (by kernel_rfl) (by decide) (fun K hK => ?_)
                  obtain ⟨i0, hi0, hz0, hs0, hb0⟩ := info_int
                  refine step_append_lies _ rfl (.tmp 44) (.tmp 46) 48 rfl W.heap.size 3 i0 _ 1 8 Try.underlying48 hi0 hz0 hs0 hb0 rfl (by decide) (.slice A0 s.up.length c0) s.up.length (s.up.map (Value.int .i64)) rfl PRH.out.lu ⟨gA, 0, none⟩ 1 1 [.int .i64 u] rfl rfl (by simpa using World.news_of_block LA.out) (by simp [Value.oneCell']) (by decide) (by have := K1.out; have := LL.out; unfold maxLen; omega) (by have := K1.out; have := LL.out; omega) PRH.out.rw.bel.size _ rfl ?_
                  intro hA capA wb hown hgr hat hlt
                  have MB := Aside0.mk (blk_grown MB.out hgr (own_ne PRH.out.lu MB.out (by decide)))
                  have B7 := Aside0.mk (blk_grown B7.out hgr (own_ne PRH.out.lu B7.out (by decide)))
                  have LB := Aside0.mk (blk_grown LB.out hgr (own_ne PRH.out.lu LB.out (by decide)))
                  have PRH := Aside0.mk (PRH.out.appu u hown hgr (hat.imp (fun e => e.symm) fun e => ⟨_, rfl, Nat.le_of_eq e.symm⟩))
                  clear hown hgr hat hlt i0 hi0 hz0 hs0 hb0 LA
                  refine hK.out _ _ ⟨(blk_cell MB.out 0).trans rfl, (blk_cell MB.out 1).trans rfl, (blk_cell B7.out 0).trans rfl, (blk_cell B7.out 1).trans rfl, (blk_cell B7.out 2).trans rfl, (blk_cell B7.out 3).trans rfl⟩ (fun hHeld => ?_)
                  clear hK K
                  refine norm_ (a' := ?_) ?_ ?_
                  rotate_left
                  · show Act.put _ (some 47) _ = _
                    simp only [Act.put, List.setIfInBounds_toArray, List.set_cons_zero, List.set_cons_succ, i64_w, i32_w]
                    rfl
                  exact norm_ (by simp only [putAll, Act.put, List.setIfInBounds_toArray, List.set_cons_zero, List.set_cons_succ]) (hCont (gA, hA, capA, gB) _ ⟨PRH.out, MB.out, B7.out, LB.out⟩)
              · skip
                refine row_step (by rfl) rfl (cs := #[.int .i64 p.x, .int .i64 p.y, .int .i64 p.a, .int .i64 p.s]) (t := tP) (n := 1) ?_ ?_
                · first | (go_simp; done) | (go_simp; rfl)
                intro gB hg_ wa hbox hb
                have LB := Aside0.mk hbox
                have PRH := Aside0.mk (PRH.out.below hb)
                have MB := Aside0.mk (blk_below MB.out hb)
                have B7 := Aside0.mk (blk_below B7.out hb)
                clear hg_ hbox hb
                refine hK.out _ _ ⟨(blk_cell MB.out 0).trans rfl, (blk_cell MB.out 1).trans rfl, (blk_cell B7.out 0).trans rfl, (blk_cell B7.out 1).trans rfl, (blk_cell B7.out 2).trans rfl, (blk_cell B7.out 3).trans rfl⟩ (fun hHeld => ?_)
                clear hK K
                refine norm_ (a' := ?_) ?_ ?_
                rotate_left
                · show Act.put _ (some 53) _ = _
                  simp only [Act.put, List.setIfInBounds_toArray, List.set_cons_zero, List.set_cons_succ, i64_w, i32_w]
                  rfl
                refine one_ (i := 7) (N := some 46) #[true, true, true, true, true, true, true, true, false, true, true, true, true, true, true, false, false, false, false, false, false, false] rfl rfl (by kernel_rfl) (by decide) (fun K hK => ?_)
                refine row_step (by rfl) rfl (cs := #[.int .i64 u]) (t := 3) (n := 1) ?_ ?_
                · first | (go_simp; done) | (go_simp; rfl)
                intro gA hg_ wa hbox hb
                have LA := Aside0.mk hbox
                have PRH := Aside0.mk (PRH.out.below hb)
                have MB := Aside0.mk (blk_below MB.out hb)
                have B7 := Aside0.mk (blk_below B7.out hb)
                have LB := Aside0.mk (blk_below LB.out hb)
                clear hg_ hbox hb
                refine hK.out _ _ ⟨(blk_cell MB.out 0).trans rfl, (blk_cell MB.out 1).trans rfl, (blk_cell B7.out 0).trans rfl, (blk_cell B7.out 1).trans rfl, (blk_cell B7.out 2).trans rfl, (blk_cell B7.out 3).trans rfl⟩ (fun hHeld => ?_)
                clear hK K
                refine norm_ (a' := ?_) ?_ ?_
                rotate_left
                · show Act.put _ (some 46) _ = _
                  simp only [Act.put, List.setIfInBounds_toArray, List.set_cons_zero, List.set_cons_succ, i64_w, i32_w]
                  rfl
                refine one_ (i := 8) (N := some 47) #[true, true, true, true, true, true, true, true, true, true, true, true, true, true, true, false, false, false, false, false, false, false] rfl rfl (by kernel_rfl) (by decide) (fun K hK => ?_)
                obtain ⟨i0, hi0, hz0, hs0, hb0⟩ := info_int
                refine step_append_lies _ rfl (.tmp 44) (.tmp 46) 48 rfl W.heap.size 3 i0 _ 1 8 Try.underlying48 hi0 hz0 hs0 hb0 rfl (by decide) (.slice A0 s.up.length c0) s.up.length (s.up.map (Value.int .i64)) rfl PRH.out.lu ⟨gA, 0, none⟩ 1 1 [.int .i64 u] rfl rfl (by simpa using World.news_of_block LA.out) (by simp [Value.oneCell']) (by decide) (by have := K1.out; have := LL.out; unfold maxLen; omega) (by have := K1.out; have := LL.out; omega) PRH.out.rw.bel.size _ rfl ?_
                intro hA capA wb hown hgr hat hlt
                have MB := Aside0.mk (blk_grown MB.out hgr (own_ne PRH.out.lu MB.out (by decide)))
                have B7 := Aside0.mk (blk_grown B7.out hgr (own_ne PRH.out.lu B7.out (by decide)))
                have LB := Aside0.mk (blk_grown LB.out hgr (own_ne PRH.out.lu LB.out (by decide)))
                have PRH := Aside0.mk (PRH.out.appu u hown hgr (hat.imp (fun e => e.symm) fun e => ⟨_, rfl, Nat.le_of_eq e.symm⟩))
                clear hown hgr hat hlt i0 hi0 hz0 hs0 hb0 LA
                refine hK.out _ _ ⟨(blk_cell MB.out 0).trans rfl, (blk_cell MB.out 1).trans rfl, (blk_cell B7.out 0).trans rfl, (blk_cell B7.out 1).trans rfl, (blk_cell B7.out 2).trans rfl, (blk_cell B7.out 3).trans rfl⟩ (fun hHeld => ?_)
                clear hK K
                refine norm_ (a' := ?_) ?_ ?_
                rotate_left
                · show Act.put _ (some 47) _ = _
                  simp only [Act.put, List.setIfInBounds_toArray, List.set_cons_zero, List.set_cons_succ, i64_w, i32_w]
                  rfl
                exact norm_ (by simp only [putAll, Act.put, List.setIfInBounds_toArray, List.set_cons_zero, List.set_cons_succ]) (hCont (gA, hA, capA, gB) _ ⟨PRH.out, MB.out, B7.out, LB.out⟩)
            rintro ⟨gA, hA, capA, gB⟩ wz ⟨hR_, hM_, h7_, hB_⟩
            have PRH := Aside0.mk hR_
            have MB := Aside0.mk hM_
            have B7 := Aside0.mk h7_
            have LB := Aside0.mk hB_
            clear hR_ hM_ h7_ hB_
            refine norm_ (a' := ?_) ?_ ?_
            rotate_left
            · simp only [putAll, Act.put, List.setIfInBounds_toArray, List.set_cons_zero, List.set_cons_succ]
              rfl
            refine last_ (i := 15) (N := some 54) #[true, true, true, true, true, true, true, true, true, true, true, true, true, true, true, true, false, false, false, false, false, false] rfl rfl (by kernel_rfl) (by decide) (fun K hK => ?_)
            obtain ⟨i0, hi0, hz0, hs0, hb0⟩ := info_place
            refine step_append_lies _ rfl (.tmp 51) (.tmp 53) 61 rfl W.heap.size tP i0 _ 4 32 Try.underlying61 hi0 hz0 hs0 hb0 rfl (by decide) (.slice A1 s.own.length c1) s.own.length (flat s.own) rfl PRH.out.lo ⟨gB, 0, none⟩ 1 1 [.int .i64 p.x, .int .i64 p.y, .int .i64 p.a, .int .i64 p.s] rfl rfl (by simpa using World.news_of_block LB.out) (by simp [Value.oneCell']) (by decide) (by have := K1.out; have := LL.out; unfold maxLen; omega) (by have := K1.out; have := LL.out; omega) PRH.out.rw.bel.size _ rfl ?_
            intro hB capB wb hown hgr hat hlt
            have MB := Aside0.mk (blk_grown MB.out hgr (own_ne PRH.out.lo MB.out (by decide)))
            have B7 := Aside0.mk (blk_grown B7.out hgr (fun e => OFF7.out.no e.symm))
            have PRH := Aside0.mk (PRH.out.appo p hown hgr (hat.imp (fun e => e.symm) fun e => ⟨_, rfl, Nat.le_of_eq e.symm⟩))
            clear hown hgr hat hlt i0 hi0 hz0 hs0 hb0 LB
            refine hK.out _ _ ?_
            clear hK K
            refine norm_ (a' := ?_) ?_ ?_
            rotate_left
            · show Act.put _ (some 54) _ = _
              simp only [Act.put, List.setIfInBounds_toArray, List.set_cons_zero, List.set_cons_succ, i64_w, i32_w]
              rfl
            refine pure_ (i := 16) (N := some 55) (v := ?_) (a' := ?_) #[true, true, true, true, true, true, true, true, true, true, true, true, true, true, true, true, true, false, false, false, false, false] rfl rfl (by kernel_rfl) (fun _ _ _ h => h) (Or.inl ⟨by rfl, ?_⟩) ?_ ?_
            rotate_left
            · intro w'
              go_simp
              with_reducible rfl
            rotate_left
            · simp only [Act.put, List.setIfInBounds_toArray, List.set_cons_zero, List.set_cons_succ, i64_w, i32_w]
              rfl
            refine pure_ (i := 17) (N := some 56) (v := ?_) (a' := ?_) #[true, true, true, true, true, true, true, true, true, true, true, true, true, true, true, true, true, true, false, false, false, false] rfl rfl (by kernel_rfl) (fun _ _ _ h => h) (Or.inl ⟨by rfl, ?_⟩) ?_ ?_
            rotate_left
            · intro w'
              go_simp
              with_reducible rfl
            rotate_left
            · simp only [Act.put, List.setIfInBounds_toArray, List.set_cons_zero, List.set_cons_succ, i64_w, i32_w]
              rfl
            refine last_ (i := 18) (N := none) #[true, true, true, true, true, true, true, true, true, true, true, true, true, true, true, true, true, true, true, false, false, false] rfl rfl (by kernel_rfl) (by decide) (fun K hK => ?_)
            have cz := (blk_cell MB.out 0).trans rfl
            have fz := blk_frozen MB.out 0
            refine skip_ (w1 := ?_) (by rfl) rfl ?_ ?_
            rotate_left
            · go_simp
              rfl
            clear cz fz
            have PRH := Aside0.mk (PRH.out.far (i := 0) MB.out HM.out (.slice (some ⟨hA, 0, none⟩) (s.up.length + 1) capA))
            have B7 := Aside0.mk (blk_far (p := ⟨m, 0, none⟩) B7.out OFF7.out.m (.slice (some ⟨hA, 0, none⟩) (s.up.length + 1) capA))
            have MB := Aside0.mk (blk_put (cs' := #[.slice (some ⟨hA, 0, none⟩) (s.up.length + 1) capA, .slice A1 s.own.length c1]) MB.out 0 (.slice (some ⟨hA, 0, none⟩) (s.up.length + 1) capA) rfl)
            refine hK.out _ _ ?_
            clear hK K
            refine pure_ (i := 19) (N := some 57) (v := ?_) (a' := ?_) #[true, true, true, true, true, true, true, true, true, true, true, true, true, true, true, true, true, true, true, true, false, false] rfl rfl (by kernel_rfl) (fun _ _ _ h => h) (Or.inl ⟨by rfl, ?_⟩) ?_ ?_
            rotate_left
            · intro w'
              go_simp
              with_reducible rfl
            rotate_left
            · simp only [Act.put, List.setIfInBounds_toArray, List.set_cons_zero, List.set_cons_succ, i64_w, i32_w]
              rfl
            refine pure_ (i := 20) (N := some 58) (v := ?_) (a' := ?_) #[true, true, true, true, true, true, true, true, true, true, true, true, true, true, true, true, true, true, true, true, true, false] rfl rfl (by kernel_rfl) (fun _ _ _ h => h) (Or.inl ⟨by rfl, ?_⟩) ?_ ?_
            rotate_left
            · intro w'
              go_simp
              with_reducible rfl
            rotate_left
            · simp only [Act.put, List.setIfInBounds_toArray, List.set_cons_zero, List.set_cons_succ, i64_w, i32_w]
              rfl
            refine last_ (i := 21) (N := none) #[true, true, true, true, true, true, true, true, true, true, true, true, true, true, true, true, true, true, true, true, true, true] rfl rfl (by kernel_rfl) (by decide) (fun K hK => ?_)
            have cz := (blk_cell MB.out 1).trans rfl
            have fz := blk_frozen MB.out 1
            refine skip_ (w1 := ?_) (by rfl) rfl ?_ ?_
            rotate_left
            · go_simp
              rfl
            clear cz fz
            have PRH := Aside0.mk (PRH.out.far (i := 1) MB.out HM.out (.slice (some ⟨hB, 0, none⟩) (s.own.length + 1) capB))
            have B7 := Aside0.mk (blk_far (p := ⟨m, 1, none⟩) B7.out OFF7.out.m (.slice (some ⟨hB, 0, none⟩) (s.own.length + 1) capB))
            have MB := Aside0.mk (blk_put (cs' := #[.slice (some ⟨hA, 0, none⟩) (s.up.length + 1) capA, .slice (some ⟨hB, 0, none⟩) (s.own.length + 1) capB]) MB.out 1 (.slice (some ⟨hB, 0, none⟩) (s.own.length + 1) capB) rfl)
            refine hK.out _ _ ?_
            clear hK K
            refine done_ (by kernel_rfl) ?_
            have PSH := Aside0.mk (PRH.out.ps MB.out HM.out)
            clear PRH MB
            generalize ((wb.setCell ⟨m, 0, none⟩ (.slice (some ⟨hA, 0, none⟩) (s.up.length + 1) capA)).setCell ⟨m, 1, none⟩ (.slice (some ⟨hB, 0, none⟩) (s.own.length + 1) capB)) = w6 at PSH B7 ⊢
            obtain ⟨z0, z1, z2, z3⟩ := four B7.out
            go_wp2_with (first | ((with_reducible refine gate_dst (N := 74) rfl ?_); (with_reducible refine gate_callee (f := 31) rfl ?_); refine goesL_ (some 74) rfl rfl Try.func31 (by kernel_rfl) rfl #[.pointer (some ⟨g, 0, none⟩), .int .i64 u, .agg #[.int .i64 p.x, .int .i64 p.y, .int .i64 p.a, .int .i64 p.s]] rfl (by (try simp only [List.map_toArray, List.map_cons, List.map_nil]); first | done | rfl) ?_; (refine (Add_ps PSH.out 3 u p K1.out LL.out.1 LL.out.2.1 LL.out.2.2 HU.out.1 K2.out FT.out).mono ?_); rintro e w4 ⟨rfl, u0, u1, u2, u3, hP⟩; refine ⟨_, rfl, ?_⟩; clear z0 z1 z2 z3; have PSH := Aside0.mk hP; clear hP B7))
            go_ret
            obtain ⟨V', r', hs'⟩ := Sane.add HS.out K1.out u p pl0 HU.out.1 K2.out
            exact ⟨rfl, _, V', r', _, _, _, _, _, _, hs', PSH.out⟩
    · by_cases k1 : n < 0
      · have a1 : decide (n < 0) = true := decide_eq_true k1
        have NX := Aside0.mk (show n < 0 ∨ (0 ≤ n ∧ (s.up.length : Int) ≤ n) from .inl k1)
        clear k1
        go_wp2_with (first | ((with_reducible refine gate_dst (N := 121) rfl ?_); (with_reducible refine gate_callee (f := 35) rfl ?_); refine goesL_ (some 121) rfl rfl Try.func35 (by kernel_rfl) rfl #[.pointer (some ⟨g, 0, none⟩), .int .i64 n, .agg #[.int .i64 p.x, .int .i64 p.y, .int .i64 p.a, .int .i64 p.s]] rfl (by (try simp only [List.map_toArray, List.map_cons, List.map_nil]); first | done | rfl) ?_; (refine (Set_none _ g s.up.length cu Au e0 n p NX.out).mono ?_); rintro e w4 ⟨rfl, hb⟩; refine ⟨_, rfl, ?_⟩; have PSH := Aside0.mk (PSH.out.below hb); clear hb))
        go_ret
        exact ⟨rfl, s, V, r, _, _, _, _, _, _, HS.out, PSH.out⟩
      · have a1 : decide (n < 0) = false := decide_eq_false k1
        by_cases k2 : (s.up.length : Int) ≤ n
        · have a2 : decide (n ≥ (s.up.length : Int)) = true := decide_eq_true k2
          have NX := Aside0.mk (show n < 0 ∨ (0 ≤ n ∧ (s.up.length : Int) ≤ n) from .inr ⟨by omega, k2⟩)
          clear k1 k2
          go_wp2_with (first | ((with_reducible refine gate_dst (N := 121) rfl ?_); (with_reducible refine gate_callee (f := 35) rfl ?_); refine goesL_ (some 121) rfl rfl Try.func35 (by kernel_rfl) rfl #[.pointer (some ⟨g, 0, none⟩), .int .i64 n, .agg #[.int .i64 p.x, .int .i64 p.y, .int .i64 p.a, .int .i64 p.s]] rfl (by (try simp only [List.map_toArray, List.map_cons, List.map_nil]); first | done | rfl) ?_; (refine (Set_none _ g s.up.length cu Au e0 n p NX.out).mono ?_); rintro e w4 ⟨rfl, hb⟩; refine ⟨_, rfl, ?_⟩; have PSH := Aside0.mk (PSH.out.below hb); clear hb))
          go_ret
          exact ⟨rfl, s, V, r, _, _, _, _, _, _, HS.out, PSH.out⟩
        · obtain ⟨n, rfl⟩ := Int.eq_ofNat_of_zero_le (show 0 ≤ n from by omega)
          have N1 := Aside0.mk (show n < s.up.length from by omega)
          have a2 : decide ((n : Int) ≥ (s.up.length : Int)) = false := decide_eq_false k2
          have a3 : (s.up.length ≤ n) = False := eq_false (by omega)
          have a4 : (n < s.up.length) = True := eq_true N1.out
          clear k1 k2
          cases hf : fitsV p with
          | false =>
            have HF := Aside0.mk (show tourref5_PlaceFits.f p.x p.y p.a p.s = some false from by rw [fits_ref, hf])
            have HF2 := Aside0.mk hf
            clear hf
            go_wp2_with (first | ((with_reducible refine gate_dst (N := 116) rfl ?_); (with_reducible refine gate_callee (f := 54) rfl ?_); refine goesL_ (some 116) rfl rfl Try.func54 (by kernel_rfl) rfl #[.agg #[.int .i64 p.x, .int .i64 p.y, .int .i64 p.a, .int .i64 p.s]] rfl (by (try simp only [List.map_toArray, List.map_cons, List.map_nil]); first | done | rfl) ?_; (refine (tourref5_PlaceFits.calls p.x p.y p.a p.s false _ HF.out).mono ?_); rintro e w3 ⟨rfl, hb⟩; refine ⟨_, rfl, ?_⟩; clear z0 z1 z2 z3 e0; have PSH := Aside0.mk (PSH.out.below hb); have B7 := Aside0.mk (blk_below B7.out hb); clear hb; obtain ⟨z0, z1, z2, z3⟩ := four B7.out; obtain ⟨Au, cu, e0⟩ := PSH.out.size) | ((with_reducible refine gate_dst (N := 121) rfl ?_); (with_reducible refine gate_callee (f := 35) rfl ?_); refine goesL_ (some 121) rfl rfl Try.func35 (by kernel_rfl) rfl #[.pointer (some ⟨g, 0, none⟩), .int .i64 (n : Int), .agg #[.int .i64 p.x, .int .i64 p.y, .int .i64 p.a, .int .i64 p.s]] rfl (by (try simp only [List.map_toArray, List.map_cons, List.map_nil]); first | done | rfl) ?_; (refine (Set_arg _ g s.up.length cu Au e0 (n : Int) p (by omega) (by have := N1.out; omega) HF2.out).mono ?_); rintro e w4 ⟨rfl, hb⟩; refine ⟨_, rfl, ?_⟩; have PSH := Aside0.mk (PSH.out.below hb); clear hb))
            go_ret
            exact ⟨rfl, s, V, r, _, _, _, _, _, _, HS.out, PSH.out⟩
          | true =>
            have HF := Aside0.mk (show tourref5_PlaceFits.f p.x p.y p.a p.s = some true from by rw [fits_ref, hf])
            have FT := Aside0.mk (show graph_fits.f 3 p.x p.y p.a p.s = some true from by rw [show (3 : Nat) = 0 + 3 from rfl, fits_eq p 0, hf])
            clear hf
            go_upto_region 16 with (first | ((with_reducible refine gate_dst (N := 116) rfl ?_); (with_reducible refine gate_callee (f := 54) rfl ?_); refine goesL_ (some 116) rfl rfl Try.func54 (by kernel_rfl) rfl #[.agg #[.int .i64 p.x, .int .i64 p.y, .int .i64 p.a, .int .i64 p.s]] rfl (by (try simp only [List.map_toArray, List.map_cons, List.map_nil]); first | done | rfl) ?_; (refine (tourref5_PlaceFits.calls p.x p.y p.a p.s true _ HF.out).mono ?_); rintro e w3 ⟨rfl, hb⟩; refine ⟨_, rfl, ?_⟩; clear z0 z1 z2 z3 e0; have PSH := Aside0.mk (PSH.out.below hb); have B7 := Aside0.mk (blk_below B7.out hb); clear hb; obtain ⟨z0, z1, z2, z3⟩ := four B7.out; obtain ⟨Au, cu, e0⟩ := PSH.out.size))
            clear z0 z1 z2 z3 e0
            have PSH := Aside0.mk PSH.out.drew
            have B7 := Aside0.mk (blk_drew B7.out)
            have NO := Aside0.mk (show n < s.own.length from by rw [LL.out.1]; exact N1.out)
            have t1 : ((0 : Int) ≤ (n : Int)) = True := eq_true (by omega)
            have t2 : ((n : Int) < (s.own.length : Int)) = True := eq_true (by have := NO.out; omega)
            obtain ⟨x1, rfl⟩ : ∃ x1, A1 = some ⟨x1, 0, none⟩ := by obtain ⟨b_, e_, _⟩ := PSH.out.nd.o n NO.out; exact ⟨b_, e_⟩
            refine start_ (n := 8) (S := fun w' => w'.cell? ⟨m, 1, none⟩ = some (.slice (some ⟨x1, 0, none⟩) s.own.length c1) ∧ w'.cell? ⟨g7, 0, none⟩ = some (.int .i64 p.x) ∧ w'.cell? ⟨g7, 1, none⟩ = some (.int .i64 p.y) ∧ w'.cell? ⟨g7, 2, none⟩ = some (.int .i64 p.a) ∧ w'.cell? ⟨g7, 3, none⟩ = some (.int .i64 p.s)) (ds := [7]) #[false, false, false, false, false, false, false, false] (by kernel_rfl) rfl rfl ⟨(blk_cell PSH.out.mbox 1).trans rfl, (blk_cell B7.out 0).trans rfl, (blk_cell B7.out 1).trans rfl, (blk_cell B7.out 2).trans rfl, (blk_cell B7.out 3).trans rfl⟩ (fun hHeld => ?_)
            generalize w3.drew = wd6 at PSH B7 hHeld ⊢
            refine pure_ (i := 0) (N := some 99) (v := ?_) (a' := ?_) #[true, false, false, false, false, false, false, false] rfl rfl (by kernel_rfl) (fun _ _ _ h => h) (Or.inl ⟨by rfl, ?_⟩) ?_ ?_
            rotate_left
            · intro w'
              go_simp
              with_reducible rfl
            rotate_left
            · simp only [Act.put, List.setIfInBounds_toArray, List.set_cons_zero, List.set_cons_succ, i64_w, i32_w]
              rfl
            refine pure_ (i := 1) (N := some 100) (v := ?_) (a' := ?_) #[true, true, false, false, false, false, false, false] rfl rfl (by kernel_rfl) (fun _ _ _ h => h) (Or.inl ⟨by rfl, ?_⟩) ?_ ?_
            rotate_left
            · intro w'
              go_simp
              with_reducible rfl
            rotate_left
            · simp only [Act.put, List.setIfInBounds_toArray, List.set_cons_zero, List.set_cons_succ, i64_w, i32_w]
              rfl
            refine pure_ (i := 2) (N := some 101) (v := ?_) (a' := ?_) #[true, true, true, false, false, false, false, false] rfl rfl (by kernel_rfl) (fun _ _ _ h => h) (Or.inl ⟨by rfl, ?_⟩) ?_ ?_
            rotate_left
            · intro w'
              go_simp
              with_reducible rfl
            rotate_left
            · simp only [Act.put, List.setIfInBounds_toArray, List.set_cons_zero, List.set_cons_succ, i64_w, i32_w]
              rfl
            refine pure_ (i := 4) (N := some 103) (v := ?_) (a' := ?_) #[true, true, true, false, true, false, false, false] rfl rfl (by kernel_rfl) (fun _ _ _ h => h) (Or.inl ⟨by rfl, ?_⟩) ?_ ?_
            rotate_left
            · intro w'
              go_simp
              with_reducible rfl
            rotate_left
            · simp only [Act.put, List.setIfInBounds_toArray, List.set_cons_zero, List.set_cons_succ, i64_w, i32_w]
              rfl
            refine take_ (i := 3) (N := some 102) (v := ?_) (a' := ?_) #[true, true, true, true, true, false, false, false] rfl rfl (by kernel_rfl) (fun _ _ _ h => h) (Or.inl ⟨by rfl, ?_⟩) hHeld ?_ ?_
            rotate_left
            · rintro w' ⟨s0, s1, s2, s3, s4⟩
              go_simp
              with_reducible rfl
            rotate_left
            · simp only [Act.put, List.setIfInBounds_toArray, List.set_cons_zero, List.set_cons_succ, i64_w, i32_w]
              rfl
            refine take_ (i := 5) (N := some 104) (v := ?_) (a' := ?_) #[true, true, true, true, true, true, false, false] rfl rfl (by kernel_rfl) (fun _ _ _ h => h) (Or.inl ⟨by rfl, ?_⟩) hHeld ?_ ?_
            rotate_left
            · rintro w' ⟨s0, s1, s2, s3, s4⟩
              go_simp
              with_reducible rfl
            rotate_left
            · simp only [Act.put, List.setIfInBounds_toArray, List.set_cons_zero, List.set_cons_succ, i64_w, i32_w]
              rfl
            refine pure_ (i := 6) (N := some 105) (v := ?_) (a' := ?_) #[true, true, true, true, true, true, true, false] rfl rfl (by kernel_rfl) (fun _ _ _ h => h) (Or.inl ⟨by rfl, ?_⟩) ?_ ?_
            rotate_left
            · intro w'
              go_simp
              with_reducible rfl
            rotate_left
            · simp only [Act.put, List.setIfInBounds_toArray, List.set_cons_zero, List.set_cons_succ, i64_w, i32_w]
              rfl
            refine last_ (i := 7) (N := none) #[true, true, true, true, true, true, true, true] rfl rfl (by kernel_rfl) (by decide) (fun K hK => ?_)
            obtain ⟨y0, y1, y2, y3⟩ := flat_at s.own n NO.out
            obtain ⟨ca0, cb0⟩ := row_at PSH.out.lo y0
            obtain ⟨ca1, cb1⟩ := row_at PSH.out.lo y1
            obtain ⟨ca2, cb2⟩ := row_at PSH.out.lo y2
            obtain ⟨ca3, cb3⟩ := row_at PSH.out.lo y3
            clear y0 y1 y2 y3
            refine skip_ (w1 := ?_) (by rfl) rfl ?_ ?_
            rotate_left
            · go_simp
              rfl
            clear ca0 cb0 ca1 cb1 ca2 cb2 ca3 cb3
            refine hK.out _ _ ?_
            clear hK K
            refine done_ (by kernel_rfl) ?_
            have ne : g7 ≠ x1 := fun e => OFF7.out.no (congrArg some e.symm)
            have B7 := Aside0.mk (blk_far (p := ⟨x1, n * 4 + 3, none⟩) (blk_far (p := ⟨x1, n * 4 + 2, none⟩) (blk_far (p := ⟨x1, n * 4 + 1, none⟩) (blk_far (p := ⟨x1, n * 4, none⟩) B7.out ne (.int .i64 p.x)) ne (.int .i64 p.y)) ne (.int .i64 p.a)) ne (.int .i64 p.s))
            have PSH := Aside0.mk (PSH.out.puto n p)
            generalize ((((wd6.setCell ⟨x1, n * 4, none⟩ (.int .i64 p.x)).setCell ⟨x1, n * 4 + 1, none⟩ (.int .i64 p.y)).setCell ⟨x1, n * 4 + 2, none⟩ (.int .i64 p.a)).setCell ⟨x1, n * 4 + 3, none⟩ (.int .i64 p.s)) = w6 at PSH B7 ⊢
            clear ne
            obtain ⟨z0, z1, z2, z3⟩ := four B7.out
            obtain ⟨s', V', ⟨kf, hkf⟩, hs', hup, hown⟩ := Sane.set HS.out n N1.out p
            have FF3 := Aside0.mk (hkf (kf + 3) (by omega))
            have FT2 := Aside0.mk (show graph_fits.f (kf + 3) p.x p.y p.a p.s = some true from by rw [fits_eq p kf]; have h := FT.out; rw [show (3 : Nat) = 0 + 3 from rfl, fits_eq p 0] at h; exact h)
            have HS2 := Aside0.mk hs'
            have UO := Aside0.mk (And.intro hup hown)
            clear hkf hs' hup hown
            go_wp2_with (first | ((with_reducible refine gate_dst (N := 121) rfl ?_); (with_reducible refine gate_callee (f := 35) rfl ?_); refine goesL_ (some 121) rfl rfl Try.func35 (by kernel_rfl) rfl #[.pointer (some ⟨g, 0, none⟩), .int .i64 (n : Int), .agg #[.int .i64 p.x, .int .i64 p.y, .int .i64 p.a, .int .i64 p.s]] rfl (by (try simp only [List.map_toArray, List.map_cons, List.map_nil]); first | done | rfl) ?_; (refine (Set_ps PSH.out (kf + 3) n p s' N1.out LL.out.1 LL.out.2.1 LL.out.2.2 FT2.out FF3.out).mono ?_); rintro e w4 ⟨rfl, u0, u1, u2, u3, hP⟩; refine ⟨_, rfl, ?_⟩; clear z0 z1 z2 z3; have PSH := Aside0.mk hP; clear hP B7))
            go_ret
            exact ⟨rfl, s', V', r, _, _, _, _, _, _, HS2.out, by rw [UO.out.1, UO.out.2]; exact PSH.out⟩
    · by_cases k1 : n < 0
      · have a1 : decide (n < 0) = true := decide_eq_true k1
        have NX := Aside0.mk (show n < 0 ∨ (0 ≤ n ∧ (s.up.length : Int) ≤ n) ∨ (0 ≤ n ∧ n < s.up.length ∧ -1 ≤ u ∧ (s.up.length : Int) ≤ u) from .inl k1)
        clear k1
        go_wp2_with (first | ((with_reducible refine gate_dst (N := 156) rfl ?_); (with_reducible refine gate_callee (f := 56) rfl ?_); refine goesL_ (some 156) rfl rfl Try.func56 (by kernel_rfl) rfl #[.pointer (some ⟨g, 0, none⟩), .int .i64 n, .int .i64 u] rfl (by (try simp only [List.map_toArray, List.map_cons, List.map_nil]); first | done | rfl) ?_; (refine (Move_none _ g s.up.length cu Au e0 n u NX.out).mono ?_); rintro e w4 ⟨rfl, hw_⟩; refine ⟨_, rfl, ?_⟩; subst hw_))
        go_ret
        exact ⟨rfl, s, V, r, _, _, _, _, _, _, HS.out, PSH.out⟩
      · have a1 : decide (n < 0) = false := decide_eq_false k1
        by_cases k2 : (s.up.length : Int) ≤ n
        · have a2 : decide (n ≥ (s.up.length : Int)) = true := decide_eq_true k2
          have NX := Aside0.mk (show n < 0 ∨ (0 ≤ n ∧ (s.up.length : Int) ≤ n) ∨ (0 ≤ n ∧ n < s.up.length ∧ -1 ≤ u ∧ (s.up.length : Int) ≤ u) from .inr (.inl ⟨by omega, k2⟩))
          clear k1 k2
          go_wp2_with (first | ((with_reducible refine gate_dst (N := 156) rfl ?_); (with_reducible refine gate_callee (f := 56) rfl ?_); refine goesL_ (some 156) rfl rfl Try.func56 (by kernel_rfl) rfl #[.pointer (some ⟨g, 0, none⟩), .int .i64 n, .int .i64 u] rfl (by (try simp only [List.map_toArray, List.map_cons, List.map_nil]); first | done | rfl) ?_; (refine (Move_none _ g s.up.length cu Au e0 n u NX.out).mono ?_); rintro e w4 ⟨rfl, hw_⟩; refine ⟨_, rfl, ?_⟩; subst hw_))
          go_ret
          exact ⟨rfl, s, V, r, _, _, _, _, _, _, HS.out, PSH.out⟩
        · have a2 : decide (n ≥ (s.up.length : Int)) = false := decide_eq_false k2
          have a2' : ((s.up.length : Int) ≤ n) = False := eq_false k2
          by_cases k3 : (s.up.length : Int) ≤ u
          · have a3 : decide (u ≥ (s.up.length : Int)) = true := decide_eq_true k3
            have NX := Aside0.mk (show n < 0 ∨ (0 ≤ n ∧ (s.up.length : Int) ≤ n) ∨ (0 ≤ n ∧ n < s.up.length ∧ -1 ≤ u ∧ (s.up.length : Int) ≤ u) from .inr (.inr ⟨by omega, by omega, HU.out.1, k3⟩))
            clear k1 k2 k3
            go_wp2_with (first | ((with_reducible refine gate_dst (N := 156) rfl ?_); (with_reducible refine gate_callee (f := 56) rfl ?_); refine goesL_ (some 156) rfl rfl Try.func56 (by kernel_rfl) rfl #[.pointer (some ⟨g, 0, none⟩), .int .i64 n, .int .i64 u] rfl (by (try simp only [List.map_toArray, List.map_cons, List.map_nil]); first | done | rfl) ?_; (refine (Move_none _ g s.up.length cu Au e0 n u NX.out).mono ?_); rintro e w4 ⟨rfl, hw_⟩; refine ⟨_, rfl, ?_⟩; subst hw_))
            go_ret
            exact ⟨rfl, s, V, r, _, _, _, _, _, _, HS.out, PSH.out⟩
          · have a3 : decide (u ≥ (s.up.length : Int)) = false := decide_eq_false k3
            have a3' : ((s.up.length : Int) ≤ u) = False := eq_false k3
            obtain ⟨n, rfl⟩ := Int.eq_ofNat_of_zero_le (show 0 ≤ n from by omega)
            have N1 := Aside0.mk (show n < s.up.length from by omega)
            have K3 := Aside0.mk (show u < s.up.length from by omega)
            have a4 : (s.up.length ≤ n) = False := eq_false (by omega)
            clear k1 k2 k3
            obtain ⟨m0, m1⟩ := two2 PSH.out.mbox
            by_cases ka : AncI s.up n u
            · have KA := Aside0.mk ka
              clear ka z0 z1 z2 z3
              go_wp2_with (first | ((with_reducible refine gate_dst (N := 152) rfl ?_); (with_reducible refine gate_callee (f := 55) rfl ?_); refine goesL_ (some 152) rfl rfl Try.func55 (by kernel_rfl) rfl #[.agg #[.slice A0 s.up.length c0, .slice A1 s.own.length c1], .int .i64 u, .int .i64 (n : Int)] rfl (by (try simp only [List.map_toArray, List.map_cons, List.map_nil]); first | done | rfl) ?_; (refine (below_yes HS.out.up0 HS.out.rk n u K3.out KA.out A0 A1 _ PSH.out.nd).mono ?_); rintro e w3 ⟨rfl, hb⟩; refine ⟨_, rfl, ?_⟩; clear m0 m1 e0; have PSH := Aside0.mk (PSH.out.below hb); clear hb; obtain ⟨Au, cu, e0⟩ := PSH.out.size) | ((with_reducible refine gate_dst (N := 156) rfl ?_); (with_reducible refine gate_callee (f := 56) rfl ?_); refine goesL_ (some 156) rfl rfl Try.func56 (by kernel_rfl) rfl #[.pointer (some ⟨g, 0, none⟩), .int .i64 (n : Int), .int .i64 u] rfl (by (try simp only [List.map_toArray, List.map_cons, List.map_nil]); first | done | rfl) ?_; (refine (Loop_ps PSH.out HS.out n u N1.out K3.out KA.out).mono ?_); rintro e w4 ⟨rfl, hw_⟩; refine ⟨_, rfl, ?_⟩; subst hw_))
              go_ret
              exact ⟨rfl, s, V, r, _, _, _, _, _, _, HS.out, PSH.out⟩
            · have KA := Aside0.mk ka
              clear ka z0 z1 z2 z3
              go_upto_region 23 with (first | ((with_reducible refine gate_dst (N := 152) rfl ?_); (with_reducible refine gate_callee (f := 55) rfl ?_); refine goesL_ (some 152) rfl rfl Try.func55 (by kernel_rfl) rfl #[.agg #[.slice A0 s.up.length c0, .slice A1 s.own.length c1], .int .i64 u, .int .i64 (n : Int)] rfl (by (try simp only [List.map_toArray, List.map_cons, List.map_nil]); first | done | rfl) ?_; (refine (below_no HS.out.up0 HS.out.rk n u K3.out KA.out A0 A1 _ PSH.out.nd).mono ?_); rintro e w3 ⟨rfl, hb⟩; refine ⟨_, rfl, ?_⟩; clear m0 m1 e0; have PSH := Aside0.mk (PSH.out.below hb); clear hb; obtain ⟨Au, cu, e0⟩ := PSH.out.size))
              obtain ⟨x0, rfl⟩ : ∃ x0, A0 = some ⟨x0, 0, none⟩ := by obtain ⟨b_, e_, _⟩ := PSH.out.nd.u n N1.out; exact ⟨b_, e_⟩
              obtain ⟨m0, m1⟩ := two2 PSH.out.mbox
              obtain ⟨ca, cb⟩ := row_at PSH.out.lu (up_at N1.out)
              have t1 : ((0 : Int) ≤ (n : Int)) = True := eq_true (by omega)
              have t2 : ((n : Int) < (s.up.length : Int)) = True := eq_true (by have := N1.out; omega)
              have PSH := Aside0.mk (PSH.out.putu n u)
              obtain ⟨s', V', r', ⟨kf, hkf⟩, hs', hup, hown⟩ := Sane.move HS.out n N1.out u HU.out.1 K3.out KA.out
              have FF := Aside0.mk (hkf kf (Nat.le_refl _))
              have HS2 := Aside0.mk hs'
              have UO := Aside0.mk (And.intro hup hown)
              clear hkf hs' hup hown e0
              go_wp2_with (first | ((with_reducible refine gate_dst (N := 156) rfl ?_); (with_reducible refine gate_callee (f := 56) rfl ?_); refine goesL_ (some 156) rfl rfl Try.func56 (by kernel_rfl) rfl #[.pointer (some ⟨g, 0, none⟩), .int .i64 (n : Int), .int .i64 u] rfl (by (try simp only [List.map_toArray, List.map_cons, List.map_nil]); first | done | rfl) ?_; (refine (Move_ps PSH.out HS.out kf n u s' N1.out HU.out.1 K3.out KA.out FF.out).mono ?_); rintro e w4 ⟨rfl, u0, u1, u2, u3, hP⟩; refine ⟨_, rfl, ?_⟩; clear m0 m1 ca cb; have PSH := Aside0.mk hP; clear hP))
              go_ret
              exact ⟨rfl, s', V', r', _, _, _, _, _, _, HS2.out, by rw [UO.out.1, UO.out.2]; exact PSH.out⟩
    · clear z0 z1 z2 z3
      by_cases k1 : n < 0
      · have a1 : decide (n < 0) = true := decide_eq_true k1
        have NX := Aside0.mk (show n < 0 ∨ (0 ≤ n ∧ (s.up.length : Int) ≤ n) from .inl k1)
        clear k1
        go_upto_region 30 with (first | ((with_reducible refine gate_dst (N := 162) rfl ?_); (with_reducible refine gate_callee (f := 32) rfl ?_); refine goesL_ (some 162) rfl rfl Try.func32 (by kernel_rfl) rfl #[.pointer (some ⟨g, 0, none⟩), .int .i64 n] rfl (by (try simp only [List.map_toArray, List.map_cons, List.map_nil]); first | done | rfl) ?_; (refine (At_none _ g s.up.length cu Au e0 n NX.out).mono ?_); rintro e w4 ⟨rfl, hb⟩; refine ⟨_, rfl, ?_⟩; clear e0; have PSH := Aside0.mk (PSH.out.below hb); clear hb) | ((with_reducible refine gate_dst (N := 15) rfl ?_); refine box_event ?hg (N := 15) ?hd (cs := #[.int .i64 0, .int .i64 0, .int .i64 0, .int .i64 0]) (t := tP) ?hr ?_; (case hd => rfl); (case hg => rfl); (case hr => first | (go_simp; done) | (go_simp; rfl)); intro g15 hg wu hbox hb; have HE := Aside0.mk hb; have GE := Aside0.mk (Nat.le_of_eq hg.symm); have B15 := Aside0.mk hbox; clear hg hbox hb; have cz0 := (blk_cell B15.out 0).trans rfl; have fz0 := blk_frozen B15.out 0; have cz1 := (blk_cell B15.out 1).trans rfl; have fz1 := blk_frozen B15.out 1; have cz2 := (blk_cell B15.out 2).trans rfl; have fz2 := blk_frozen B15.out 2; have cz3 := (blk_cell B15.out 3).trans rfl; have fz3 := blk_frozen B15.out 3))
        have HE := Aside0.mk (show Below w4.heap.size w4 ((((wu.setCell ⟨g15, 0, none⟩ (.int .i64 0)).setCell ⟨g15, 1, none⟩ (.int .i64 0)).setCell ⟨g15, 2, none⟩ (.int .i64 0)).setCell ⟨g15, 3, none⟩ (.int .i64 0)) from below_set (below_set (below_set (below_set HE.out GE.out) GE.out) GE.out) GE.out)
        have PSH := Aside0.mk (PSH.out.below HE.out)
        have B15 := Aside0.mk (show (((((wu.setCell ⟨g15, 0, none⟩ (.int .i64 0)).setCell ⟨g15, 1, none⟩ (.int .i64 0)).setCell ⟨g15, 2, none⟩ (.int .i64 0)).setCell ⟨g15, 3, none⟩ (.int .i64 0))).heap[g15]? = some (.cells #[.int .i64 0, .int .i64 0, .int .i64 0, .int .i64 0] tP (0, 0)) from blk_put (blk_put (blk_put (blk_put (B15.out) 0 (.int .i64 0) rfl) 1 (.int .i64 0) rfl) 2 (.int .i64 0) rfl) 3 (.int .i64 0) rfl)
        clear HE GE cz0 fz0 cz1 fz1 cz2 fz2 cz3 fz3
        generalize ((((wu.setCell ⟨g15, 0, none⟩ (.int .i64 0)).setCell ⟨g15, 1, none⟩ (.int .i64 0)).setCell ⟨g15, 2, none⟩ (.int .i64 0)).setCell ⟨g15, 3, none⟩ (.int .i64 0)) = wv at PSH B15 ⊢
        obtain ⟨x0, x1, x2, x3⟩ := four B15.out
        go_wp2
        go_ret
        exact ⟨rfl, s, V, r, _, _, _, _, _, _, HS.out, PSH.out⟩
      · have a1 : decide (n < 0) = false := decide_eq_false k1
        by_cases k2 : (s.up.length : Int) ≤ n
        · have a2 : decide (n ≥ (s.up.length : Int)) = true := decide_eq_true k2
          have NX := Aside0.mk (show n < 0 ∨ (0 ≤ n ∧ (s.up.length : Int) ≤ n) from .inr ⟨by omega, k2⟩)
          clear k1 k2
          go_upto_region 30 with (first | ((with_reducible refine gate_dst (N := 162) rfl ?_); (with_reducible refine gate_callee (f := 32) rfl ?_); refine goesL_ (some 162) rfl rfl Try.func32 (by kernel_rfl) rfl #[.pointer (some ⟨g, 0, none⟩), .int .i64 n] rfl (by (try simp only [List.map_toArray, List.map_cons, List.map_nil]); first | done | rfl) ?_; (refine (At_none _ g s.up.length cu Au e0 n NX.out).mono ?_); rintro e w4 ⟨rfl, hb⟩; refine ⟨_, rfl, ?_⟩; clear e0; have PSH := Aside0.mk (PSH.out.below hb); clear hb) | ((with_reducible refine gate_dst (N := 15) rfl ?_); refine box_event ?hg (N := 15) ?hd (cs := #[.int .i64 0, .int .i64 0, .int .i64 0, .int .i64 0]) (t := tP) ?hr ?_; (case hd => rfl); (case hg => rfl); (case hr => first | (go_simp; done) | (go_simp; rfl)); intro g15 hg wu hbox hb; have HE := Aside0.mk hb; have GE := Aside0.mk (Nat.le_of_eq hg.symm); have B15 := Aside0.mk hbox; clear hg hbox hb; have cz0 := (blk_cell B15.out 0).trans rfl; have fz0 := blk_frozen B15.out 0; have cz1 := (blk_cell B15.out 1).trans rfl; have fz1 := blk_frozen B15.out 1; have cz2 := (blk_cell B15.out 2).trans rfl; have fz2 := blk_frozen B15.out 2; have cz3 := (blk_cell B15.out 3).trans rfl; have fz3 := blk_frozen B15.out 3))
          have HE := Aside0.mk (show Below w4.heap.size w4 ((((wu.setCell ⟨g15, 0, none⟩ (.int .i64 0)).setCell ⟨g15, 1, none⟩ (.int .i64 0)).setCell ⟨g15, 2, none⟩ (.int .i64 0)).setCell ⟨g15, 3, none⟩ (.int .i64 0)) from below_set (below_set (below_set (below_set HE.out GE.out) GE.out) GE.out) GE.out)
          have PSH := Aside0.mk (PSH.out.below HE.out)
          have B15 := Aside0.mk (show (((((wu.setCell ⟨g15, 0, none⟩ (.int .i64 0)).setCell ⟨g15, 1, none⟩ (.int .i64 0)).setCell ⟨g15, 2, none⟩ (.int .i64 0)).setCell ⟨g15, 3, none⟩ (.int .i64 0))).heap[g15]? = some (.cells #[.int .i64 0, .int .i64 0, .int .i64 0, .int .i64 0] tP (0, 0)) from blk_put (blk_put (blk_put (blk_put (B15.out) 0 (.int .i64 0) rfl) 1 (.int .i64 0) rfl) 2 (.int .i64 0) rfl) 3 (.int .i64 0) rfl)
          clear HE GE cz0 fz0 cz1 fz1 cz2 fz2 cz3 fz3
          generalize ((((wu.setCell ⟨g15, 0, none⟩ (.int .i64 0)).setCell ⟨g15, 1, none⟩ (.int .i64 0)).setCell ⟨g15, 2, none⟩ (.int .i64 0)).setCell ⟨g15, 3, none⟩ (.int .i64 0)) = wv at PSH B15 ⊢
          obtain ⟨x0, x1, x2, x3⟩ := four B15.out
          go_wp2
          go_ret
          exact ⟨rfl, s, V, r, _, _, _, _, _, _, HS.out, PSH.out⟩
        · obtain ⟨n, rfl⟩ := Int.eq_ofNat_of_zero_le (show 0 ≤ n from by omega)
          have N1 := Aside0.mk (show n < s.up.length from by omega)
          have a2 : decide ((n : Int) ≥ (s.up.length : Int)) = false := decide_eq_false k2
          have a3 : (s.up.length ≤ n) = False := eq_false (by omega)
          clear k1 k2
          obtain ⟨s', ⟨ka, hka⟩, hs', ha⟩ := at_ev V r (r n + 1) s n (Nat.lt_succ_self _) HS.out N1.out
          obtain ⟨kw, hkw⟩ := wh_ev HS.out (r n + 1) n (Nat.lt_succ_self _) N1.out
          obtain ⟨q, hq⟩ : ∃ q, V n = q := ⟨_, rfl⟩
          have FA := Aside0.mk (show atF ka s n = some (q, s') from hq ▸ hka ka (Nat.le_refl _))
          have FW := Aside0.mk (show whF kw s.up s.own n = some q from hq ▸ hkw kw (Nat.le_refl _))
          have HS2 := Aside0.mk hs'
          have UO := Aside0.mk (And.intro ha.up ha.own)
          clear hka hkw hs' ha hq
          go_upto_region 30 with (first | ((with_reducible refine gate_dst (N := 162) rfl ?_); (with_reducible refine gate_callee (f := 32) rfl ?_); refine goesL_ (some 162) rfl rfl Try.func32 (by kernel_rfl) rfl #[.pointer (some ⟨g, 0, none⟩), .int .i64 (n : Int)] rfl (by (try simp only [List.map_toArray, List.map_cons, List.map_nil]); first | done | rfl) ?_; (refine (At_ps PSH.out ka n q s' N1.out LL.out.1 LL.out.2.1 LL.out.2.2 FA.out).mono ?_); rintro e w4 ⟨rfl, u0, u1, u2, u3, hP⟩; refine ⟨_, rfl, ?_⟩; clear e0; have PSH := Aside0.mk hP; clear hP) | ((with_reducible refine gate_dst (N := 15) rfl ?_); refine box_event ?hg (N := 15) ?hd (cs := #[.int .i64 0, .int .i64 0, .int .i64 0, .int .i64 0]) (t := tP) ?hr ?_; (case hd => rfl); (case hg => rfl); (case hr => first | (go_simp; done) | (go_simp; rfl)); intro g15 hg wu hbox hb; have HE := Aside0.mk hb; have GE := Aside0.mk (Nat.le_of_eq hg.symm); have B15 := Aside0.mk hbox; clear hg hbox hb; have cz0 := (blk_cell B15.out 0).trans rfl; have fz0 := blk_frozen B15.out 0; have cz1 := (blk_cell B15.out 1).trans rfl; have fz1 := blk_frozen B15.out 1; have cz2 := (blk_cell B15.out 2).trans rfl; have fz2 := blk_frozen B15.out 2; have cz3 := (blk_cell B15.out 3).trans rfl; have fz3 := blk_frozen B15.out 3))
          have HE := Aside0.mk (show Below w4.heap.size w4 ((((wu.setCell ⟨g15, 0, none⟩ (.int .i64 q.x)).setCell ⟨g15, 1, none⟩ (.int .i64 q.y)).setCell ⟨g15, 2, none⟩ (.int .i64 q.a)).setCell ⟨g15, 3, none⟩ (.int .i64 q.s)) from below_set (below_set (below_set (below_set HE.out GE.out) GE.out) GE.out) GE.out)
          have PSH := Aside0.mk (PSH.out.below HE.out)
          have B15 := Aside0.mk (show (((((wu.setCell ⟨g15, 0, none⟩ (.int .i64 q.x)).setCell ⟨g15, 1, none⟩ (.int .i64 q.y)).setCell ⟨g15, 2, none⟩ (.int .i64 q.a)).setCell ⟨g15, 3, none⟩ (.int .i64 q.s))).heap[g15]? = some (.cells #[.int .i64 q.x, .int .i64 q.y, .int .i64 q.a, .int .i64 q.s] tP (0, 0)) from blk_put (blk_put (blk_put (blk_put (B15.out) 0 (.int .i64 q.x) rfl) 1 (.int .i64 q.y) rfl) 2 (.int .i64 q.a) rfl) 3 (.int .i64 q.s) rfl)
          clear HE GE cz0 fz0 cz1 fz1 cz2 fz2 cz3 fz3
          generalize ((((wu.setCell ⟨g15, 0, none⟩ (.int .i64 q.x)).setCell ⟨g15, 1, none⟩ (.int .i64 q.y)).setCell ⟨g15, 2, none⟩ (.int .i64 q.a)).setCell ⟨g15, 3, none⟩ (.int .i64 q.s)) = wv at PSH B15 ⊢
          go_upto_region 32 with fail
          have PSH := Aside0.mk PSH.out.drew
          have B15 := Aside0.mk (blk_drew B15.out)
          refine start_ (n := 12) (S := fun w' => w'.cell? ⟨g15, 0, none⟩ = some (.int .i64 q.x) ∧ w'.cell? ⟨g15, 1, none⟩ = some (.int .i64 q.y) ∧ w'.cell? ⟨g15, 2, none⟩ = some (.int .i64 q.a) ∧ w'.cell? ⟨g15, 3, none⟩ = some (.int .i64 q.s) ∧ w'.cell? ⟨m, 0, none⟩ = some (.slice A0 s.up.length c0) ∧ w'.cell? ⟨m, 1, none⟩ = some (.slice A1 s.own.length c1)) (ds := []) #[false, false, false, false, false, false, false, false, false, false, false, false] (by kernel_rfl) rfl rfl ⟨(blk_cell B15.out 0).trans rfl, (blk_cell B15.out 1).trans rfl, (blk_cell B15.out 2).trans rfl, (blk_cell B15.out 3).trans rfl, (blk_cell PSH.out.mbox 0).trans rfl, (blk_cell PSH.out.mbox 1).trans rfl⟩ (fun hHeld => ?_)
          generalize wv.drew = wd6 at PSH B15 hHeld ⊢
          refine pure_ (i := 0) (N := some 179) (v := ?_) (a' := ?_) #[true, false, false, false, false, false, false, false, false, false, false, false] rfl rfl (by kernel_rfl) (fun _ _ _ h => h) (Or.inl ⟨by rfl, ?_⟩) ?_ ?_
          rotate_left
          · intro w'
            go_simp
            with_reducible rfl
          rotate_left
          · simp only [Act.put, List.setIfInBounds_toArray, List.set_cons_zero, List.set_cons_succ, i64_w, i32_w]
            rfl
          refine pure_ (i := 1) (N := some 180) (v := ?_) (a' := ?_) #[true, true, false, false, false, false, false, false, false, false, false, false] rfl rfl (by kernel_rfl) (fun _ _ _ h => h) (Or.inl ⟨by rfl, ?_⟩) ?_ ?_
          rotate_left
          · intro w'
            go_simp
            with_reducible rfl
          rotate_left
          · simp only [Act.put, List.setIfInBounds_toArray, List.set_cons_zero, List.set_cons_succ, i64_w, i32_w]
            rfl
          refine pure_ (i := 2) (N := some 181) (v := ?_) (a' := ?_) #[true, true, true, false, false, false, false, false, false, false, false, false] rfl rfl (by kernel_rfl) (fun _ _ _ h => h) (Or.inl ⟨by rfl, ?_⟩) ?_ ?_
          rotate_left
          · intro w'
            go_simp
            with_reducible rfl
          rotate_left
          · simp only [Act.put, List.setIfInBounds_toArray, List.set_cons_zero, List.set_cons_succ, i64_w, i32_w]
            rfl
          refine pure_ (i := 4) (N := some 183) (v := ?_) (a' := ?_) #[true, true, true, false, true, false, false, false, false, false, false, false] rfl rfl (by kernel_rfl) (fun _ _ _ h => h) (Or.inl ⟨by rfl, ?_⟩) ?_ ?_
          rotate_left
          · intro w'
            go_simp
            with_reducible rfl
          rotate_left
          · simp only [Act.put, List.setIfInBounds_toArray, List.set_cons_zero, List.set_cons_succ, i64_w, i32_w]
            rfl
          refine pure_ (i := 5) (N := some 184) (v := ?_) (a' := ?_) #[true, true, true, false, true, true, false, false, false, false, false, false] rfl rfl (by kernel_rfl) (fun _ _ _ h => h) (Or.inl ⟨by rfl, ?_⟩) ?_ ?_
          rotate_left
          · intro w'
            go_simp
            with_reducible rfl
          rotate_left
          · simp only [Act.put, List.setIfInBounds_toArray, List.set_cons_zero, List.set_cons_succ, i64_w, i32_w]
            rfl
          refine pure_ (i := 7) (N := some 186) (v := ?_) (a' := ?_) #[true, true, true, false, true, true, false, true, false, false, false, false] rfl rfl (by kernel_rfl) (fun _ _ _ h => h) (Or.inl ⟨by rfl, ?_⟩) ?_ ?_
          rotate_left
          · intro w'
            go_simp
            with_reducible rfl
          rotate_left
          · simp only [Act.put, List.setIfInBounds_toArray, List.set_cons_zero, List.set_cons_succ, i64_w, i32_w]
            rfl
          refine take_ (i := 3) (N := some 182) (v := ?_) (a' := ?_) #[true, true, true, true, true, true, false, true, false, false, false, false] rfl rfl (by kernel_rfl) (fun _ _ _ h => h) (Or.inl ⟨by rfl, ?_⟩) hHeld ?_ ?_
          rotate_left
          · rintro w' ⟨s0, s1, s2, s3, s4, s5⟩
            go_simp
            with_reducible rfl
          rotate_left
          · simp only [Act.put, List.setIfInBounds_toArray, List.set_cons_zero, List.set_cons_succ, i64_w, i32_w]
            rfl
          refine take_ (i := 6) (N := some 185) (v := ?_) (a' := ?_) #[true, true, true, true, true, true, true, true, false, false, false, false] rfl rfl (by kernel_rfl) (fun _ _ _ h => h) (Or.inl ⟨by rfl, ?_⟩) hHeld ?_ ?_
          rotate_left
          · rintro w' ⟨s0, s1, s2, s3, s4, s5⟩
            go_simp
            with_reducible rfl
          rotate_left
          · simp only [Act.put, List.setIfInBounds_toArray, List.set_cons_zero, List.set_cons_succ, i64_w, i32_w]
            rfl
          refine one_ (i := 8) (N := some 187) #[true, true, true, true, true, true, true, true, true, false, false, false] rfl rfl (by kernel_rfl) (by decide) (fun K hK => ?_)
          refine goes_ Try.func37 (by kernel_rfl) rfl #[.agg #[.slice A0 s.up.length c0, .slice A1 s.own.length c1], .int .i64 (n : Int)] (by rfl) rfl rfl (by simp only [List.map_toArray, List.map_cons, List.map_nil]; rfl) ?_
          with_reducible refine (where_any kw n q FW.out A0 A1 _ PSH.out.nd).mono ?_
          rintro e w5 ⟨rfl, hb⟩
          refine ⟨_, rfl, ?_⟩
          have PSH := Aside0.mk (PSH.out.below hb)
          have B15 := Aside0.mk (blk_below B15.out hb)
          clear hb
          refine hK.out _ _ ⟨(blk_cell B15.out 0).trans rfl, (blk_cell B15.out 1).trans rfl, (blk_cell B15.out 2).trans rfl, (blk_cell B15.out 3).trans rfl, (blk_cell PSH.out.mbox 0).trans rfl, (blk_cell PSH.out.mbox 1).trans rfl⟩ (fun hHeld => ?_)
          clear hK K
          refine norm_ (a' := ?_) ?_ ?_
          rotate_left
          · show Act.put _ (some 187) _ = _
            simp only [Act.put, List.setIfInBounds_toArray, List.set_cons_zero, List.set_cons_succ, i64_w, i32_w]
            rfl
          refine pure_ (i := 9) (N := some 188) (v := ?_) (a' := ?_) #[true, true, true, true, true, true, true, true, true, true, false, false] rfl rfl (by kernel_rfl) (fun _ _ _ h => h) (Or.inl ⟨by rfl, ?_⟩) ?_ ?_
          rotate_left
          · intro w'
            go_simp
            with_reducible rfl
          rotate_left
          · simp only [Act.put, List.setIfInBounds_toArray, List.set_cons_zero, List.set_cons_succ, i64_w, i32_w]
            rfl
          refine pure_ (i := 10) (N := some 189) (v := ?_) (a' := ?_) #[true, true, true, true, true, true, true, true, true, true, true, false] rfl rfl (by kernel_rfl) (fun _ _ _ h => h) (Or.inl ⟨by rfl, ?_⟩) ?_ ?_
          rotate_left
          · intro w'
            go_simp
            with_reducible rfl
          rotate_left
          · simp only [Act.put, List.setIfInBounds_toArray, List.set_cons_zero, List.set_cons_succ, i64_w, i32_w]
            rfl
          refine pure_ (i := 11) (N := some 8) (v := ?_) (a' := ?_) #[true, true, true, true, true, true, true, true, true, true, true, true] rfl rfl (by kernel_rfl) (fun _ _ _ h => h) (Or.inl ⟨by rfl, ?_⟩) ?_ ?_
          rotate_left
          · intro w'
            go_simp
            with_reducible rfl
          rotate_left
          · simp only [Act.put, List.setIfInBounds_toArray, List.set_cons_zero, List.set_cons_succ, i64_w, i32_w]
            rfl
          refine done_ (by kernel_rfl) ?_
          go_wp2
          go_ret
          exact ⟨rfl, s', V, r, _, _, _, _, _, _, HS2.out, by rw [UO.out.1, UO.out.2]; exact PSH.out⟩
end Go.Proofs.Ytdopeneehminaaa.GraphStepGraphPlays
