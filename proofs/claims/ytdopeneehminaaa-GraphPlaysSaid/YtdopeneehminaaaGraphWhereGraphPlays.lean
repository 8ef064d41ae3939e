/- Where and Below of the nodes of the second implementation. Under the conditions that stand at each. -/
import Derived.Test.YtdopeneehminaaaGraphMoveGraphPlays
import Derived.Outline
namespace Go.Proofs.Ytdopeneehminaaa.GraphWhereGraphPlays
open Go Go.RowKit Go.Proofs.YtdopeneehminaaaW.PrintWords Go.Proofs.YtdopeneehminaaaW.PrintLast Go.Proofs.YtdopeneehminaaaW.PrintMore Go.Proofs.Ytdopeneehminaaa.Fnv Go.Proofs.Ytdopeneehminaaa.PGraphPlays Go.Proofs.Ytdopeneehminaaa.GraphMemGraphPlays Go.Proofs.Ytdopeneehminaaa.GraphAtGraphPlays Go.Proofs.Ytdopeneehminaaa.GraphSetGraphPlays Go.Proofs.Ytdopeneehminaaa.GraphAddGraphPlays Go.Proofs.Ytdopeneehminaaa.NumGraphPlays Go.Proofs.Ytdopeneehminaaa.GraphWiGraphPlays Go.Proofs.Ytdopeneehminaaa.GraphRunsGraphPlays Go.Proofs.Ytdopeneehminaaa.GraphNewGraphPlays Go.Proofs.Ytdopeneehminaaa.GraphTwoGraphPlays Go.Proofs.Ytdopeneehminaaa.GraphMoveGraphPlays
set_option linter.unusedVariables false
set_option linter.unusedSimpArgs false
abbrev tN : TypeId := 66
/-- The nodes' rows, to be read. -/
structure ND (w : World) (A0 A1 : Option Addr) (up : List Int) (own : List Pl) : Prop where
  u : ∀ i : Nat, i < up.length → ∃ b, A0 = some ⟨b, 0, none⟩ ∧ w.cell? ⟨b, i, none⟩ = some (.int .i64 (rd up i))
  o : ∀ i : Nat, i < own.length → ∃ b, A1 = some ⟨b, 0, none⟩ ∧ w.cell? ⟨b, i * 4, none⟩ = some (.int .i64 (plAt own i).x) ∧ w.cell? ⟨b, i * 4 + 1, none⟩ = some (.int .i64 (plAt own i).y) ∧ w.cell? ⟨b, i * 4 + 2, none⟩ = some (.int .i64 (plAt own i).a) ∧ w.cell? ⟨b, i * 4 + 3, none⟩ = some (.int .i64 (plAt own i).s)
theorem ND.below {w w1 : World} {A0 A1 : Option Addr} {up : List Int} {own : List Pl} (h : ND w A0 A1 up own) (hb : Below w.heap.size w w1) : ND w1 A0 A1 up own :=
  ⟨fun i hi => by obtain ⟨b, e, hc⟩ := h.u i hi; exact ⟨b, e, pw_cell_below hb hc⟩, fun i hi => by obtain ⟨b, e, h0, h1, h2, h3⟩ := h.o i hi; exact ⟨b, e, pw_cell_below hb h0, pw_cell_below hb h1, pw_cell_below hb h2, pw_cell_below hb h3⟩⟩
theorem ND.up_at {w : World} {b0 : Nat} {A1 : Option Addr} {up : List Int} {own : List Pl} (h : ND w (some ⟨b0, 0, none⟩) A1 up own) {i : Nat} (hi : i < up.length) : w.cell? ⟨b0, i, none⟩ = some (.int .i64 (rd up i)) := by
  obtain ⟨b, e, hc⟩ := h.u i hi
  injection e with e; injection e with e; subst e; exact hc
theorem ND.own_at {w : World} {b1 : Nat} {A0 : Option Addr} {up : List Int} {own : List Pl} (h : ND w A0 (some ⟨b1, 0, none⟩) up own) {i : Nat} (hi : i < own.length) : w.cell? ⟨b1, i * 4, none⟩ = some (.int .i64 (plAt own i).x) ∧ w.cell? ⟨b1, i * 4 + 1, none⟩ = some (.int .i64 (plAt own i).y) ∧ w.cell? ⟨b1, i * 4 + 2, none⟩ = some (.int .i64 (plAt own i).a) ∧ w.cell? ⟨b1, i * 4 + 3, none⟩ = some (.int .i64 (plAt own i).s) := by
  obtain ⟨b, e, hc⟩ := h.o i hi
  injection e with e; injection e with e; subst e; exact hc
def own_ (own : List Pl) (n : Nat) : Pl := { plAt own n with a := Go.bits .and .i64 (plAt own n).a 65535 }
theorem two2 {w : World} {x : Nat} {t : TypeId} {v0 v1 : Value} (B : w.heap[x]? = some (.cells #[v0, v1] t (0, 0))) : w.cell? ⟨x, 0, none⟩ = some v0 ∧ w.cell? ⟨x, 1, none⟩ = some v1 := ⟨(blk_cell B 0).trans rfl, (blk_cell B 1).trans rfl⟩
set_option maxHeartbeats 8000000 in
set_option maxRecDepth 100000 in
theorem where_any {c0 c1 : Nat} {up : List Int} {own : List Pl} : ∀ (k n : Nat) (p : Pl), whF k up own n = some p → ∀ (A0 A1 : Option Addr) (w : World), ND w A0 A1 up own →
    Calls Try.prog 37 #[.agg #[.slice A0 up.length c0, .slice A1 own.length c1], .int .i64 n] w fun e w' => e = .returned (.agg #[.int .i64 p.x, .int .i64 p.y, .int .i64 p.a, .int .i64 p.s]) ∧ Below w.heap.size w w' := by
  have hu66 := Try.underlying66
  have hu52 := Try.underlying52
  have hu27 := Try.underlying27
  intro k
  induction k with
  | zero => intro n p h; simp [whF] at h
  | succ k ih =>
    replace ih := Aside0.mk ih
    intro n p h A0 A1 w hN
    rw [whF] at h
    by_cases cl : n < up.length ∧ n < own.length
    case neg => rw [if_neg cl] at h; cases h
    rw [if_pos cl] at h
    obtain ⟨l0, l1⟩ := cl
    obtain ⟨b0, rfl, _⟩ := hN.u n l0
    obtain ⟨b1, rfl, _⟩ := hN.o n l1
    have t0 : ((0 : Int) ≤ (n : Int)) = True := eq_true (by omega)
    have t1 : ((n : Int) < (up.length : Int)) = True := eq_true (by omega)
    have t2 : ((n : Int) < (own.length : Int)) = True := eq_true (by omega)
    have H := Aside0.mk h
    have NH := Aside0.mk hN
    have L0 := Aside0.mk l0
    have L1 := Aside0.mk l1
    clear h hN l0 l1
    go_enter Try.func37, Try.ntmps37
    go_upto_region 0 with fail
    go_cut [2, 4] (fun v2 v4 w' => ∃ g2 g4 : Nat, v2 = .pointer (some ⟨g2, 0, none⟩) ∧ v4 = .pointer (some ⟨g4, 0, none⟩) ∧ w'.heap[g2]? = some (.cells #[.slice (some ⟨b0, 0, none⟩) up.length c0, .slice (some ⟨b1, 0, none⟩) own.length c1] tN (0, 0)) ∧ w'.heap[g4]? = some (.cells #[.int .i64 0, .int .i64 0, .int .i64 0, .int .i64 0] tP (0, 0)) ∧ w.heap.size ≤ g4 ∧ Below w.heap.size w w')
    case first =>
      go_wp2_with fail
      go_meet
      have e : ∀ o : Obj, (w.alloc o).heap.size = w.heap.size + 1 := fun o => by simp
      exact ⟨_, _, rfl, rfl, blk_below (blk_new _ _) (below_alloc (Below.refl _ _) _), (by have := blk_new (w.alloc (.cells #[.slice (some ⟨b0, 0, none⟩) up.length c0, .slice (some ⟨b1, 0, none⟩) own.length c1] tN (0, 0))) (.cells #[.int .i64 0, .int .i64 0, .int .i64 0, .int .i64 0] tP (0, 0)); rwa [e] at this), by omega, below_step (below_alloc (Below.refl _ _) _) (below_alloc (Below.refl _ _) _)⟩
    case rest =>
      obtain ⟨g2, g4, rfl, rfl, B2, B4, hg4, hb⟩ := hcut
      have HB := Aside0.mk hb
      have L4 := Aside0.mk hg4
      have B2 := Aside0.mk B2
      have B4 := Aside0.mk B4
      clear hb hg4
      obtain ⟨e0, e1⟩ := two2 B2.out
      obtain ⟨x0, x1, x2, x3⟩ := (NH.out.below HB.out).own_at L1.out
      go_upto_region 1 with fail
      go_cut [5] (fun v5 w' => ∃ g5 : Nat, v5 = .pointer (some ⟨g5, 0, none⟩) ∧ w'.heap[g5]? = some (.cells #[.int .i64 (plAt own n).x, .int .i64 (plAt own n).y, .int .i64 (plAt own n).a, .int .i64 (plAt own n).s] tP (0, 0)) ∧ wc.heap.size ≤ g5 ∧ Below wc.heap.size wc w')
      case first =>
        go_wp2_with fail
        go_meet
        exact ⟨_, rfl, blk_new _ _, Nat.le_refl _, below_alloc (Below.refl _ _) _⟩
      case rest =>
        obtain ⟨g5, rfl, B5, hg5, hb⟩ := hcut
        have E45 := Aside0.mk (show g4 ≠ g5 from Nat.ne_of_lt (Nat.lt_of_lt_of_le (blk_lt B4.out) hg5))
        have E25 := Aside0.mk (show g2 ≠ g5 from Nat.ne_of_lt (Nat.lt_of_lt_of_le (blk_lt B2.out) hg5))
        have L5 := Aside0.mk (Nat.le_trans HB.out.size hg5)
        have B5 := Aside0.mk B5
        have B2 := Aside0.mk (blk_below B2.out hb)
        have B4 := Aside0.mk (blk_below B4.out hb)
        have HB := Aside0.mk (below_step HB.out hb)
        clear hb hg5 e0 e1 x0 x1 x2 x3
        have z2 : wc.cell? ⟨g5, 2, none⟩ = some (.int .i64 (plAt own n).a) := (blk_cell B5.out 2).trans rfl
        have y2 := blk_frozen B5.out 2
        go_upto_region 2 with fail
        go_cut [15] (fun v15 w' => w' = wc.setCell ⟨g5, 2, none⟩ (.int .i64 (Go.bits .and .i64 (plAt own n).a 65535)))
        case first =>
          go_wp2_with fail
          go_meet
          rfl
        case rest =>
          have B51 := Aside0.mk (blk_put (cs' := #[.int .i64 (own_ own n).x, .int .i64 (own_ own n).y, .int .i64 (own_ own n).a, .int .i64 (own_ own n).s]) B5.out 2 (.int .i64 (Go.bits .and .i64 (plAt own n).a 65535)) rfl)
          have B41 := Aside0.mk (blk_far (p := ⟨g5, 2, none⟩) B4.out E45.out (.int .i64 (Go.bits .and .i64 (plAt own n).a 65535)))
          have B21 := Aside0.mk (blk_far (p := ⟨g5, 2, none⟩) B2.out E25.out (.int .i64 (Go.bits .and .i64 (plAt own n).a 65535)))
          have HB1 := Aside0.mk (below_set (j := 2) (v := .int .i64 (Go.bits .and .i64 (plAt own n).a 65535)) HB.out L5.out)
          rw [← hcut] at B51 B41 B21 HB1
          clear B5 B4 B2 HB z2 y2 hcut
          obtain ⟨e0, e1⟩ := two2 B21.out
          have k0 := (NH.out.below HB1.out).up_at L0.out
          have h' := H.out
          clear H
          by_cases cu : 0 ≤ rd up n
          · rw [if_pos cu] at h'
            obtain ⟨q, ha, h'⟩ := Option.bind_eq_some_iff.mp h'
            obtain ⟨rr, hwf, hpp⟩ := Option.map_eq_some_iff.1 h'
            obtain ⟨rp, rfl⟩ : ∃ rp : Pl, (rp.x, rp.y, rp.a, rp.s) = rr := ⟨⟨rr.1, rr.2.1, rr.2.2.1, rr.2.2.2⟩, rfl⟩
            obtain rfl : rp = p := hpp
            obtain ⟨u, hu⟩ : ∃ u : Nat, rd up n = (u : Int) := ⟨(rd up n).toNat, by omega⟩
            rw [hu] at k0 ha
            rw [Int.toNat_natCast] at ha
            have cub : decide ((u : Int) < 0) = false := decide_eq_false (by omega)
            have ha := Aside0.mk ha
            unfold graph_Within.f at hwf
            obtain ⟨⟨sx, sy⟩, f1, hwf⟩ := Option.bind_eq_some_iff.mp hwf
            obtain ⟨⟨tx, ty⟩, f2, hwf⟩ := Option.bind_eq_some_iff.mp hwf
            obtain ⟨⟨ax, ay⟩, f3, hwf⟩ := Option.bind_eq_some_iff.mp hwf
            obtain ⟨ms, f4, hwf⟩ := Option.bind_eq_some_iff.mp hwf
            have hwf := Option.some.inj hwf
            obtain ⟨p0, p1, p2, p3⟩ : ax = rp.x ∧ ay = rp.y ∧ Go.bits .and .i64 (wrap64 (q.a + (own_ own n).a)) 65535 = rp.a ∧ ms = rp.s := by
              injection hwf with h0 hwf
              injection hwf with h1 hwf
              injection hwf with h2 h3
              exact ⟨h0, h1, h2, h3⟩
            have F1 := Aside0.mk (show vec_Scale.f k (own_ own n).x (own_ own n).y q.s = some (sx, sy) from f1)
            have F2 := Aside0.mk (show vec_Turn.f k sx sy q.a = some (tx, ty) from f2)
            have F3 := Aside0.mk (show vec_Add.f q.x q.y tx ty = some (ax, ay) from f3)
            have F4 := Aside0.mk (show fix_Mul.f k q.s (own_ own n).s = some ms from f4)
            have PP := Aside0.mk (And.intro p0 (And.intro p1 (And.intro p2 p3)))
            have HU := Aside0.mk hu
            clear h' hwf cu f1 f2 f3 f4 p0 p1 p2 p3 hu
            go_upto_region 5 with fail
            clear e0 e1 k0
            have HB1 := Aside0.mk (below_step HB1.out (Below.refl _ _).drew)
            have B51 := Aside0.mk (blk_drew B51.out)
            have B41 := Aside0.mk (blk_drew B41.out)
            have B21 := Aside0.mk (blk_drew B21.out)
            refine start_ (n := 9) (S := fun w' => w'.cell? ⟨g2, 0, none⟩ = some (.slice (some ⟨b0, 0, none⟩) up.length c0) ∧ w'.cell? ⟨g2, 1, none⟩ = some (.slice (some ⟨b1, 0, none⟩) own.length c1) ∧ w'.cell? ⟨b0, n, none⟩ = some (.int .i64 u)) (ds := [8]) #[false, false, false, false, false, false, false, false, false] (by kernel_rfl) rfl rfl ⟨(blk_cell B21.out 0).trans rfl, (blk_cell B21.out 1).trans rfl, (by have := (NH.out.below HB1.out).up_at L0.out; rw [HU.out] at this; exact this)⟩ (fun hHeld => ?_)
            generalize wc.drew = wd at HB1 B51 B41 B21 hHeld ⊢
            refine pure_ (i := 1) (N := some 24) (v := ?_) (a' := ?_) #[false, true, false, false, false, false, false, false, false] rfl rfl (by kernel_rfl) (fun _ _ _ h => h) (Or.inl ⟨by rfl, ?_⟩) ?_ ?_
            rotate_left
            · intro w'
              go_simp
              with_reducible rfl
            rotate_left
            · simp only [Act.put, List.setIfInBounds_toArray, List.set_cons_zero, List.set_cons_succ, i64_w, i32_w]
              rfl
            refine pure_ (i := 3) (N := some 26) (v := ?_) (a' := ?_) #[false, true, false, true, false, false, false, false, false] rfl rfl (by kernel_rfl) (fun _ _ _ h => h) (Or.inl ⟨by rfl, ?_⟩) ?_ ?_
            rotate_left
            · intro w'
              go_simp
              with_reducible rfl
            rotate_left
            · simp only [Act.put, List.setIfInBounds_toArray, List.set_cons_zero, List.set_cons_succ, i64_w, i32_w]
              rfl
            refine take_ (i := 0) (N := some 23) (v := ?_) (a' := ?_) #[true, true, false, true, false, false, false, false, false] rfl rfl (by kernel_rfl) (fun _ _ _ h => h) (Or.inl ⟨by rfl, ?_⟩) hHeld ?_ ?_
            rotate_left
            · rintro w' ⟨s0, s1, s2⟩
              go_simp
              with_reducible rfl
            rotate_left
            · simp only [Act.put, List.setIfInBounds_toArray, List.set_cons_zero, List.set_cons_succ, i64_w, i32_w]
              rfl
            refine take_ (i := 2) (N := some 25) (v := ?_) (a' := ?_) #[true, true, true, true, false, false, false, false, false] rfl rfl (by kernel_rfl) (fun _ _ _ h => h) (Or.inl ⟨by rfl, ?_⟩) hHeld ?_ ?_
            rotate_left
            · rintro w' ⟨s0, s1, s2⟩
              go_simp
              with_reducible rfl
            rotate_left
            · simp only [Act.put, List.setIfInBounds_toArray, List.set_cons_zero, List.set_cons_succ, i64_w, i32_w]
              rfl
            refine pure_ (i := 4) (N := some 27) (v := ?_) (a' := ?_) #[true, true, true, true, true, false, false, false, false] rfl rfl (by kernel_rfl) (fun _ _ _ h => h) (Or.inl ⟨by rfl, ?_⟩) ?_ ?_
            rotate_left
            · intro w'
              go_simp
              with_reducible rfl
            rotate_left
            · simp only [Act.put, List.setIfInBounds_toArray, List.set_cons_zero, List.set_cons_succ, i64_w, i32_w]
              rfl
            refine take_ (i := 5) (N := some 28) (v := ?_) (a' := ?_) #[true, true, true, true, true, true, false, false, false] rfl rfl (by kernel_rfl) (fun _ _ _ h => h) (Or.inl ⟨by rfl, ?_⟩) hHeld ?_ ?_
            rotate_left
            · rintro w' ⟨s0, s1, s2⟩
              go_simp
              with_reducible rfl
            rotate_left
            · simp only [Act.put, List.setIfInBounds_toArray, List.set_cons_zero, List.set_cons_succ, i64_w, i32_w]
              rfl
            refine join_ (σ := Nat) 1 #[true, true, true, true, true, true, true, true, false] (fun s => [(29, .agg #[.int .i64 q.x, .int .i64 q.y, .int .i64 q.a, .int .i64 q.s]), (6, .pointer (some ⟨s, 0, none⟩))]) (fun s w' => w'.heap[s]? = some (.cells #[.int .i64 0, .int .i64 0, .int .i64 0, .int .i64 0] tP (0, 0)) ∧ w.heap.size ≤ s ∧ g4 ≠ s ∧ g5 ≠ s ∧ w'.heap[g2]? = some (.cells #[.slice (some ⟨b0, 0, none⟩) up.length c0, .slice (some ⟨b1, 0, none⟩) own.length c1] tN (0, 0)) ∧ w'.heap[g4]? = some (.cells #[.int .i64 0, .int .i64 0, .int .i64 0, .int .i64 0] tP (0, 0)) ∧ w'.heap[g5]? = some (.cells #[.int .i64 (own_ own n).x, .int .i64 (own_ own n).y, .int .i64 (own_ own n).a, .int .i64 (own_ own n).s] tP (0, 0)) ∧ Below w.heap.size w w') ?_ ?_
            rotate_left
            · intro hCont
              refine two_ (i := 6) (j := 7) (Ni := some 29) (Nj := some 6) #[true, true, true, true, true, true, true, false, false] #[true, true, true, true, true, true, false, true, false] rfl rfl rfl rfl (by kernel_rfl) (by decide) (by decide) (fun K hK => ?_) (fun K hK => ?_)
              · skip
                refine goes_ Try.func37 (by kernel_rfl) rfl #[.agg #[.slice (some ⟨b0, 0, none⟩) up.length c0, .slice (some ⟨b1, 0, none⟩) own.length c1], .int .i64 (u : Int)] (by rfl) rfl rfl (by simp only [List.map_toArray, List.map_cons, List.map_nil]; rfl) ?_
                with_reducible refine (ih.out u q ha.out _ _ _ (NH.out.below HB1.out)).mono ?_
                rintro e we ⟨rfl, hb⟩
                refine ⟨_, rfl, ?_⟩
                have B21 := Aside0.mk (blk_below B21.out hb)
                have B41 := Aside0.mk (blk_below B41.out hb)
                have B51 := Aside0.mk (blk_below B51.out hb)
                have HB1 := Aside0.mk (below_step HB1.out hb)
                clear hb
                refine hK.out _ _ ⟨(blk_cell B21.out 0).trans rfl, (blk_cell B21.out 1).trans rfl, (by have := (NH.out.below HB1.out).up_at L0.out; rw [HU.out] at this; exact this)⟩ (fun hHeld => ?_)
                clear hK K
                refine norm_ (a' := ?_) ?_ ?_
                rotate_left
                · show Act.put _ (some 29) _ = _
                  simp only [Act.put, List.setIfInBounds_toArray, List.set_cons_zero, List.set_cons_succ, i64_w, i32_w]
                  rfl
                refine one_ (i := 7) (N := some 6) #[true, true, true, true, true, true, true, true, false] rfl rfl (by kernel_rfl) (by decide) (fun K hK => ?_)
                refine box_step (by rfl) rfl (cs := #[.int .i64 0, .int .i64 0, .int .i64 0, .int .i64 0]) (t := tP) ?_ ?_
                · first | (go_simp; done) | (go_simp; rfl)
                intro g6 hg_ wa hbox hb
                have LL6 := Aside0.mk (show w.heap.size ≤ g6 from hg_ ▸ HB1.out.size)
                have E46 := Aside0.mk (show g4 ≠ g6 from Nat.ne_of_lt (hg_ ▸ blk_lt B41.out))
                have E56 := Aside0.mk (show g5 ≠ g6 from Nat.ne_of_lt (hg_ ▸ blk_lt B51.out))
                have B21 := Aside0.mk (blk_below B21.out hb)
                have B41 := Aside0.mk (blk_below B41.out hb)
                have B51 := Aside0.mk (blk_below B51.out hb)
                have HB1 := Aside0.mk (below_step HB1.out hb)
                have B6 := Aside0.mk hbox
                clear hg_ hbox hb
                refine hK.out _ _ ⟨(blk_cell B21.out 0).trans rfl, (blk_cell B21.out 1).trans rfl, (by have := (NH.out.below HB1.out).up_at L0.out; rw [HU.out] at this; exact this)⟩ (fun hHeld => ?_)
                clear hK K
                refine norm_ (a' := ?_) ?_ ?_
                rotate_left
                · show Act.put _ (some 6) _ = _
                  simp only [Act.put, List.setIfInBounds_toArray, List.set_cons_zero, List.set_cons_succ, i64_w, i32_w]
                  rfl
                exact norm_ (by simp only [putAll, Act.put, List.setIfInBounds_toArray, List.set_cons_zero, List.set_cons_succ]) (hCont g6 _ ⟨B6.out, LL6.out, E46.out, E56.out, B21.out, B41.out, B51.out, HB1.out⟩)
              · skip
                refine box_step (by rfl) rfl (cs := #[.int .i64 0, .int .i64 0, .int .i64 0, .int .i64 0]) (t := tP) ?_ ?_
                · first | (go_simp; done) | (go_simp; rfl)
                intro g6 hg_ wa hbox hb
                have LL6 := Aside0.mk (show w.heap.size ≤ g6 from hg_ ▸ HB1.out.size)
                have E46 := Aside0.mk (show g4 ≠ g6 from Nat.ne_of_lt (hg_ ▸ blk_lt B41.out))
                have E56 := Aside0.mk (show g5 ≠ g6 from Nat.ne_of_lt (hg_ ▸ blk_lt B51.out))
                have B21 := Aside0.mk (blk_below B21.out hb)
                have B41 := Aside0.mk (blk_below B41.out hb)
                have B51 := Aside0.mk (blk_below B51.out hb)
                have HB1 := Aside0.mk (below_step HB1.out hb)
                have B6 := Aside0.mk hbox
                clear hg_ hbox hb
                refine hK.out _ _ ⟨(blk_cell B21.out 0).trans rfl, (blk_cell B21.out 1).trans rfl, (by have := (NH.out.below HB1.out).up_at L0.out; rw [HU.out] at this; exact this)⟩ (fun hHeld => ?_)
                clear hK K
                refine norm_ (a' := ?_) ?_ ?_
                rotate_left
                · show Act.put _ (some 6) _ = _
                  simp only [Act.put, List.setIfInBounds_toArray, List.set_cons_zero, List.set_cons_succ, i64_w, i32_w]
                  rfl
                refine one_ (i := 6) (N := some 29) #[true, true, true, true, true, true, true, true, false] rfl rfl (by kernel_rfl) (by decide) (fun K hK => ?_)
                refine goes_ Try.func37 (by kernel_rfl) rfl #[.agg #[.slice (some ⟨b0, 0, none⟩) up.length c0, .slice (some ⟨b1, 0, none⟩) own.length c1], .int .i64 (u : Int)] (by rfl) rfl rfl (by simp only [List.map_toArray, List.map_cons, List.map_nil]; rfl) ?_
                with_reducible refine (ih.out u q ha.out _ _ _ (NH.out.below HB1.out)).mono ?_
                rintro e we ⟨rfl, hb⟩
                refine ⟨_, rfl, ?_⟩
                have B21 := Aside0.mk (blk_below B21.out hb)
                have B41 := Aside0.mk (blk_below B41.out hb)
                have B51 := Aside0.mk (blk_below B51.out hb)
                have HB1 := Aside0.mk (below_step HB1.out hb)
                have B6 := Aside0.mk (blk_below B6.out hb)
                clear hb
                refine hK.out _ _ ⟨(blk_cell B21.out 0).trans rfl, (blk_cell B21.out 1).trans rfl, (by have := (NH.out.below HB1.out).up_at L0.out; rw [HU.out] at this; exact this)⟩ (fun hHeld => ?_)
                clear hK K
                refine norm_ (a' := ?_) ?_ ?_
                rotate_left
                · show Act.put _ (some 29) _ = _
                  simp only [Act.put, List.setIfInBounds_toArray, List.set_cons_zero, List.set_cons_succ, i64_w, i32_w]
                  rfl
                exact norm_ (by simp only [putAll, Act.put, List.setIfInBounds_toArray, List.set_cons_zero, List.set_cons_succ]) (hCont g6 _ ⟨B6.out, LL6.out, E46.out, E56.out, B21.out, B41.out, B51.out, HB1.out⟩)
            rintro g6 wz ⟨h6_, l6_, e6_, d6_, h2_, h4_, h5_, hb_⟩
            have B6 := Aside0.mk h6_
            have LL6 := Aside0.mk l6_
            have E46 := Aside0.mk e6_
            have E56 := Aside0.mk d6_
            have B21 := Aside0.mk h2_
            have B41 := Aside0.mk h4_
            have B51 := Aside0.mk h5_
            have HB1 := Aside0.mk hb_
            clear h6_ l6_ e6_ d6_ h2_ h4_ h5_ hb_
            refine norm_ (a' := ?_) ?_ ?_
            rotate_left
            · simp only [putAll, Act.put, List.setIfInBounds_toArray, List.set_cons_zero, List.set_cons_succ]
              rfl
            refine last_ (i := 8) (N := none) #[true, true, true, true, true, true, true, true, true] rfl rfl (by kernel_rfl) (by decide) (fun K hK => ?_)
            obtain ⟨ca0, ca1, ca2, ca3⟩ := four B6.out
            have cb0 := blk_frozen B6.out 0
            have cb1 := blk_frozen B6.out 1
            have cb2 := blk_frozen B6.out 2
            have cb3 := blk_frozen B6.out 3
            refine skip_ (w1 := ?_) (by rfl) rfl ?_ ?_
            rotate_left
            · go_simp
              rfl
            clear ca0 cb0 ca1 cb1 ca2 cb2 ca3 cb3
            refine hK.out _ _ ?_
            clear hK K
            refine done_ (by kernel_rfl) ?_
            have B62 := Aside0.mk (put4 B6.out (.int .i64 q.x) (.int .i64 q.y) (.int .i64 q.a) (.int .i64 q.s))
            have B42 := Aside0.mk (far4b B41.out E46.out (.int .i64 q.x) (.int .i64 q.y) (.int .i64 q.a) (.int .i64 q.s))
            have B52 := Aside0.mk (far4b B51.out E56.out (.int .i64 q.x) (.int .i64 q.y) (.int .i64 q.a) (.int .i64 q.s))
            have HB2 := Aside0.mk (show Below w.heap.size w ((((wz.setCell ⟨g6, 0, none⟩ (.int .i64 q.x)).setCell ⟨g6, 1, none⟩ (.int .i64 q.y)).setCell ⟨g6, 2, none⟩ (.int .i64 q.a)).setCell ⟨g6, 3, none⟩ (.int .i64 q.s)) from below_set (below_set (below_set (below_set HB1.out LL6.out) LL6.out) LL6.out) LL6.out)
            clear HB1 B51 B41 B21 B6
            generalize ((((wz.setCell ⟨g6, 0, none⟩ (.int .i64 q.x)).setCell ⟨g6, 1, none⟩ (.int .i64 q.y)).setCell ⟨g6, 2, none⟩ (.int .i64 q.a)).setCell ⟨g6, 3, none⟩ (.int .i64 q.s)) = w6 at HB2 B62 B42 B52 ⊢
            go_upto_region 6 with fail
            have HB2 := Aside0.mk (below_step HB2.out (Below.refl _ _).drew)
            have B62 := Aside0.mk (blk_drew B62.out)
            have B42 := Aside0.mk (blk_drew B42.out)
            have B52 := Aside0.mk (blk_drew B52.out)
            refine start_ (n := 24) (S := fun w' => w'.cell? ⟨g6, 0, none⟩ = some (.int .i64 q.x) ∧ w'.cell? ⟨g6, 1, none⟩ = some (.int .i64 q.y) ∧ w'.cell? ⟨g6, 2, none⟩ = some (.int .i64 q.a) ∧ w'.cell? ⟨g6, 3, none⟩ = some (.int .i64 q.s) ∧ w'.cell? ⟨g5, 0, none⟩ = some (.int .i64 (own_ own n).x) ∧ w'.cell? ⟨g5, 1, none⟩ = some (.int .i64 (own_ own n).y) ∧ w'.cell? ⟨g5, 2, none⟩ = some (.int .i64 (own_ own n).a) ∧ w'.cell? ⟨g5, 3, none⟩ = some (.int .i64 (own_ own n).s)) (ds := [23]) #[false, false, false, false, false, false, false, false, false, false, false, false, false, false, false, false, false, false, false, false, false, false, false, false] (by kernel_rfl) rfl rfl ⟨(blk_cell B62.out 0).trans rfl, (blk_cell B62.out 1).trans rfl, (blk_cell B62.out 2).trans rfl, (blk_cell B62.out 3).trans rfl, (blk_cell B52.out 0).trans rfl, (blk_cell B52.out 1).trans rfl, (blk_cell B52.out 2).trans rfl, (blk_cell B52.out 3).trans rfl⟩ (fun hHeld => ?_)
            generalize w6.drew = wd6 at HB2 B62 B42 B52 hHeld ⊢
            refine pure_ (i := 0) (N := some 30) (v := ?_) (a' := ?_) #[true, false, false, false, false, false, false, false, false, false, false, false, false, false, false, false, false, false, false, false, false, false, false, false] rfl rfl (by kernel_rfl) (fun _ _ _ h => h) (Or.inl ⟨by rfl, ?_⟩) ?_ ?_
            rotate_left
            · intro w'
              go_simp
              with_reducible rfl
            rotate_left
            · simp only [Act.put, List.setIfInBounds_toArray, List.set_cons_zero, List.set_cons_succ, i64_w, i32_w]
              rfl
            refine pure_ (i := 2) (N := some 32) (v := ?_) (a' := ?_) #[true, false, true, false, false, false, false, false, false, false, false, false, false, false, false, false, false, false, false, false, false, false, false, false] rfl rfl (by kernel_rfl) (fun _ _ _ h => h) (Or.inl ⟨by rfl, ?_⟩) ?_ ?_
            rotate_left
            · intro w'
              go_simp
              with_reducible rfl
            rotate_left
            · simp only [Act.put, List.setIfInBounds_toArray, List.set_cons_zero, List.set_cons_succ, i64_w, i32_w]
              rfl
            refine pure_ (i := 4) (N := some 34) (v := ?_) (a' := ?_) #[true, false, true, false, true, false, false, false, false, false, false, false, false, false, false, false, false, false, false, false, false, false, false, false] rfl rfl (by kernel_rfl) (fun _ _ _ h => h) (Or.inl ⟨by rfl, ?_⟩) ?_ ?_
            rotate_left
            · intro w'
              go_simp
              with_reducible rfl
            rotate_left
            · simp only [Act.put, List.setIfInBounds_toArray, List.set_cons_zero, List.set_cons_succ, i64_w, i32_w]
              rfl
            refine pure_ (i := 7) (N := some 37) (v := ?_) (a' := ?_) #[true, false, true, false, true, false, false, true, false, false, false, false, false, false, false, false, false, false, false, false, false, false, false, false] rfl rfl (by kernel_rfl) (fun _ _ _ h => h) (Or.inl ⟨by rfl, ?_⟩) ?_ ?_
            rotate_left
            · intro w'
              go_simp
              with_reducible rfl
            rotate_left
            · simp only [Act.put, List.setIfInBounds_toArray, List.set_cons_zero, List.set_cons_succ, i64_w, i32_w]
              rfl
            refine pure_ (i := 11) (N := some 41) (v := ?_) (a' := ?_) #[true, false, true, false, true, false, false, true, false, false, false, true, false, false, false, false, false, false, false, false, false, false, false, false] rfl rfl (by kernel_rfl) (fun _ _ _ h => h) (Or.inl ⟨by rfl, ?_⟩) ?_ ?_
            rotate_left
            · intro w'
              go_simp
              with_reducible rfl
            rotate_left
            · simp only [Act.put, List.setIfInBounds_toArray, List.set_cons_zero, List.set_cons_succ, i64_w, i32_w]
              rfl
            refine pure_ (i := 13) (N := some 43) (v := ?_) (a' := ?_) #[true, false, true, false, true, false, false, true, false, false, false, true, false, true, false, false, false, false, false, false, false, false, false, false] rfl rfl (by kernel_rfl) (fun _ _ _ h => h) (Or.inl ⟨by rfl, ?_⟩) ?_ ?_
            rotate_left
            · intro w'
              go_simp
              with_reducible rfl
            rotate_left
            · simp only [Act.put, List.setIfInBounds_toArray, List.set_cons_zero, List.set_cons_succ, i64_w, i32_w]
              rfl
            refine pure_ (i := 17) (N := some 47) (v := ?_) (a' := ?_) #[true, false, true, false, true, false, false, true, false, false, false, true, false, true, false, false, false, true, false, false, false, false, false, false] rfl rfl (by kernel_rfl) (fun _ _ _ h => h) (Or.inl ⟨by rfl, ?_⟩) ?_ ?_
            rotate_left
            · intro w'
              go_simp
              with_reducible rfl
            rotate_left
            · simp only [Act.put, List.setIfInBounds_toArray, List.set_cons_zero, List.set_cons_succ, i64_w, i32_w]
              rfl
            refine pure_ (i := 19) (N := some 49) (v := ?_) (a' := ?_) #[true, false, true, false, true, false, false, true, false, false, false, true, false, true, false, false, false, true, false, true, false, false, false, false] rfl rfl (by kernel_rfl) (fun _ _ _ h => h) (Or.inl ⟨by rfl, ?_⟩) ?_ ?_
            rotate_left
            · intro w'
              go_simp
              with_reducible rfl
            rotate_left
            · simp only [Act.put, List.setIfInBounds_toArray, List.set_cons_zero, List.set_cons_succ, i64_w, i32_w]
              rfl
            refine take_ (i := 1) (N := some 31) (v := ?_) (a' := ?_) #[true, true, true, false, true, false, false, true, false, false, false, true, false, true, false, false, false, true, false, true, false, false, false, false] rfl rfl (by kernel_rfl) (fun _ _ _ h => h) (Or.inl ⟨by rfl, ?_⟩) hHeld ?_ ?_
            rotate_left
            · rintro w' ⟨s0, s1, s2, s3, s4, s5, s6, s7⟩
              go_simp
              with_reducible rfl
            rotate_left
            · simp only [Act.put, List.setIfInBounds_toArray, List.set_cons_zero, List.set_cons_succ, i64_w, i32_w]
              rfl
            refine take_ (i := 3) (N := some 33) (v := ?_) (a' := ?_) #[true, true, true, true, true, false, false, true, false, false, false, true, false, true, false, false, false, true, false, true, false, false, false, false] rfl rfl (by kernel_rfl) (fun _ _ _ h => h) (Or.inl ⟨by rfl, ?_⟩) hHeld ?_ ?_
            rotate_left
            · rintro w' ⟨s0, s1, s2, s3, s4, s5, s6, s7⟩
              go_simp
              with_reducible rfl
            rotate_left
            · simp only [Act.put, List.setIfInBounds_toArray, List.set_cons_zero, List.set_cons_succ, i64_w, i32_w]
              rfl
            refine take_ (i := 5) (N := some 35) (v := ?_) (a' := ?_) #[true, true, true, true, true, true, false, true, false, false, false, true, false, true, false, false, false, true, false, true, false, false, false, false] rfl rfl (by kernel_rfl) (fun _ _ _ h => h) (Or.inl ⟨by rfl, ?_⟩) hHeld ?_ ?_
            rotate_left
            · rintro w' ⟨s0, s1, s2, s3, s4, s5, s6, s7⟩
              go_simp
              with_reducible rfl
            rotate_left
            · simp only [Act.put, List.setIfInBounds_toArray, List.set_cons_zero, List.set_cons_succ, i64_w, i32_w]
              rfl
            refine take_ (i := 8) (N := some 38) (v := ?_) (a' := ?_) #[true, true, true, true, true, true, false, true, true, false, false, true, false, true, false, false, false, true, false, true, false, false, false, false] rfl rfl (by kernel_rfl) (fun _ _ _ h => h) (Or.inl ⟨by rfl, ?_⟩) hHeld ?_ ?_
            rotate_left
            · rintro w' ⟨s0, s1, s2, s3, s4, s5, s6, s7⟩
              go_simp
              with_reducible rfl
            rotate_left
            · simp only [Act.put, List.setIfInBounds_toArray, List.set_cons_zero, List.set_cons_succ, i64_w, i32_w]
              rfl
            refine take_ (i := 12) (N := some 42) (v := ?_) (a' := ?_) #[true, true, true, true, true, true, false, true, true, false, false, true, true, true, false, false, false, true, false, true, false, false, false, false] rfl rfl (by kernel_rfl) (fun _ _ _ h => h) (Or.inl ⟨by rfl, ?_⟩) hHeld ?_ ?_
            rotate_left
            · rintro w' ⟨s0, s1, s2, s3, s4, s5, s6, s7⟩
              go_simp
              with_reducible rfl
            rotate_left
            · simp only [Act.put, List.setIfInBounds_toArray, List.set_cons_zero, List.set_cons_succ, i64_w, i32_w]
              rfl
            refine take_ (i := 14) (N := some 44) (v := ?_) (a' := ?_) #[true, true, true, true, true, true, false, true, true, false, false, true, true, true, true, false, false, true, false, true, false, false, false, false] rfl rfl (by kernel_rfl) (fun _ _ _ h => h) (Or.inl ⟨by rfl, ?_⟩) hHeld ?_ ?_
            rotate_left
            · rintro w' ⟨s0, s1, s2, s3, s4, s5, s6, s7⟩
              go_simp
              with_reducible rfl
            rotate_left
            · simp only [Act.put, List.setIfInBounds_toArray, List.set_cons_zero, List.set_cons_succ, i64_w, i32_w]
              rfl
            refine pure_ (i := 15) (N := some 45) (v := ?_) (a' := ?_) #[true, true, true, true, true, true, false, true, true, false, false, true, true, true, true, true, false, true, false, true, false, false, false, false] rfl rfl (by kernel_rfl) (fun _ _ _ h => h) (Or.inl ⟨by rfl, ?_⟩) ?_ ?_
            rotate_left
            · intro w'
              go_simp
              with_reducible rfl
            rotate_left
            · simp only [Act.put, List.setIfInBounds_toArray, List.set_cons_zero, List.set_cons_succ, i64_w, i32_w]
              rfl
            refine pure_ (i := 16) (N := some 46) (v := ?_) (a' := ?_) #[true, true, true, true, true, true, false, true, true, false, false, true, true, true, true, true, true, true, false, true, false, false, false, false] rfl rfl (by kernel_rfl) (fun _ _ _ h => h) (Or.inl ⟨by rfl, ?_⟩) ?_ ?_
            rotate_left
            · intro w'
              go_simp
              with_reducible rfl
            rotate_left
            · simp only [Act.put, List.setIfInBounds_toArray, List.set_cons_zero, List.set_cons_succ, i64_w, i32_w]
              rfl
            refine take_ (i := 18) (N := some 48) (v := ?_) (a' := ?_) #[true, true, true, true, true, true, false, true, true, false, false, true, true, true, true, true, true, true, true, true, false, false, false, false] rfl rfl (by kernel_rfl) (fun _ _ _ h => h) (Or.inl ⟨by rfl, ?_⟩) hHeld ?_ ?_
            rotate_left
            · rintro w' ⟨s0, s1, s2, s3, s4, s5, s6, s7⟩
              go_simp
              with_reducible rfl
            rotate_left
            · simp only [Act.put, List.setIfInBounds_toArray, List.set_cons_zero, List.set_cons_succ, i64_w, i32_w]
              rfl
            refine take_ (i := 20) (N := some 50) (v := ?_) (a' := ?_) #[true, true, true, true, true, true, false, true, true, false, false, true, true, true, true, true, true, true, true, true, true, false, false, false] rfl rfl (by kernel_rfl) (fun _ _ _ h => h) (Or.inl ⟨by rfl, ?_⟩) hHeld ?_ ?_
            rotate_left
            · rintro w' ⟨s0, s1, s2, s3, s4, s5, s6, s7⟩
              go_simp
              with_reducible rfl
            rotate_left
            · simp only [Act.put, List.setIfInBounds_toArray, List.set_cons_zero, List.set_cons_succ, i64_w, i32_w]
              rfl
            refine one_ (i := 6) (N := some 36) #[true, true, true, true, true, true, true, true, true, false, false, true, true, true, true, true, true, true, true, true, true, false, false, false] rfl rfl (by kernel_rfl) (by decide) (fun K hK => ?_)
            refine goes_ Try.func16 (by kernel_rfl) rfl #[.agg #[.int .i64 (own_ own n).x, .int .i64 (own_ own n).y], .int .i64 q.s] (by rfl) rfl rfl (by simp only [List.map_toArray, List.map_cons, List.map_nil]; rfl) ?_
            with_reducible refine (vec_Scale.calls k (own_ own n).x (own_ own n).y q.s sx sy _ F1.out).mono ?_
            rintro e w7 ⟨rfl, hb⟩
            refine ⟨_, rfl, ?_⟩
            have B62 := Aside0.mk (blk_below B62.out hb)
            have B42 := Aside0.mk (blk_below B42.out hb)
            have B52 := Aside0.mk (blk_below B52.out hb)
            have HB2 := Aside0.mk (below_step HB2.out hb)
            clear hb
            refine hK.out _ _ ⟨(blk_cell B62.out 0).trans rfl, (blk_cell B62.out 1).trans rfl, (blk_cell B62.out 2).trans rfl, (blk_cell B62.out 3).trans rfl, (blk_cell B52.out 0).trans rfl, (blk_cell B52.out 1).trans rfl, (blk_cell B52.out 2).trans rfl, (blk_cell B52.out 3).trans rfl⟩ (fun hHeld => ?_)
            clear hK K
            refine norm_ (a' := ?_) ?_ ?_
            rotate_left
            · show Act.put _ (some 36) _ = _
              simp only [Act.put, List.setIfInBounds_toArray, List.set_cons_zero, List.set_cons_succ, i64_w, i32_w]
              rfl
            refine one_ (i := 9) (N := some 39) #[true, true, true, true, true, true, true, true, true, true, false, true, true, true, true, true, true, true, true, true, true, false, false, false] rfl rfl (by kernel_rfl) (by decide) (fun K hK => ?_)
            refine goes_ Try.func50 (by kernel_rfl) rfl #[.agg #[.int .i64 sx, .int .i64 sy], .int .i64 q.a] (by rfl) rfl rfl (by simp only [List.map_toArray, List.map_cons, List.map_nil]; rfl) ?_
            with_reducible refine (vec_Turn.calls k sx sy q.a tx ty _ F2.out).mono ?_
            rintro e w8 ⟨rfl, hb⟩
            refine ⟨_, rfl, ?_⟩
            have B62 := Aside0.mk (blk_below B62.out hb)
            have B42 := Aside0.mk (blk_below B42.out hb)
            have B52 := Aside0.mk (blk_below B52.out hb)
            have HB2 := Aside0.mk (below_step HB2.out hb)
            clear hb
            refine hK.out _ _ ⟨(blk_cell B62.out 0).trans rfl, (blk_cell B62.out 1).trans rfl, (blk_cell B62.out 2).trans rfl, (blk_cell B62.out 3).trans rfl, (blk_cell B52.out 0).trans rfl, (blk_cell B52.out 1).trans rfl, (blk_cell B52.out 2).trans rfl, (blk_cell B52.out 3).trans rfl⟩ (fun hHeld => ?_)
            clear hK K
            refine norm_ (a' := ?_) ?_ ?_
            rotate_left
            · show Act.put _ (some 39) _ = _
              simp only [Act.put, List.setIfInBounds_toArray, List.set_cons_zero, List.set_cons_succ, i64_w, i32_w]
              rfl
            refine one_ (i := 10) (N := some 40) #[true, true, true, true, true, true, true, true, true, true, true, true, true, true, true, true, true, true, true, true, true, false, false, false] rfl rfl (by kernel_rfl) (by decide) (fun K hK => ?_)
            refine goes_ Try.func15 (by kernel_rfl) rfl #[.agg #[.int .i64 q.x, .int .i64 q.y], .agg #[.int .i64 tx, .int .i64 ty]] (by rfl) rfl rfl (by simp only [List.map_toArray, List.map_cons, List.map_nil]; rfl) ?_
            with_reducible refine (vec_Add.calls q.x q.y tx ty ax ay _ F3.out).mono ?_
            rintro e w9 ⟨rfl, hb⟩
            refine ⟨_, rfl, ?_⟩
            have B62 := Aside0.mk (blk_below B62.out hb)
            have B42 := Aside0.mk (blk_below B42.out hb)
            have B52 := Aside0.mk (blk_below B52.out hb)
            have HB2 := Aside0.mk (below_step HB2.out hb)
            clear hb
            refine hK.out _ _ ⟨(blk_cell B62.out 0).trans rfl, (blk_cell B62.out 1).trans rfl, (blk_cell B62.out 2).trans rfl, (blk_cell B62.out 3).trans rfl, (blk_cell B52.out 0).trans rfl, (blk_cell B52.out 1).trans rfl, (blk_cell B52.out 2).trans rfl, (blk_cell B52.out 3).trans rfl⟩ (fun hHeld => ?_)
            clear hK K
            refine norm_ (a' := ?_) ?_ ?_
            rotate_left
            · show Act.put _ (some 40) _ = _
              simp only [Act.put, List.setIfInBounds_toArray, List.set_cons_zero, List.set_cons_succ, i64_w, i32_w]
              rfl
            refine one_ (i := 21) (N := some 51) #[true, true, true, true, true, true, true, true, true, true, true, true, true, true, true, true, true, true, true, true, true, true, false, false] rfl rfl (by kernel_rfl) (by decide) (fun K hK => ?_)
            refine goes_ Try.func43 (by kernel_rfl) rfl #[.int .i64 q.s, .int .i64 (own_ own n).s] (by rfl) rfl rfl (by simp only [List.map_toArray, List.map_cons, List.map_nil]; rfl) ?_
            with_reducible refine (fix_Mul.calls k q.s (own_ own n).s ms _ F4.out).mono ?_
            rintro e w10 ⟨rfl, hb⟩
            refine ⟨_, rfl, ?_⟩
            have B62 := Aside0.mk (blk_below B62.out hb)
            have B42 := Aside0.mk (blk_below B42.out hb)
            have B52 := Aside0.mk (blk_below B52.out hb)
            have HB2 := Aside0.mk (below_step HB2.out hb)
            clear hb
            refine hK.out _ _ ⟨(blk_cell B62.out 0).trans rfl, (blk_cell B62.out 1).trans rfl, (blk_cell B62.out 2).trans rfl, (blk_cell B62.out 3).trans rfl, (blk_cell B52.out 0).trans rfl, (blk_cell B52.out 1).trans rfl, (blk_cell B52.out 2).trans rfl, (blk_cell B52.out 3).trans rfl⟩ (fun hHeld => ?_)
            clear hK K
            refine norm_ (a' := ?_) ?_ ?_
            rotate_left
            · show Act.put _ (some 51) _ = _
              simp only [Act.put, List.setIfInBounds_toArray, List.set_cons_zero, List.set_cons_succ, i64_w, i32_w]
              rfl
            refine pure_ (i := 22) (N := some 52) (v := ?_) (a' := ?_) #[true, true, true, true, true, true, true, true, true, true, true, true, true, true, true, true, true, true, true, true, true, true, true, false] rfl rfl (by kernel_rfl) (fun _ _ _ h => h) (Or.inl ⟨by rfl, ?_⟩) ?_ ?_
            rotate_left
            · intro w'
              go_simp
              with_reducible rfl
            rotate_left
            · simp only [Act.put, List.setIfInBounds_toArray, List.set_cons_zero, List.set_cons_succ, i64_w, i32_w]
              rfl
            refine last_ (i := 23) (N := none) #[true, true, true, true, true, true, true, true, true, true, true, true, true, true, true, true, true, true, true, true, true, true, true, true] rfl rfl (by kernel_rfl) (by decide) (fun K hK => ?_)
            obtain ⟨ca0, ca1, ca2, ca3⟩ := four B42.out
            have cb0 := blk_frozen B42.out 0
            have cb1 := blk_frozen B42.out 1
            have cb2 := blk_frozen B42.out 2
            have cb3 := blk_frozen B42.out 3
            refine skip_ (w1 := ?_) (by rfl) rfl ?_ ?_
            rotate_left
            · go_simp
              rfl
            clear ca0 cb0 ca1 cb1 ca2 cb2 ca3 cb3
            refine hK.out _ _ ?_
            clear hK K
            refine done_ (by kernel_rfl) ?_
            go_wp2
            refine bodyPost_ret (results_cell_row rfl _ _ g4 tP #[.int .i64 ax, .int .i64 ay, .int .i64 (Go.bits .and .i64 (wrap64 (q.a + (own_ own n).a)) 65535), .int .i64 ms] (0, 0) _ rfl (put4 B42.out _ _ _ _) Try.underlying52 rfl (by kernel_rfl)) rfl ?_
            refine ⟨?_, below_set (below_set (below_set (below_set HB2.out L4.out) L4.out) L4.out) L4.out⟩
            rw [PP.out.1, PP.out.2.1, PP.out.2.2.1, PP.out.2.2.2]
          · rw [if_neg cu] at h'
            obtain rfl : own_ own n = p := Option.some.inj h'
            have cub : decide (rd up n < 0) = true := decide_eq_true (by omega)
            clear h' cu
            obtain ⟨z0, z1, z2, z3⟩ := four B51.out
            obtain ⟨o0, o1, o2, o3⟩ := four B41.out
            have y0 := blk_frozen B41.out 0
            have y1 := blk_frozen B41.out 1
            have y2 := blk_frozen B41.out 2
            have y3 := blk_frozen B41.out 3
            go_wp2
            refine bodyPost_ret (results_cell_row rfl _ _ g4 tP #[.int .i64 (own_ own n).x, .int .i64 (own_ own n).y, .int .i64 (own_ own n).a, .int .i64 (own_ own n).s] (0, 0) _ rfl (put4 B41.out _ _ _ _) Try.underlying52 rfl (by kernel_rfl)) rfl ?_
            exact ⟨rfl, below_set (below_set (below_set (below_set HB1.out L4.out) L4.out) L4.out) L4.out⟩
set_option maxHeartbeats 8000000 in
set_option maxRecDepth 100000 in
theorem below_yes {c0 c1 : Nat} {up : List Int} {own : List Pl} {r : Nat → Nat} (hb0 : ∀ i : Nat, i < up.length → -1 ≤ rd up i ∧ rd up i < up.length) (hr0 : ∀ i : Nat, i < up.length → 0 ≤ rd up i → r (rd up i).toNat < r i) (n : Nat) (u : Int) (hu1 : u < up.length) (ha : AncI up n u) (A0 A1 : Option Addr) (w : World) (hN : ND w A0 A1 up own) :
    Calls Try.prog 55 #[.agg #[.slice A0 up.length c0, .slice A1 own.length c1], .int .i64 u, .int .i64 n] w fun e w' => e = .returned (.bool true) ∧ Below w.heap.size w w' := by
  have hu66 := Try.underlying66
  have BB := Aside0.mk hb0
  have RR := Aside0.mk hr0
  have NH := Aside0.mk hN
  have HA := Aside0.mk ha
  have HU := Aside0.mk hu1
  clear hb0 hr0 hN ha hu1
  go_enter Try.func55, Try.ntmps55
  go_upto_region 0 with fail
  go_cut [3] (fun v3 w' => ∃ g3 : Nat, v3 = .pointer (some ⟨g3, 0, none⟩) ∧ w'.heap[g3]? = some (.cells #[.slice A0 up.length c0, .slice A1 own.length c1] tN (0, 0)) ∧ Below w.heap.size w w')
  case first =>
    go_wp2_with fail
    go_meet
    exact ⟨_, rfl, blk_new _ _, below_alloc (Below.refl _ _) _⟩
  case rest =>
    obtain ⟨g3, rfl, B3, hb⟩ := hcut
    have HB := Aside0.mk hb
    have B3 := Aside0.mk B3
    clear hb
    go_wp2
    go_loopg [1] (r u.toNat + 1) (fun kq v1 wr => ∃ k : Nat, v1 = .int .i64 (k : Int) ∧ Aside0 (k < up.length) ∧ Aside0 (AncI up n k) ∧ Aside0 (r k < kq) ∧ wr = wc)
    case atStart => exact ⟨u.toNat, congrArg (Value.int .i64) (by have := HA.out.1; omega), ⟨by have := HA.out.1; have := HU.out; omega⟩, ⟨by have := HA.out.1; rw [Int.toNat_of_nonneg this]; exact HA.out⟩, ⟨Nat.lt_succ_self _⟩, rfl⟩
    case round =>
      obtain ⟨k, rfl, HK, HNN, HR, rfl⟩ := hrel
      have d1 : decide ((k : Int) ≥ 0) = true := decide_eq_true (by omega)
      by_cases hkn : k = n
      · subst hkn
        have d2 : ((k : Int) == (k : Int)) = true := beq_iff_eq.mpr rfl
        go_wp2
        go_ret
        exact ⟨rfl, HB.out⟩
      · have d2 : ((k : Int) == (n : Int)) = false := beq_eq_false_iff_ne.mpr (by omega)
        have d3 : (k == n) = false := beq_eq_false_iff_ne.mpr hkn
        have d4 : ((0 : Int) ≤ (k : Int)) = True := eq_true (by omega)
        have d5 : ((k : Int) < (up.length : Int)) = True := eq_true (by have := HK.out; omega)
        have d6 : (k < up.length) = True := eq_true HK.out
        obtain ⟨b0, rfl, e1⟩ := (NH.out.below HB.out).u k HK.out
        obtain ⟨e0, _⟩ := two2 B3.out
        obtain ⟨z, hz⟩ : ∃ z, rd up k = z := ⟨_, rfl⟩
        rw [hz] at e1
        have hA := anc_down HNN.out hkn
        rw [hz] at hA
        obtain ⟨j, rfl⟩ := Int.eq_ofNat_of_zero_le hA.1
        have HA2 := Aside0.mk hA
        have HZ := Aside0.mk hz
        clear hA hz hkn
        cases gk with
        | zero => exact absurd HR.out (Nat.not_lt_zero _)
        | succ ky =>
          go_wp2
          go_roundg ky
          case measure => exact Nat.lt_succ_self _
          case rel =>
            have h2 := BB.out k HK.out
            have h3 := RR.out k HK.out (by rw [HZ.out]; omega)
            rw [HZ.out] at h2 h3
            exact ⟨j, rfl, ⟨by omega⟩, HA2, ⟨by have := HR.out; rw [Int.toNat_natCast] at h3; omega⟩, rfl⟩
set_option maxHeartbeats 8000000 in
set_option maxRecDepth 100000 in
theorem below_no {c0 c1 : Nat} {up : List Int} {own : List Pl} {r : Nat → Nat} (hb0 : ∀ i : Nat, i < up.length → -1 ≤ rd up i ∧ rd up i < up.length) (hr0 : ∀ i : Nat, i < up.length → 0 ≤ rd up i → r (rd up i).toNat < r i) (n : Nat) (u : Int) (hu1 : u < up.length) (ha : ¬ AncI up n u) (A0 A1 : Option Addr) (w : World) (hN : ND w A0 A1 up own) :
    Calls Try.prog 55 #[.agg #[.slice A0 up.length c0, .slice A1 own.length c1], .int .i64 u, .int .i64 n] w fun e w' => e = .returned (.bool false) ∧ Below w.heap.size w w' := by
  have hu66 := Try.underlying66
  have BB := Aside0.mk hb0
  have RR := Aside0.mk hr0
  have NH := Aside0.mk hN
  have HA := Aside0.mk ha
  have HU := Aside0.mk hu1
  clear hb0 hr0 hN ha hu1
  go_enter Try.func55, Try.ntmps55
  go_upto_region 0 with fail
  go_cut [3] (fun v3 w' => ∃ g3 : Nat, v3 = .pointer (some ⟨g3, 0, none⟩) ∧ w'.heap[g3]? = some (.cells #[.slice A0 up.length c0, .slice A1 own.length c1] tN (0, 0)) ∧ Below w.heap.size w w')
  case first =>
    go_wp2_with fail
    go_meet
    exact ⟨_, rfl, blk_new _ _, below_alloc (Below.refl _ _) _⟩
  case rest =>
    obtain ⟨g3, rfl, B3, hb⟩ := hcut
    have HB := Aside0.mk hb
    have B3 := Aside0.mk B3
    clear hb
    go_wp2
    go_loopg [1] (if 0 ≤ u then r u.toNat + 1 else 0) (fun kq v1 wr => ∃ k : Int, v1 = .int .i64 k ∧ Aside0 (k < up.length) ∧ Aside0 (¬ AncI up n k) ∧ Aside0 (0 ≤ k → r k.toNat < kq) ∧ wr = wc)
    case atStart => exact ⟨u, rfl, HU, HA, ⟨fun h => by rw [if_pos h]; exact Nat.lt_succ_self _⟩, rfl⟩
    case round =>
      obtain ⟨k, rfl, HK, HNN, HR, rfl⟩ := hrel
      by_cases hk0 : 0 ≤ k
      · obtain ⟨k, rfl⟩ := Int.eq_ofNat_of_zero_le hk0
        have d1 : decide ((k : Int) ≥ 0) = true := decide_eq_true (by omega)
        have hkl : k < up.length := by have := HK.out; omega
        have hkn : k ≠ n := fun e => HNN.out (e ▸ anc_here _ _)
        have d2 : ((k : Int) == (n : Int)) = false := beq_eq_false_iff_ne.mpr (by omega)
        have d3 : (k == n) = false := beq_eq_false_iff_ne.mpr hkn
        have d4 : ((0 : Int) ≤ (k : Int)) = True := eq_true (by omega)
        have d5 : ((k : Int) < (up.length : Int)) = True := eq_true (by omega)
        have d6 : (k < up.length) = True := eq_true hkl
        obtain ⟨b0, rfl, e1⟩ := (NH.out.below HB.out).u k hkl
        obtain ⟨e0, _⟩ := two2 B3.out
        obtain ⟨z, hz⟩ : ∃ z, rd up k = z := ⟨_, rfl⟩
        rw [hz] at e1
        have HZ := Aside0.mk hz
        have HKL := Aside0.mk hkl
        clear hz hkn hkl
        cases gk with
        | zero => exact absurd (HR.out hk0) (Nat.not_lt_zero _)
        | succ ky =>
          clear hk0
          go_wp2
          go_roundg ky
          case measure => exact Nat.lt_succ_self _
          case rel =>
            have h2 := BB.out k HKL.out
            rw [HZ.out] at h2
            refine ⟨z, rfl, ⟨h2.2⟩, ⟨fun h => HNN.out (anc_up (by rw [HZ.out]; exact h))⟩, ⟨fun h => ?_⟩, rfl⟩
            have h3 := RR.out k HKL.out (by rw [HZ.out]; exact h)
            rw [HZ.out] at h3
            have h4 := HR.out (by omega)
            rw [Int.toNat_natCast] at h4
            omega
      · have d1 : decide (k ≥ 0) = false := decide_eq_false hk0
        have d2 : (0 ≤ k) = False := eq_false hk0
        clear hk0
        go_wp2
        go_ret
        exact ⟨rfl, HB.out⟩
end Go.Proofs.Ytdopeneehminaaa.GraphWhereGraphPlays
