/- cull.Seen over a few right things: the numbers of those whose boxes meet the view, sorted by their layers. Under the conditions that stand at it. -/
import Derived.Test.YtijochlkmkmhdaaLessMemCullLess
namespace Go.Proofs.Ytijochlkmkmhdaa.LessSeenCullLess
open Go Go.RowKit Go.Proofs.Ytijochlkmkmhdaa.Fnv Go.Proofs.YtijochlkmkmhdaaW.PrintWords Go.Proofs.YtijochlkmkmhdaaW.PrintLast Go.Proofs.YtijochlkmkmhdaaW.PrintMore Go.Proofs.Ytijochlkmkmhdaa.PCullLess Go.Proofs.Ytijochlkmkmhdaa.RasterCullLess Go.Proofs.Ytijochlkmkmhdaa.LessSortCullLess Go.Proofs.Ytijochlkmkmhdaa.LessMemCullLess
set_option linter.unusedVariables false
set_option linter.unusedSimpArgs false
abbrev kT := k33
abbrev rdT' := rd_T33
abbrev Al : Nat → Prop := fun _ => True
structure View where
  v0 : Int
  v1 : Int
  v2 : Int
  v3 : Int
def meetV (b : Int × Int × Int × Int) (v : View) : Bool := decide (mx b.1 v.v0 ≤ mn b.2.2.1 v.v2 ∧ mx b.2.1 v.v1 ≤ mn b.2.2.2 v.v3)
theorem meet_eq (b : Int × Int × Int × Int) (v : View) : cull_Meet.f b.1 b.2.1 b.2.2.1 b.2.2.2 v.v0 v.v1 v.v2 v.v3 = some (meetV b v) := by
  unfold cull_Meet.f meetV
  split
  · rename_i h; simp [h]
  · rename_i h; simp [h]
def seenU (L : List Th) (v : View) (n : Nat) : List Int := ((List.range n).map fun i : Nat => (i : Int)).filter fun i => meetV (boxV (rdT' L i).f3) v
theorem seenU_succ (L : List Th) (v : View) (n : Nat) : seenU L v (n + 1) = if meetV (boxV (rdT' L (n : Int)).f3) v = true then seenU L v n ++ [(n : Int)] else seenU L v n := by
  unfold seenU
  rw [List.range_succ, List.map_append, List.filter_append]
  by_cases h : meetV (boxV (rdT' L (n : Int)).f3) v = true
  · rw [if_pos h]; simp [h]
  · rw [if_neg h]; simp [h]
theorem seenU_in (L : List Th) (v : View) (n : Nat) : ∀ x ∈ seenU L v n, 0 ≤ x ∧ x < n := by
  intro x hx
  obtain ⟨h1, _⟩ := List.mem_filter.mp hx
  obtain ⟨j, hj, rfl⟩ := List.mem_map.mp h1
  have := List.mem_range.mp hj
  omega
theorem seenU_len (L : List Th) (v : View) (n : Nat) : (seenU L v n).length ≤ n := by
  unfold seenU
  refine Nat.le_trans (List.length_filter_le _ _) ?_
  simp
theorem cellB {w w' : World} (hb : Below w.heap.size w w') {p : Addr} {v : Value} (h : w.cell? p = some v) : w'.cell? p = some v := by
  have h2 := hb.block p.block (World.block_lt_of_cell? w _ h)
  rw [← h]
  simp [World.cell?, h2]
/-- A thing in its row. -/
theorem thing_at {W0 : World} {ok : Nat → Prop} {A : Option Addr} {L : List Th} (h : Kd.F kT W0 ok A L.length L) (i : Int) (h0 : 0 ≤ i) (h1 : i < L.length) : ∃ ad A3 c3, A = some ad ∧ (rdT' L i).f3.length ≤ c3 ∧ Kd.F k46 W0 ok A3 (rdT' L i).f3.length (rdT' L i).f3 ∧
    W0.cell? (ad.add (i.toNat * 4)) = some (.int .i64 (rdT' L i).f0) ∧ W0.cell? ⟨(ad.add (i.toNat * 4)).block, (ad.add (i.toNat * 4)).off + 1, none⟩ = some (.int .i64 (rdT' L i).f1) ∧ W0.cell? ⟨(ad.add (i.toNat * 4)).block, (ad.add (i.toNat * 4)).off + 2, none⟩ = some (.int .i64 (rdT' L i).f2) ∧ W0.cell? ⟨(ad.add (i.toNat * 4)).block, (ad.add (i.toNat * 4)).off + 3, none⟩ = some (.slice A3 (rdT' L i).f3.length c3) := by
  obtain ⟨ad, c, rfl, hl, hF, hc0, hok⟩ := Kd.F_get h z33 i h0 h1
  have hc : ∀ j u, c[j]? = some u → W0.cell? (ad.add (i.toNat * 4 + j)) = some u := hc0
  obtain ⟨A3, c3, rfl, l3, g3⟩ := k33_openF hF
  exact ⟨ad, A3, c3, rfl, l3, g3, hc 0 _ rfl, by rw [← add_field _ _ 1 (by omega)]; exact hc 1 _ rfl, by rw [← add_field _ _ 2 (by omega)]; exact hc 2 _ rfl, by rw [← add_field _ _ 3 (by omega)]; exact hc 3 _ rfl⟩
/-- A row of the call's own, as a block. -/
theorem rowI_of {w : World} {base : Nat} {ok : Nat → Prop} {A : Option Addr} {c : Nat} {l : List Int} (h : Kd.N (Kd.int .i64) 3 w base ok (.slice A l.length c) l) (hp : 0 < l.length) : ∃ g tl, A = some ⟨g, 0, none⟩ ∧ base ≤ g ∧ RowI w g l tl := by
  obtain ⟨g, cap, e, hg, hlt, cs, hcs⟩ := Kd.N_form h hp
  injection e with e1 _ _
  subst e1
  refine ⟨g, cs.toList.drop l.length, rfl, hg, ?_⟩
  have hC := (Kd.N_reads' h).2.2
  obtain ⟨_, _, h3⟩ := hC
  obtain ⟨ad, e, hc⟩ := h3 hp
  injection e with e
  subst e
  have hcell : ∀ j v, l[j]? = some v → cs[j]? = some (Value.int .i64 v) := fun j v hj => by
    obtain ⟨c', h1, h2, h4⟩ := hc j v hj
    have e2 : c' = [.int .i64 v] := h2
    have h5 := h4 0 (.int .i64 v) (by rw [e2]; rfl)
    have e3 : (Addr.add ⟨g, 0, none⟩ (j * (Kd.int .i64).sz + 0)) = ⟨g, j, none⟩ := by
      rw [show (Kd.int IntKind.i64).sz = 1 from rfl]
      unfold Addr.add
      split
      · next h0 => simp at h0; simp [h0]
      · simp
    rw [e3, blk_cell hcs] at h5
    exact h5
  have hl : l.length ≤ cs.size := by
    have := hcell (l.length - 1) (l[l.length - 1]'(by omega)) (List.getElem?_eq_getElem _)
    have := (Array.getElem?_eq_some_iff.1 this).1
    omega
  have e4 : cs.toList = l.map (Value.int .i64) ++ cs.toList.drop l.length := by
    conv => lhs; rw [← List.take_append_drop l.length cs.toList]
    congr 1
    refine List.ext_getElem? fun j => ?_
    by_cases hj : j < l.length
    · rw [List.getElem?_take_of_lt hj, List.getElem?_map, List.getElem?_eq_getElem hj, Array.getElem?_toList, hcell j l[j] (List.getElem?_eq_getElem hj)]
      rfl
    · rw [List.getElem?_eq_none (by rw [List.length_take]; omega), List.getElem?_eq_none (by rw [List.length_map]; omega)]
  unfold RowI
  rw [← e4, Array.toArray_toList]
  exact hcs
theorem RowI.C {w : World} {g : Nat} {l : List Int} {tl : List Value} (h : RowI w g l tl) (hl : l.length ≤ 1000) : Kd.C (Kd.int .i64) w (some ⟨g, 0, none⟩) l.length l := by
  refine ⟨rfl, by omega, fun _ => ⟨_, rfl, fun j x hj => ⟨[.int .i64 x], rfl, rfl, fun i u hi => ?_⟩⟩⟩
  match i, hi with
  | 0, hi =>
    injection hi with hi
    subst hi
    have e3 : (Addr.add ⟨g, 0, none⟩ (j * (Kd.int .i64).sz + 0)) = ⟨g, j, none⟩ := by
      rw [show (Kd.int IntKind.i64).sz = 1 from rfl]
      unfold Addr.add
      split
      · next h0 => simp at h0; simp [h0]
      · simp
    rw [e3]
    exact h.at hj
theorem fault_layer {t : Th} (h : faultV t = 0) : 0 ≤ t.f1 ∧ t.f1 ≤ 100 := by
  unfold faultV at h
  split at h
  · split at h
    · rename_i h1 h2
      exact h2.1
    · omega
  · omega
theorem rd_mem {L : List Th} {i : Int} (h0 : 0 ≤ i) (h1 : i < L.length) : rdT' L i ∈ L := by
  have hj : i.toNat < L.length := by omega
  have : rdT' L i = L[i.toNat] := by simp [rdT', rd_T33, List.getD_eq_getElem?_getD, List.getElem?_eq_getElem hj]
  rw [this]
  exact List.getElem_mem hj
set_option maxHeartbeats 8000000 in
set_option maxRecDepth 100000 in
theorem seen_any (L : List Th) (hL : L.length ≤ 6) (hok : ∀ t ∈ L, faultV t = 0) (A : Option Addr) (c : Nat) (v : View) {W : World} (hF : Kd.F kT W (fun k => k < W.heap.size) A L.length L) :
    Calls Try.prog 26 #[.slice A L.length c, .agg #[.int .i64 v.v0, .int .i64 v.v1, .int .i64 v.v2, .int .i64 v.v3]] W fun e w' => ∃ Ao co, e = .returned (.tuple #[.slice Ao (sortF (keyL L) (seenU L v L.length)).length co, .int .i64 0]) ∧ Kd.C (Kd.int .i64) w' Ao (sortF (keyL L) (seenU L v L.length)).length (sortF (keyL L) (seenU L v L.length)) ∧ Below W.heap.size W w' := by
  have HF := Aside0.mk hF
  have HOK := Aside0.mk hok
  obtain ⟨n, hn⟩ : ∃ n, L.length = n := ⟨_, rfl⟩
  have HL := Aside0.mk hn
  have H6 := Aside0.mk (show n ≤ 6 from by omega)
  have hgt : decide ((n : Int) > 400) = false := decide_eq_false (by omega)
  have HS := Aside0.mk (show (sortF (keyL L) (seenU L v L.length)).length = (seenU L v L.length).length from sortF_len _ _)
  rw [hn]
  clear hF hok hn hL
  go_enter Try.func26, Try.ntmps26
  go_upto_region 1 with (first | ((with_reducible refine gate_dst (N := 2) rfl ?_); refine box_event ?hg (N := 2) ?hd (cs := #[.slice A n c]) (t := 30) ?hr ?_; (case hd => rfl); (case hg => rfl); (case hr => first | (go_simp; done) | (go_simp; rfl)); intro g2 hg w1 hbox hb; have HB := Aside0.mk hb; have B2 := Aside0.mk hbox; clear hg hbox hb) | ((with_reducible refine gate_dst (N := 3) rfl ?_); refine box_event ?hg (N := 3) ?hd (cs := #[.int .i64 v.v0, .int .i64 v.v1, .int .i64 v.v2, .int .i64 v.v3]) (t := 57) ?hr ?_; (case hd => rfl); (case hg => rfl); (case hr => first | (go_simp; done) | (go_simp; rfl)); intro g3 hg w2 hbox hb; have HB := Aside0.mk (HB.out.trans (hb.mono HB.out.size)); have B2 := Aside0.mk (blk_below B2.out hb); have B3 := Aside0.mk hbox; clear hg hbox hb))
  have cb := (blk_cell B2.out 0).trans rfl
  go_wp2
  go_loopg [17] n (fun kq v17 wr => ∃ i : Int, v17 = .int .i64 i ∧ Aside0 (0 ≤ i ∧ i.toNat + kq = n) ∧ Aside0 (Below W.heap.size W wr) ∧ Aside0 (wr.heap[g2]? = some (.cells #[.slice A n c] 30 (0, 0))) ∧ Aside0 (wr.heap[g3]? = some (.cells #[.int .i64 v.v0, .int .i64 v.v1, .int .i64 v.v2, .int .i64 v.v3] 57 (0, 0))))
  case atStart => exact ⟨0, rfl, ⟨by omega, by omega⟩, HB, B2, B3⟩
  case round =>
    clear HB B2 B3 cb
    obtain ⟨i, rfl, HI, HB, B2, B3⟩ := hrel
    by_cases hi : i < (n : Int)
    · have h0 := HI.out.1
      have HIL := Aside0.mk hi
      obtain ⟨ad, A4, c4, rfl, hc4, hF4, x0, x1, x2, x3⟩ := thing_at (Kd.F_below HF.out HB.out) i h0 (by rw [HL.out]; exact hi)
      obtain ⟨t, ht⟩ : ∃ t, rdT' L i = t := ⟨_, rfl⟩
      obtain ⟨kc, hkc⟩ := check_ev (rdT' L i) (by have := fault_len (HOK.out _ (rd_mem h0 (by rw [HL.out]; exact hi))); omega)
      rw [HOK.out _ (rd_mem h0 (by rw [HL.out]; exact hi))] at hkc
      rw [ht] at hc4 hF4 x0 x1 x2 x3 hkc
      have HKC := Aside0.mk (hkc kc (Nat.le_refl _))
      have HC4 := Aside0.mk hc4
      have HF4 := Aside0.mk hF4
      have p0 := eq_true h0
      have q0 := eq_true hi
      have hib : decide (i < (n : Int)) = true := decide_eq_true hi
      have HW1 := Aside0.mk (show wrap64 (i + 1) = i + 1 from wrap_in (by omega) (by have := H6.out; omega))
      clear hi h0 hc4 hF4 hkc ht
      go_upto_region 6 with (first | ((with_reducible refine gate_dst (N := 7) rfl ?_); refine box_event ?hg (N := 7) ?hd (cs := #[.int .i64 0, .int .i64 0, .int .i64 0, .slice none 0 0]) (t := 33) ?hr ?_; (case hd => rfl); (case hg => rfl); (case hr => first | (go_simp; done) | (go_simp; rfl)); intro g7 hg w3 hbox hb; have HE := Aside0.mk hb; have GE := Aside0.mk (Nat.le_of_eq hg.symm); have BK := Aside0.mk hbox; clear hg hbox hb; have cz0 := (blk_cell BK.out 0).trans rfl; have fz0 := blk_frozen BK.out 0; have cz1 := (blk_cell BK.out 1).trans rfl; have fz1 := blk_frozen BK.out 1; have cz2 := (blk_cell BK.out 2).trans rfl; have fz2 := blk_frozen BK.out 2; have cz3 := (blk_cell BK.out 3).trans rfl; have fz3 := blk_frozen BK.out 3))
      have HE := Aside0.mk (show Below wr.heap.size wr ((((w3.setCell ⟨g7, 0, none⟩ (.int .i64 t.f0)).setCell ⟨g7, 1, none⟩ (.int .i64 t.f1)).setCell ⟨g7, 2, none⟩ (.int .i64 t.f2)).setCell ⟨g7, 3, none⟩ (.slice A4 t.f3.length c4)) from (((HE.out.setCell GE.out _).setCell GE.out _).setCell GE.out _).setCell GE.out _)
      have BK := Aside0.mk (show (((((w3.setCell ⟨g7, 0, none⟩ (.int .i64 t.f0)).setCell ⟨g7, 1, none⟩ (.int .i64 t.f1)).setCell ⟨g7, 2, none⟩ (.int .i64 t.f2)).setCell ⟨g7, 3, none⟩ (.slice A4 t.f3.length c4))).heap[g7]? = some (.cells #[.int .i64 t.f0, .int .i64 t.f1, .int .i64 t.f2, .slice A4 t.f3.length c4] 33 (0, 0)) from blk_put (blk_put (blk_put (blk_put BK.out 0 _ rfl) 1 _ rfl) 2 _ rfl) 3 _ rfl)
      have HB := Aside0.mk (HB.out.trans (HE.out.mono HB.out.size))
      have B2 := Aside0.mk (blk_below B2.out HE.out)
      have B3 := Aside0.mk (blk_below B3.out HE.out)
      have HF4 := Aside0.mk (Kd.F_below HF4.out HE.out)
      clear x0 x1 x2 x3 HE GE cz0 fz0 cz1 fz1 cz2 fz2 cz3 fz3
      generalize ((((w3.setCell ⟨g7, 0, none⟩ (.int .i64 t.f0)).setCell ⟨g7, 1, none⟩ (.int .i64 t.f1)).setCell ⟨g7, 2, none⟩ (.int .i64 t.f2)).setCell ⟨g7, 3, none⟩ (.slice A4 t.f3.length c4)) = w4 at HB B2 B3 BK HF4 ⊢
      have ct0 := (blk_cell BK.out 0).trans rfl
      have ct1 := (blk_cell BK.out 1).trans rfl
      have ct2 := (blk_cell BK.out 2).trans rfl
      have ct3 := (blk_cell BK.out 3).trans rfl
      go_wp2_with (first | ((with_reducible refine gate_callee (f := 27) rfl ?_); refine goesL_ (some 22) rfl rfl Try.func27 (by kernel_rfl) rfl #[.agg #[.int .i64 t.f0, .int .i64 t.f1, .int .i64 t.f2, .slice A4 t.f3.length c4]] rfl (by (simp only [List.map_toArray, List.map_cons, List.map_nil]); first | done | rfl) ?_; (refine (cull_Check.calls kc t.f0 t.f1 t.f2 A4 c4 t.f3 0 _ (Kd.F_now HF4.out) HC4.out HKC.out).mono ?_); rintro e w5 ⟨rfl, hb⟩; refine ⟨_, rfl, ?_⟩; have HB := Aside0.mk (HB.out.trans (hb.mono HB.out.size)); have B2 := Aside0.mk (blk_below B2.out hb); have B3 := Aside0.mk (blk_below B3.out hb); clear hb ct0 ct1 ct2 ct3 BK))
      cases gk with
      | zero => exact absurd HI.out.2 (by have := HIL.out; have := HI.out.1; omega)
      | succ kz =>
        go_wp2
        go_roundg kz
        case measure => omega
        case rel => exact ⟨i + 1, by rw [HW1.out], ⟨by have := HI.out; omega, by have := HI.out; omega⟩, HB, B2, B3⟩
    · have hib : decide (i < (n : Int)) = false := decide_eq_false hi
      have q0 : (i < (n : Int)) = False := eq_false hi
      clear hi HI
      have cb := (blk_cell B2.out 0).trans rfl
      go_wp2
      clear hib q0 cb
      go_loopg [9, 29] n (fun kq v9 v29 wr => ∃ (i : Int) (Ao : Option Addr) (co : Nat), v29 = .int .i64 i ∧ v9 = .slice Ao (seenU L v i.toNat).length co ∧ Aside0 (0 ≤ i ∧ i.toNat + kq = n) ∧ Aside0 (Below W.heap.size W wr) ∧ Aside0 (wr.heap[g2]? = some (.cells #[.slice A n c] 30 (0, 0))) ∧ Aside0 (wr.heap[g3]? = some (.cells #[.int .i64 v.v0, .int .i64 v.v1, .int .i64 v.v2, .int .i64 v.v3] 57 (0, 0))) ∧ Aside0 (Kd.N (Kd.int .i64) 3 wr W.heap.size Al (.slice Ao (seenU L v i.toNat).length co) (seenU L v i.toNat)))
      case atStart => exact ⟨0, none, 0, rfl, rfl, ⟨by omega, by omega⟩, HB, B2, B3, ⟨Kd.N_nil _ _ _ _ _⟩⟩
      case round =>
        clear HB B2 B3
        obtain ⟨i, Ao, co, rfl, rfl, HI, HB, B2, B3, HN⟩ := hrel
        by_cases hi : i < (n : Int)
        · have h0 := HI.out.1
          have HIL := Aside0.mk hi
          obtain ⟨ad, A4, c4, rfl, hc4, hF4, x0, x1, x2, x3⟩ := thing_at (Kd.F_below HF.out HB.out) i h0 (by rw [HL.out]; exact hi)
          obtain ⟨t, ht⟩ : ∃ t, rdT' L i = t := ⟨_, rfl⟩
          obtain ⟨kb, hkb⟩ := bounds_ev (rdT' L i) (HOK.out _ (rd_mem h0 (by rw [HL.out]; exact hi)))
          obtain ⟨mv, hmv⟩ : ∃ mv, meetV (boxV (rdT' L i).f3) v = mv := ⟨_, rfl⟩
          have hsucc := seenU_succ L v i.toNat
          rw [show ((i.toNat : Nat) : Int) = i from by omega, hmv] at hsucc
          have HSU := Aside0.mk (show seenU L v (i + 1).toNat = if mv = true then seenU L v i.toNat ++ [i] else seenU L v i.toNat from by rw [show (i + 1).toNat = i.toNat + 1 from by omega]; exact hsucc)
          rw [ht] at hc4 hF4 x0 x1 x2 x3 hkb hmv
          obtain ⟨⟨b0, b1, b2, b3⟩, hbx⟩ : ∃ b, boxV t.f3 = b := ⟨_, rfl⟩
          rw [hbx] at hkb hmv
          have HKB := Aside0.mk (hkb kb (Nat.le_refl _))
          have HMV := Aside0.mk (show cull_Meet.f b0 b1 b2 b3 v.v0 v.v1 v.v2 v.v3 = some mv from by rw [← hmv]; exact meet_eq (b0, b1, b2, b3) v)
          have HC4 := Aside0.mk hc4
          have HF4 := Aside0.mk hF4
          have p0 := eq_true h0
          have q0 := eq_true hi
          have hib : decide (i < (n : Int)) = true := decide_eq_true hi
          have HW1 := Aside0.mk (show wrap64 (i + 1) = i + 1 from wrap_in (by omega) (by have := H6.out; omega))
          have HLE := Aside0.mk (seenU_len L v i.toNat)
          clear hi h0 hc4 hF4 hkb ht hmv hbx hsucc
          go_upto_region 14 with (first | ((with_reducible refine gate_dst (N := 11) rfl ?_); refine box_event ?hg (N := 11) ?hd (cs := #[.int .i64 0, .int .i64 0, .int .i64 0, .slice none 0 0]) (t := 33) ?hr ?_; (case hd => rfl); (case hg => rfl); (case hr => first | (go_simp; done) | (go_simp; rfl)); intro g11 hg w3 hbox hb; have HE := Aside0.mk hb; have GE := Aside0.mk (Nat.le_of_eq hg.symm); have BK := Aside0.mk hbox; clear hg hbox hb; have cz0 := (blk_cell BK.out 0).trans rfl; have fz0 := blk_frozen BK.out 0; have cz1 := (blk_cell BK.out 1).trans rfl; have fz1 := blk_frozen BK.out 1; have cz2 := (blk_cell BK.out 2).trans rfl; have fz2 := blk_frozen BK.out 2; have cz3 := (blk_cell BK.out 3).trans rfl; have fz3 := blk_frozen BK.out 3))
          have HE := Aside0.mk (show Below wr.heap.size wr ((((w3.setCell ⟨g11, 0, none⟩ (.int .i64 t.f0)).setCell ⟨g11, 1, none⟩ (.int .i64 t.f1)).setCell ⟨g11, 2, none⟩ (.int .i64 t.f2)).setCell ⟨g11, 3, none⟩ (.slice A4 t.f3.length c4)) from (((HE.out.setCell GE.out _).setCell GE.out _).setCell GE.out _).setCell GE.out _)
          have BK := Aside0.mk (show (((((w3.setCell ⟨g11, 0, none⟩ (.int .i64 t.f0)).setCell ⟨g11, 1, none⟩ (.int .i64 t.f1)).setCell ⟨g11, 2, none⟩ (.int .i64 t.f2)).setCell ⟨g11, 3, none⟩ (.slice A4 t.f3.length c4))).heap[g11]? = some (.cells #[.int .i64 t.f0, .int .i64 t.f1, .int .i64 t.f2, .slice A4 t.f3.length c4] 33 (0, 0)) from blk_put (blk_put (blk_put (blk_put BK.out 0 _ rfl) 1 _ rfl) 2 _ rfl) 3 _ rfl)
          have HB := Aside0.mk (HB.out.trans (HE.out.mono HB.out.size))
          have B2 := Aside0.mk (blk_below B2.out HE.out)
          have B3 := Aside0.mk (blk_below B3.out HE.out)
          have HF4 := Aside0.mk (Kd.F_below HF4.out HE.out)
          have HN := Aside0.mk (Kd.N_below HN.out HE.out)
          clear x0 x1 x2 x3 HE GE cz0 fz0 cz1 fz1 cz2 fz2 cz3 fz3
          generalize ((((w3.setCell ⟨g11, 0, none⟩ (.int .i64 t.f0)).setCell ⟨g11, 1, none⟩ (.int .i64 t.f1)).setCell ⟨g11, 2, none⟩ (.int .i64 t.f2)).setCell ⟨g11, 3, none⟩ (.slice A4 t.f3.length c4)) = w4 at HB B2 B3 BK HF4 HN ⊢
          have HB := Aside0.mk (HB.out.trans ((Below.refl _ _).drew.mono HB.out.size))
          have B2 := Aside0.mk (blk_drew B2.out)
          have B3 := Aside0.mk (blk_drew B3.out)
          have BK := Aside0.mk (blk_drew BK.out)
          have HF4 := Aside0.mk (Kd.F_drew HF4.out)
          have HN := Aside0.mk (Kd.N_drew HN.out)
          refine start_ (n := 4) (S := fun w' => w'.cell? ⟨g11, 0, none⟩ = some (.int .i64 t.f0) ∧ w'.cell? ⟨g11, 1, none⟩ = some (.int .i64 t.f1) ∧ w'.cell? ⟨g11, 2, none⟩ = some (.int .i64 t.f2) ∧ w'.cell? ⟨g11, 3, none⟩ = some (.slice A4 t.f3.length c4) ∧ w'.cell? ⟨g3, 0, none⟩ = some (.int .i64 v.v0) ∧ w'.cell? ⟨g3, 1, none⟩ = some (.int .i64 v.v1) ∧ w'.cell? ⟨g3, 2, none⟩ = some (.int .i64 v.v2) ∧ w'.cell? ⟨g3, 3, none⟩ = some (.int .i64 v.v3)) (ds := []) #[false, false, false, false] (by kernel_rfl) rfl rfl ⟨(blk_cell BK.out 0).trans rfl, (blk_cell BK.out 1).trans rfl, (blk_cell BK.out 2).trans rfl, (blk_cell BK.out 3).trans rfl, (blk_cell B3.out 0).trans rfl, (blk_cell B3.out 1).trans rfl, (blk_cell B3.out 2).trans rfl, (blk_cell B3.out 3).trans rfl⟩ (fun hHeld => ?_)
          generalize w4.drew = wd at HB B2 B3 BK HF4 HN hHeld ⊢
          refine take_ (i := 0) (N := some 34) (v := ?_) (a' := ?_) #[true, false, false, false] rfl rfl (by kernel_rfl) (fun _ _ _ h => h) (Or.inl ⟨by rfl, ?_⟩) hHeld ?_ ?_
          rotate_left
          · rintro w' ⟨s0, s1, s2, s3, s4, s5, s6, s7⟩
            go_simp
            with_reducible rfl
          rotate_left
          · simp only [Act.put, List.setIfInBounds_toArray, List.set_cons_zero, List.set_cons_succ, i64_w, i32_w]
            rfl
          refine take_ (i := 2) (N := some 36) (v := ?_) (a' := ?_) #[true, false, true, false] rfl rfl (by kernel_rfl) (fun _ _ _ h => h) (Or.inl ⟨by rfl, ?_⟩) hHeld ?_ ?_
          rotate_left
          · rintro w' ⟨s0, s1, s2, s3, s4, s5, s6, s7⟩
            go_simp
            with_reducible rfl
          rotate_left
          · simp only [Act.put, List.setIfInBounds_toArray, List.set_cons_zero, List.set_cons_succ, i64_w, i32_w]
            rfl
          refine one_ (i := 1) (N := some 35) #[true, true, true, false] rfl rfl (by kernel_rfl) (by decide) (fun K hK => ?_)
          refine goes_ Try.func31 (by kernel_rfl) rfl #[.agg #[.int .i64 t.f0, .int .i64 t.f1, .int .i64 t.f2, .slice A4 t.f3.length c4]] (by rfl) rfl rfl (by simp only [List.map_toArray, List.map_cons, List.map_nil]; rfl) ?_
          with_reducible refine (cull_Bounds.calls kb t.f0 t.f1 t.f2 A4 c4 t.f3 b0 b1 b2 b3 _ (Kd.F_now HF4.out) HC4.out HKB.out).mono ?_
          rintro e w5 ⟨rfl, hb⟩
          refine ⟨_, rfl, ?_⟩
          have HB := Aside0.mk (HB.out.trans (hb.mono HB.out.size))
          have B2 := Aside0.mk (blk_below B2.out hb)
          have B3 := Aside0.mk (blk_below B3.out hb)
          have BK := Aside0.mk (blk_below BK.out hb)
          have HF4 := Aside0.mk (Kd.F_below HF4.out hb)
          have HN := Aside0.mk (Kd.N_below HN.out hb)
          clear hb
          refine hK.out _ _ ⟨(blk_cell BK.out 0).trans rfl, (blk_cell BK.out 1).trans rfl, (blk_cell BK.out 2).trans rfl, (blk_cell BK.out 3).trans rfl, (blk_cell B3.out 0).trans rfl, (blk_cell B3.out 1).trans rfl, (blk_cell B3.out 2).trans rfl, (blk_cell B3.out 3).trans rfl⟩ (fun hHeld => ?_)
          clear hK K
          refine norm_ (a' := ?_) ?_ ?_
          rotate_left
          · show Act.put _ (some 35) _ = _
            simp only [Act.put, List.setIfInBounds_toArray, List.set_cons_zero, List.set_cons_succ, i64_w, i32_w]
            rfl
          refine one_ (i := 3) (N := some 37) #[true, true, true, true] rfl rfl (by kernel_rfl) (by decide) (fun K hK => ?_)
          refine goes_ Try.func45 (by kernel_rfl) rfl #[.agg #[.int .i64 b0, .int .i64 b1, .int .i64 b2, .int .i64 b3], .agg #[.int .i64 v.v0, .int .i64 v.v1, .int .i64 v.v2, .int .i64 v.v3]] (by rfl) rfl rfl (by simp only [List.map_toArray, List.map_cons, List.map_nil]; rfl) ?_
          with_reducible refine (cull_Meet.calls b0 b1 b2 b3 v.v0 v.v1 v.v2 v.v3 mv _ HMV.out).mono ?_
          rintro e w6 ⟨rfl, hb⟩
          refine ⟨_, rfl, ?_⟩
          have HB := Aside0.mk (HB.out.trans (hb.mono HB.out.size))
          have B2 := Aside0.mk (blk_below B2.out hb)
          have B3 := Aside0.mk (blk_below B3.out hb)
          have BK := Aside0.mk (blk_below BK.out hb)
          have HF4 := Aside0.mk (Kd.F_below HF4.out hb)
          have HN := Aside0.mk (Kd.N_below HN.out hb)
          clear hb
          refine hK.out _ _ ⟨(blk_cell BK.out 0).trans rfl, (blk_cell BK.out 1).trans rfl, (blk_cell BK.out 2).trans rfl, (blk_cell BK.out 3).trans rfl, (blk_cell B3.out 0).trans rfl, (blk_cell B3.out 1).trans rfl, (blk_cell B3.out 2).trans rfl, (blk_cell B3.out 3).trans rfl⟩ (fun hHeld => ?_)
          clear hK K
          refine norm_ (a' := ?_) ?_ ?_
          rotate_left
          · show Act.put _ (some 37) _ = _
            simp only [Act.put, List.setIfInBounds_toArray, List.set_cons_zero, List.set_cons_succ, i64_w, i32_w]
            rfl
          refine done_ (by kernel_rfl) ?_
          clear BK
          cases gk with
          | zero => exact absurd HI.out.2 (by have := HIL.out; have := HI.out.1; omega)
          | succ kz =>
            cases mv with
            | false =>
              go_wp2
              go_roundg kz
              case measure => omega
              case rel =>
                have e := HSU.out
                rw [if_neg (by decide)] at e
                exact ⟨i + 1, Ao, co, by rw [HW1.out], by rw [e], ⟨by have := HI.out; omega, by have := HI.out; omega⟩, HB, B2, B3, ⟨by rw [e]; exact HN.out⟩⟩
            | true =>
              go_wp2_with (first | ((with_reducible refine gate_builtin (b := .append) (xs := #[.tmp 38, .tmp 40]) rfl ?_); at_builtin; refine Kd.N_append (Kd.int .i64) (w0 := W) W.heap.size rfl (.tmp 38) (.tmp 40) 34 3 (.int .i64 0) 8 rfl Try.underlying34 info3 rfl (by decide) (by omega) _ (seenU L v i.toNat) i [.int .i64 i] Al (fun _ => False) rfl rfl (fun _ _ => rfl) (fun _ h => h.elim) (fun _ _ => trivial) HN.out HB.out HB.out.size (by have := HLE.out; have := HIL.out; have := H6.out; omega) ?_; intro v1 w9 hN hb hg hat; obtain ⟨Ao', co', rfl⟩ := Kd.N_slice hN; have B2 := Aside0.mk (blk_grown B2.out hg (Kd.N_ne HN.out B2.out (by decide))); have B3 := Aside0.mk (blk_grown B3.out hg (Kd.N_ne HN.out B3.out (by decide))); have HN := Aside0.mk hN; have HB := Aside0.mk hb; clear hN hb hg hat))
              go_roundg kz
              case measure => omega
              case rel =>
                have e : seenU L v (i + 1).toNat = seenU L v i.toNat ++ [i] := by simpa using HSU.out
                exact ⟨i + 1, Ao', co', by rw [HW1.out], by rw [e]; simp, ⟨by have := HI.out; omega, by have := HI.out; omega⟩, HB, B2, B3, ⟨by rw [e]; exact HN.out⟩⟩
        · have hib : decide (i < (n : Int)) = false := decide_eq_false hi
          have q0 : (i < (n : Int)) = False := eq_false hi
          have HIN := Aside0.mk (show i.toNat = n from by have := HI.out; omega)
          clear hi HI
          rw [HIN.out] at HN ⊢
          rcases Nat.eq_zero_or_pos (seenU L v n).length with hz | hp
          · have HZ := Aside0.mk hz
            rw [hz]
            clear hz
            go_wp2_with (first | ((with_reducible refine gate_callee (f := 46) rfl ?_); refine goesL_ (some 45) rfl rfl Try.func46 (by kernel_rfl) rfl #[.slice Ao 0 co, .func (.func 47) #[] #[.pointer (some ⟨g2, 0, none⟩)]] rfl (by (simp only [List.map_toArray, List.map_cons, List.map_nil]); first | done | rfl) ?_; (refine (sort_zero Ao co).mono ?_); rintro e w9 ⟨rfl, hb⟩; refine ⟨_, rfl, ?_⟩; have HB9 := Aside0.mk hb; have HB := Aside0.mk (HB.out.trans (hb.mono HB.out.size)); clear hb))
            go_ret2
            have hnil : seenU L v L.length = [] := by rw [HL.out]; exact List.length_eq_zero_iff.mp HZ.out
            have hS : sortF (keyL L) (seenU L v n) = [] := by rw [← HL.out, hnil]; rfl
            refine ⟨Ao, co, by rw [hS]; rfl, ?_, HB.out⟩
            rw [hS]
            have h := (Kd.N_reads' HN.out).2.2
            rw [List.length_eq_zero_iff.mp HZ.out] at h
            exact Kd.C_below h HB9.out
          · obtain ⟨g, tl, rfl, hg, hrow⟩ := rowI_of HN.out hp
            have HG := Aside0.mk hg
            have HRW := Aside0.mk hrow
            have NG := Aside0.mk (show g2 ≠ g from fun e => Kd.N_ne HN.out B2.out (by decide) (by rw [e]; rfl))
            have HCM := Aside0.mk (show Cmp wr g 47 #[.pointer (some ⟨g2, 0, none⟩)] Try.f47 (keyL L) (fun x => 0 ≤ x ∧ x < L.length) from
              ⟨Try.func47, by kernel_rfl, rfl, fun w a b hk ha hb => seen_cmp L A c g2 (by rw [HL.out]; exact (blk_cell ((hk.block g2 (blk_lt B2.out) NG.out).trans B2.out) 0).trans rfl) (Kd.F_now (Kd.F_step (Kd.F_below HF.out HB.out) fun k h1 h2 => hk.block k h2 (by have := HG.out; omega))) a b ha hb (fun j h1 h2 => fault_layer (HOK.out _ (rd_mem h1 h2)))⟩)
            clear hg hrow hp
            go_wp2_with (first | ((with_reducible refine gate_callee (f := 46) rfl ?_); refine goesL_ (some 45) rfl rfl Try.func46 (by kernel_rfl) rfl #[.slice (some ⟨g, 0, none⟩) (seenU L v n).length co, .func (.func 47) #[] #[.pointer (some ⟨g2, 0, none⟩)]] rfl (by (simp only [List.map_toArray, List.map_cons, List.map_nil]); first | done | rfl) ?_; (refine (sort_any HCM.out (seenU L v n) tl HRW.out (fun x hx => by rw [HL.out]; exact seenU_in L v n x hx) (by have := seenU_len L v n; have := H6.out; omega) co).mono ?_); rintro e w9 ⟨rfl, hr, hk⟩; refine ⟨_, rfl, ?_⟩; have HR9 := Aside0.mk hr; have HK9 := Aside0.mk hk; clear hr hk))
            go_ret2
            have e1 : (seenU L v n).length = (sortF (keyL L) (seenU L v n)).length := (sortF_len _ _).symm
            refine ⟨some ⟨g, 0, none⟩, co, by rw [← e1]; rfl, RowI.C HR9.out (by rw [← e1]; have := seenU_len L v n; have := H6.out; omega), HB.out.trans (HK9.out.bel.mono HG.out)⟩
end Go.Proofs.Ytijochlkmkmhdaa.LessSeenCullLess
