/- flow.Field: what it hands back is what the least costs of ways are. Under the conditions that stand at each. -/
import Derived.Test.YtmpfboilodlfnaaFlowUp
import Derived.Test.YtmpfboilodlfnaaFlowSol
import Derived.Laws.MakeOwn
namespace Go.Proofs.Ytmpfboilodlfnaa.FlowField
open Go Go.RowKit Go.Proofs.Ytmpfboilodlfnaa.Fnv Go.Proofs.YtmpfboilodlfnaaW.PrintWords Go.Proofs.YtmpfboilodlfnaaW.PrintLast Go.Proofs.YtmpfboilodlfnaaW.PrintMore Go.Proofs.Ytmpfboilodlfnaa.FlowHeap Go.Proofs.Ytmpfboilodlfnaa.FlowMem Go.Proofs.Ytmpfboilodlfnaa.FlowUp Go.Proofs.Ytmpfboilodlfnaa.FlowSol
set_option linter.unusedVariables false
set_option linter.unusedSimpArgs false
theorem madeCells_one (v : Value) (hv : v.cells = #[v]) (n : Nat) : madeCells v.cells (n * 1) = (List.replicate n v).toArray := by
  rw [hv]
  apply Array.ext
  · simp [size_madeCells]
  · intro i h1 h2
    simp [madeCells, Nat.mod_one]
/-- A made row, whole. -/
theorem make_event {P : Program} {w : World} {ops : Array Oper} {rest : List Oper} {o : Oper} {a : Act} {Q : Exit → Act → World → Prop} (hgd : o.guard = none) {N : Tmp} (_hd : o.dst = some N) (t e : TypeId) (x y : Operand) (ho : o.op = .makeSlice t x y) (n : Nat) (m : Int) (hm : m = n) (hx : a.eval x = .int .i64 m) (hy : a.eval y = .int .i64 m)
    (ht : P.underlying t = some (.slice e)) (hinfo : (P.info? e).map (fun i => (i.zero, i.size, i.bytes)) = some (some (.int .i64 0), 1, 8)) (hn : n ≤ 1000000)
    (h : ∀ g, g = w.heap.size → ∀ w1, w1.heap[g]? = some (.cells ((List.replicate n (0 : Int)).map (Value.int .i64)).toArray e (0, 0)) → Below w.heap.size w w1 → wpList P ops Q rest (a.put o.dst (.slice (some ⟨g, 0, none⟩) n n)) w1) : wpList P ops Q (o :: rest) a w := by
  subst hm
  obtain ⟨i, hi, hzz⟩ := Option.map_eq_some_iff.1 hinfo
  simp only [Prod.mk.injEq] at hzz
  obtain ⟨hz, hs, hb⟩ := hzz
  have hr := run_make (P := P) w t e i _ ht hi hz .i64 .i64 (n : Int) (n : Int) (by omega) (by omega) (by rw [hb]; omega) (by omega)
  simp only [Int.toNat_natCast, hs] at hr
  rw [madeCells_one _ rfl] at hr
  refine Kd.event_run hgd (w1 := w.alloc (.cells (List.replicate n (Value.int .i64 0)).toArray e)) (v := .slice (some ⟨w.heap.size, 0, none⟩) n n) (by simp [execOp, ho, hx, hy, hr]) (h _ rfl _ ?_ (below_alloc (Below.refl _ _) _))
  rw [List.map_replicate]
  exact blk_new w _
/-- A row that a literal makes. -/
theorem slice_event {P : Program} {ops : Array Oper} {rest : List Oper} {o : Oper} {a : Act} {Q : Exit → Act → World → Prop} {W : World} (hgd : o.guard = none) {N : Tmp} (_hd : o.dst = some N) {cs : Array Value} {t : TypeId} {n : Nat}
    (hrun : (execOp a.eval o).run P W = .ok (.value (.slice (some ⟨W.heap.size, 0, none⟩) n n)) (W.alloc (.cells cs t (0, 0))))
    (h : ∀ g, g = W.heap.size → ∀ w1, w1.heap[g]? = some (.cells cs t (0, 0)) → Below W.heap.size W w1 → wpList P ops Q rest (a.put o.dst (.slice (some ⟨g, 0, none⟩) n n)) w1) : wpList P ops Q (o :: rest) a W :=
  Kd.event_run hgd hrun (h _ rfl _ (blk_new W _) (below_alloc (Below.refl _ _) _))
/-- A row of whole numbers that fills its block. -/
def RowI (w : World) (g : Nat) (l : List Int) : Prop := w.heap[g]? = some (.cells (l.map (Value.int .i64)).toArray 3 (0, 0))
theorem RowI.below {w w' : World} {g : Nat} {l : List Int} (h : RowI w g l) (hb : Below w.heap.size w w') : RowI w' g l := blk_below h hb
theorem RowI.set {w : World} {g : Nat} {l : List Int} (h : RowI w g l) (i : Nat) (v : Int) : RowI (w.setCell ⟨g, i, none⟩ (.int .i64 v)) g (l.set i v) := blk_put h i _ (by simp [List.map_set])
theorem RowI.at {w : World} {g : Nat} {l : List Int} (h : RowI w g l) {i : Int} (h0 : 0 ≤ i) (h1 : i < l.length) : w.cell? ⟨g, i.toNat, none⟩ = some (.int .i64 (rd l i)) := by
  refine (blk_cell h i.toNat).trans ?_
  rw [List.getElem?_toArray, List.getElem?_map, List.getElem?_eq_getElem (by omega)]
  unfold rd
  rw [List.getD_eq_getElem?_getD, List.getElem?_eq_getElem (by omega)]
  rfl
theorem R_blk {w : World} {base g : Nat} {m : List Int} (h : RowI w g m) (hb : base ≤ g) (hl : m.length ≤ 1000000) : Kd.R (Kd.int .i64) 3 w base (fun _ => True) (.slice (some ⟨g, 0, none⟩) m.length m.length) m := by
  refine Kd.R_of_own (enc := fun x => Value.int .i64 x) ⟨by simp [encs], Or.inr ⟨g, m.length, _, rfl, hb, h, Nat.le_refl _, by simp [maxLen]; omega, by simp, by simp [encs]; exact List.take_of_length_le (by simp)⟩⟩ ?_
  intro k hk
  trivial
theorem C_at {w : World} {A : Option Addr} {l : List Int} (h : Kd.C (Kd.int .i64) w A l.length l) (hn : 0 < l.length) : ∃ ad, A = some ad ∧ ∀ i : Int, 0 ≤ i → i < l.length → w.cell? (ad.add i.toNat) = some (.int .i64 (rd l i)) := by
  obtain ⟨ad, rfl, hc⟩ := h.2.2 (by omega)
  refine ⟨ad, rfl, fun i h0 h1 => ?_⟩
  obtain ⟨cs, hl, hK, hcell⟩ := hc i.toNat (rd l i) (by unfold rd; rw [List.getD_eq_getElem?_getD, List.getElem?_eq_getElem (by omega)]; rfl)
  have hcs : cs = [.int .i64 (rd l i)] := hK
  subst hcs
  have := hcell 0 _ rfl
  simpa [show (Kd.int IntKind.i64).sz = 1 from rfl] using this
/-- The memory of a call of Field, from where the heap is there on. -/
structure FS (W0 wr : World) (gb go gh B : Nat) (bc : Array Value) (out : List Int) (l : List Far) (v : Value) : Prop where
  bel : Below W0.heap.size W0 wr
  box : wr.heap[gb]? = some (.cells bc 25 (0, 0))
  row : RowI wr go out
  fa : FA wr gh B l v
  gbl : gb < B
  gol : go < B
  gb0 : W0.heap.size ≤ gb
  go0 : W0.heap.size ≤ go
  ne : gb ≠ go
section
variable {W0 wr w' : World} {gb go gh B : Nat} {bc : Array Value} {out : List Int} {l l' : List Far} {v v' : Value}
theorem FS.below (h : FS W0 wr gb go gh B bc out l v) (hb : Below wr.heap.size wr w') : FS W0 w' gb go gh B bc out l v :=
  ⟨h.bel.trans (hb.mono h.bel.size), blk_below h.box hb, h.row.below hb, h.fa.below hb, h.gbl, h.gol, h.gb0, h.go0, h.ne⟩
theorem FS.size (h : FS W0 wr gb go gh B bc out l v) : B ≤ wr.heap.size := h.fa.lt
theorem FS.ch (h : FS W0 wr gb go gh B bc out l v) (hf : FA w' gh B l' v') (hc : Ch B gh v v' wr w') : FS W0 w' gb go gh B bc out l' v' :=
  ⟨h.bel.trans (hc.bel.mono (by have := h.gbl; have := h.gb0; omega)), (hc.bel.block _ h.gbl).trans h.box, (hc.bel.block _ h.gol).trans h.row, hf, h.gbl, h.gol, h.gb0, h.go0, h.ne⟩
theorem FS.set (h : FS W0 wr gb go gh B bc out l v) (i : Nat) (x : Int) : FS W0 (wr.setCell ⟨go, i, none⟩ (.int .i64 x)) gb go gh B bc (out.set i x) l v := by
  refine ⟨h.bel.setCell h.go0 _, blk_far h.box h.ne _, h.row.set i x, ⟨blk_far h.fa.box (by have h1 := h.fa.le; have h2 := h.gol; show gh ≠ go; omega) _, own_setCell h.fa.row ?_ _, h.fa.le, h.fa.ne⟩, h.gbl, h.gol, h.gb0, h.go0, h.ne⟩
  intro e
  have h1 := own_base h.fa.row go e.symm
  have h2 := h.gol
  omega
theorem FS.far (h : FS W0 wr gb go gh B bc out l v) {gx : Nat} (h1 : B ≤ gx) (h2 : gx ≠ gh) (h3 : some gx ≠ v.ownBlock) (i : Nat) (x : Value) : FS W0 (wr.setCell ⟨gx, i, none⟩ x) gb go gh B bc out l v := by
  have hgb := h.gbl
  have hgo := h.gol
  have hgb0 := h.gb0
  exact ⟨h.bel.setCell (show W0.heap.size ≤ gx by omega) _, blk_far h.box (by show gb ≠ gx; omega) _, blk_far h.row (by show go ≠ gx; omega) _, ⟨blk_far h.fa.box (fun e => h2 e.symm) _, own_setCell h.fa.row h3 _, h.fa.le, h.fa.ne⟩, h.gbl, h.gol, h.gb0, h.go0, h.ne⟩
end
set_option maxHeartbeats 8000000 in
set_option maxRecDepth 100000 in
theorem field_any {W H : Int} {cost goals : List Int} (g : Grid W H cost) (A : Option Addr) (c : Nat) (A1 : Option Addr) (c1 : Nat) {w : World} (hc : Kd.C (Kd.int .i64) w A cost.length cost) (hg : Kd.C (Kd.int .i64) w A1 goals.length goals) (hin : ∀ i ∈ goals, 0 ≤ i ∧ i < W * H) (hgl : goals.length ≤ 900000000000)
    (hCheck : ∀ w', Below w.heap.size w w' → Calls Try.prog 17 #[.agg #[.int .i64 W, .int .i64 H, .slice A cost.length c]] w' fun e w2 => e = .returned (.int .i64 0) ∧ Below w'.heap.size w' w2)
    (hStep : ∀ w' cell dir, Below w.heap.size w w' → Calls Try.prog 12 #[.agg #[.int .i64 W, .int .i64 H, .slice A cost.length c], .int .i64 cell, .int .i64 dir] w' fun e w2 => e = .returned (.int .i64 (stepP W H cell dir)) ∧ Below w'.heap.size w' w2) :
    Calls Try.prog 10 #[.agg #[.int .i64 W, .int .i64 H, .slice A cost.length c], .slice A1 goals.length c1] w fun e w' => ∃ v f, e = .returned (.tuple #[v, .int .i64 0]) ∧ Kd.R (Kd.int .i64) 3 w' w.heap.size (fun _ => True) v f ∧ Sol W H cost goals f ∧ Below w.heap.size w w' := by
  obtain ⟨N, hN⟩ : ∃ N, cost.length = N := ⟨_, rfl⟩
  have hbig := g.big
  have hlen := g.len
  have HG := Aside0.mk g
  have HNL := Aside0.mk hN
  have HC := Aside0.mk hCheck
  have HS := Aside0.mk hStep
  obtain ⟨ad, rfl, hcost⟩ := C_at hc (by omega)
  have HCO := Aside0.mk hcost
  have HGC := Aside0.mk hg
  have HGL := Aside0.mk hgl
  have HIN := Aside0.mk hin
  have HB := Aside0.mk (Below.refl w.heap.size w)
  rw [hN] at hlen hbig
  have HW1 := Aside0.mk (show wrap64 (W * H) = (N : Int) from by rw [← hlen, wrap_in (by omega) (by omega)])
  have HN := Aside0.mk hbig
  have HWH := Aside0.mk hlen
  clear g hCheck hStep hc hg hin hgl hcost hlen hbig
  rw [hN]
  rw [hN] at HC HS
  clear hN
  go_enter Try.func10, Try.ntmps10
  go_upto_region 1 with (first | ((with_reducible refine gate_dst (N := 2) rfl ?_); refine box_event ?hg (N := 2) ?hd (cs := #[.int .i64 W, .int .i64 H, .slice (some ad) N c]) (t := 25) ?hr ?_; (case hd => rfl); (case hg => rfl); (case hr => first | (go_simp; done) | (go_simp; rfl)); intro gb hg w2 hbox hb; have HGB := Aside0.mk (Nat.le_of_eq hg.symm); have BK := Aside0.mk hbox; have HB := Aside0.mk hb; have cb0 := (blk_cell BK.out 0).trans rfl; have cb1 := (blk_cell BK.out 1).trans rfl; have cb2 := (blk_cell BK.out 2).trans rfl; clear hg hbox hb))
  go_upto_region 4 with (first | ((with_reducible refine gate_callee (f := 17) rfl ?_); refine goesL_ (some 18) rfl rfl Try.func17 (by kernel_rfl) rfl #[.agg #[.int .i64 W, .int .i64 H, .slice (some ad) N c]] rfl (by (simp only [List.map_toArray, List.map_cons, List.map_nil]); first | done | rfl) ?_; (refine (HC.out _ HB.out).mono ?_); rintro e w3 ⟨rfl, hb⟩; refine ⟨_, rfl, ?_⟩; have GLT := Aside0.mk (blk_lt BK.out); have BK := Aside0.mk (blk_below BK.out hb); have GSZ := Aside0.mk hb.size; have HB := Aside0.mk (HB.out.trans (hb.mono HB.out.size)); clear hb cb0 cb1 cb2; have cb0 := (blk_cell BK.out 0).trans rfl; have cb1 := (blk_cell BK.out 1).trans rfl; have cb2 := (blk_cell BK.out 2).trans rfl))
  go_upto_region 5 with (first | ((with_reducible refine gate_dst (N := 27) rfl ?_); refine make_event rfl rfl 22 3 (.tmp 26) (.tmp 26) rfl N _ HW1.out rfl rfl Try.underlying22 (by kernel_rfl) (by have := HN.out; omega) ?_; intro go hgo w4 hrow hb; have HGO := Aside0.mk (show w.heap.size ≤ go ∧ gb < go from by have h1 := GLT.out; have h2 := GSZ.out; have h3 := HGB.out; omega); have HR := Aside0.mk (show RowI w4 go (List.replicate N 0) from hrow); have BK := Aside0.mk (blk_below BK.out hb); have HB := Aside0.mk (HB.out.trans (hb.mono HB.out.size)); clear hgo hrow hb cb0 cb1 cb2))
  go_wp2
  go_loopg [30, 8] N (fun kq v30 v8 wr => ∃ (i : Nat) (out : List Int), v30 = .int .i64 (i : Int) ∧ Aside0 (i + kq = N ∧ out.length = N ∧ ∀ j, j < i → out[j]? = some (-1)) ∧ Aside0 (Below w.heap.size w wr) ∧ Aside0 (wr.heap[gb]? = some (.cells #[.int .i64 W, .int .i64 H, .slice (some ad) N c] 25 (0, 0))) ∧ Aside0 (RowI wr go out))
  case atStart => exact ⟨0, _, rfl, ⟨by omega, by simp, fun j h => by omega⟩, HB, BK, HR⟩
  case round =>
    clear HB BK HR
    obtain ⟨i, out, rfl, HI, HB, BK, HR⟩ := hrel
    cases gk with
    | succ kz =>
      have q0 : (i < N) = True := eq_true (by have := HI.out; omega)
      have hil : (i : Int) < out.length := by have := HI.out; omega
      have co := HR.out.at (i := (i : Int)) (by omega) hil
      rw [Int.toNat_natCast] at co
      have fo := blk_frozen HR.out i
      have hb0 : (i : Int) ≤ 5000 := by have h1 := HI.out; have h2 := HN.out; omega
      have ti : ((i : Int)).toNat = i := Int.toNat_natCast i
      clear hil
      go_wp2
      go_roundg kz
      case measure => omega
      case rel =>
        exact ⟨i + 1, _, rfl, ⟨by have := HI.out; omega, by rw [List.length_set]; exact HI.out.2.1, fun j hj => by
          rw [List.getElem?_set]
          have h1 := HI.out
          by_cases e : i = j
          · rw [if_pos e, if_pos (by omega)]
          · rw [if_neg e]; exact h1.2.2 j (by omega)⟩, ⟨HB.out.setCell (show w.heap.size ≤ go from HGO.out.1) _⟩, ⟨blk_far BK.out (by have := HGO.out; have := HGB.out; show gb ≠ go; omega) _⟩, ⟨HR.out.set i (-1)⟩⟩
    | zero =>
      have q0 : (i < N) = False := eq_false (by have := HI.out; omega)
      have HOUT := Aside0.mk (show out = List.replicate N (-1) from by
        apply List.ext_getElem?
        intro j
        have h1 := HI.out
        rw [List.getElem?_replicate]
        by_cases hj : j < N
        · rw [if_pos hj]; exact h1.2.2 j (by omega)
        · rw [if_neg hj, List.getElem?_eq_none (by omega)])
      go_upto_region 10 with (fail)
      obtain ⟨L, hL⟩ : ∃ L, goals.length = L := ⟨_, rfl⟩
      have HLN := Aside0.mk hL
      have HINN := Aside0.mk (show ∀ i, i < L → ∃ ad1 x, A1 = some ad1 ∧ goals[i]? = some x ∧ 0 ≤ x ∧ x < (N : Int) ∧ goals.take (i + 1) = goals.take i ++ [x] ∧ ∀ w', Below w.heap.size w w' → w'.cell? (ad1.add i) = some (.int .i64 x) from by
        intro i hi
        obtain ⟨ad1, e, hg⟩ := C_at HGC.out (by omega)
        have hil : i < goals.length := by omega
        have hx := HIN.out goals[i] (List.getElem_mem hil)
        have hw := HWH.out
        have he : rd goals (i : Int) = goals[i] := by unfold rd; rw [Int.toNat_natCast, List.getD_eq_getElem?_getD, List.getElem?_eq_getElem hil]; rfl
        refine ⟨ad1, goals[i], e, List.getElem?_eq_getElem hil, hx.1, by omega, by rw [List.take_append_getElem], fun w' hb => ?_⟩
        have h1 := hg (i : Int) (by omega) (by omega)
        rw [Int.toNat_natCast, he] at h1
        exact pw_cell_below hb h1)
      rw [hL]
      have HIN2 := Aside0.mk HIN.out
      clear hL HGC HIN
      have GLT2 := Aside0.mk (show gb < wr.heap.size ∧ go < wr.heap.size from ⟨blk_lt BK.out, blk_lt HR.out⟩)
      go_wp2
      go_loopg [39, 10] L (fun kq v39 v10 ws => ∃ i : Nat, v39 = .int .i64 (i : Int) ∧ wr = ws ∧ Aside0 (i + kq = L))
      case atStart => exact ⟨0, rfl, rfl, ⟨by omega⟩⟩
      case round =>
        obtain ⟨i, rfl, rfl, HI2⟩ := hrel
        cases gk with
        | succ kz =>
          have hil : i < L := by have := HI2.out; omega
          obtain ⟨ad1, x, rfl, hx, hx0, hx1, _, hcell⟩ := HINN.out i hil
          have q0 : (i < L) = True := eq_true hil
          have cg := hcell _ HB.out
          have hb1 : decide (x < 0) = false := decide_eq_false (by omega)
          have hb2 : decide (x ≥ (N : Int)) = false := decide_eq_false (by omega)
          have q1 : (x < 0) = False := eq_false (by omega)
          have q2 : ((N : Int) ≤ x) = False := eq_false (by omega)
          have hib : (i : Int) ≤ 1000000000000 := by have h1 := HGL.out; have h2 := HLN.out; omega
          have ti : ((i : Int)).toNat = i := Int.toNat_natCast i
          clear hx hx0 hx1 hcell hil
          go_wp2
          go_roundg kz
          case measure => omega
          case rel => exact ⟨i + 1, rfl, rfl, ⟨by have := HI2.out; omega⟩⟩
        | zero =>
          have q0 : (i < L) = False := eq_false (by have := HI2.out; omega)
          go_upto_region 17 with (first | ((with_reducible refine gate_dst (N := 52) rfl ?_); refine slice_event ?hg (N := 52) ?hd (cs := #[]) (t := 52) (n := 0) ?hr ?_; (case hd => rfl); (case hg => rfl); (case hr => first | (go_simp; done) | (go_simp; rfl)); intro B hB w5 hrow hb; have HB5 := Aside0.mk hB; have R5 := Aside0.mk hrow; have BK := Aside0.mk (blk_below BK.out hb); have HR := Aside0.mk (HR.out.below hb); have GLB := Aside0.mk (show gb < B ∧ go < B from by rw [hB]; exact ⟨GLT2.out.1, GLT2.out.2⟩); have HB := Aside0.mk (HB.out.trans (hb.mono HB.out.size)); clear hB hrow hb) | ((with_reducible refine gate_dst (N := 53) rfl ?_); refine box_event ?hg (N := 53) ?hd (cs := #[.slice (some ⟨B, 0, none⟩) 0 0]) (t := 49) ?hr ?_; (case hd => rfl); (case hg => rfl); (case hr => first | (go_simp; done) | (go_simp; rfl)); intro gh hg w6 hbox hb; have HFS := Aside0.mk (show FS w w6 gb go gh B #[.int .i64 W, .int .i64 H, .slice (some ad) N c] (List.replicate N (-1)) [] (.slice (some ⟨B, 0, none⟩) 0 0) from ⟨HB.out.trans (hb.mono HB.out.size), blk_below BK.out hb, by rw [← HOUT.out]; exact HR.out.below hb, ⟨hbox, pw_own_below ⟨by simp [flat], .inr ⟨B, 0, #[], rfl, Nat.le_refl _, R5.out, Nat.le_refl _, by simp [maxLen], rfl, rfl⟩⟩ hb, by rw [hg]; exact Nat.le_of_lt (blk_lt R5.out), by have := blk_lt R5.out; simp [Value.ownBlock]; omega⟩, GLB.out.1, GLB.out.2, by have := HGB.out; omega, by have := HGO.out; omega, by have := HGO.out; omega⟩); clear hg hbox hb))
          clear q0
          go_wp2
          go_loopg [56, 13] L (fun kq v56 v13 ws => ∃ (i : Nat) (l : List Far) (v : Value), v56 = .int .i64 (i : Int) ∧ Aside0 (i + kq = L) ∧ Aside0 (FS w ws gb go gh B #[.int .i64 W, .int .i64 H, .slice (some ad) N c] (List.replicate N (-1)) l v) ∧ Aside0 (Inv W H cost (goals.take i) i (List.replicate cost.length (-1)) l (-1) 5))
          case atStart => exact ⟨0, [], _, rfl, ⟨by omega⟩, HFS, ⟨Inv.start HG.out⟩⟩
          case round =>
            clear HFS HB BK HR
            obtain ⟨i, l, v, rfl, HI2, HF, HI⟩ := hrel
            cases gk with
            | succ kz =>
              have hil : i < L := by have := HI2.out; omega
              obtain ⟨ad1, x, rfl, hx, hx0, hx1, htk, hcell⟩ := HINN.out i hil
              have HX := Aside0.mk (show 0 ≤ x ∧ x < (N : Int) from ⟨hx0, hx1⟩)
              have HTK := Aside0.mk htk
              have HLL := Aside0.mk (show l.length < 1000000000000 from by have h1 := HI.out.room; have h2 := unset_none cost.length; have h3 := HGL.out; have h4 := HLN.out; omega)
              have q0 : (i < L) = True := eq_true hil
              have cg := hcell _ HF.out.bel
              have cx := pw_cell_below HF.out.bel (HCO.out x hx0 (by rw [HNL.out]; exact hx1))
              have cb2 := (blk_cell HF.out.box 2).trans rfl
              have q1 : (0 ≤ x) = True := eq_true hx0
              have q2 : (x < (N : Int)) = True := eq_true hx1
              have hib : (i : Int) ≤ 1000000000000 := by have h1 := HGL.out; have h2 := HLN.out; omega
              have ti : ((i : Int)).toNat = i := Int.toNat_natCast i
              clear hx hx0 hx1 htk hcell hil
              by_cases hp : 0 < rd cost x
              · have hb1 : decide (rd cost x > 0) = true := decide_eq_true hp
                have q3 : (0 < rd cost x) = True := eq_true hp
                have HP := Aside0.mk hp
                clear hp
                go_wp2_with (first | ((with_reducible refine gate_callee (f := 27) rfl ?_); refine goesL_ (some 71) rfl rfl Try.func27 (by kernel_rfl) rfl #[.iface tP (.pointer (some ⟨gh, 0, none⟩)), .iface 52 (.agg #[.int .i64 0, .int .i64 x])] rfl (by (simp only [List.map_toArray, List.map_cons, List.map_nil]); first | done | rfl) ?_; (refine (heap_push HF.out.fa 0 x HLL.out).mono ?_); rintro e w7 ⟨rfl, v2, hf, hc⟩; refine ⟨_, rfl, ?_⟩; have HF := Aside0.mk (HF.out.ch hf hc); clear hf hc))
                go_roundg kz
                case measure => omega
                case rel => exact ⟨i + 1, _, _, rfl, ⟨by have := HI2.out; omega⟩, HF, ⟨by rw [HTK.out]; exact HI.out.goal_open HG.out HX.out.1 (by rw [HWH.out.symm]; exact HX.out.2) HP.out⟩⟩
              · have hb1 : decide (rd cost x > 0) = false := decide_eq_false hp
                have q3 : (0 < rd cost x) = False := eq_false hp
                have HP := Aside0.mk hp
                clear hp
                go_wp2
                go_roundg kz
                case measure => omega
                case rel => exact ⟨i + 1, _, _, rfl, ⟨by have := HI2.out; omega⟩, HF, ⟨by rw [HTK.out]; exact HI.out.goal_shut HG.out (by have := HP.out; omega)⟩⟩
            | zero =>
              have q0 : (i < L) = False := eq_false (by have := HI2.out; omega)
              have HI := Aside0.mk (show Inv W H cost goals L (List.replicate N (-1)) l (-1) 5 from by
                have h := HI.out
                have e : i = L := by have := HI2.out; omega
                rw [e, ← HLN.out, List.take_length, HNL.out, HLN.out] at h
                exact h)
              go_wp2
              go_loopg [14] (5 * unset (List.replicate N (-1)) + l.length) (fun kq v14 ws => ∃ (out : List Int) (l : List Far) (v : Value), Aside0 (FS w ws gb go gh B #[.int .i64 W, .int .i64 H, .slice (some ad) N c] out l v) ∧ Aside0 (Inv W H cost goals L out l (-1) 5) ∧ Aside0 (5 * unset out + l.length = kq))
              case atStart => exact ⟨_, l, v, HF, HI, ⟨rfl⟩⟩
              case round =>
                clear HF HI
                obtain ⟨out, l, v, HF, HI, HM⟩ := hrel
                have HLL := Aside0.mk (show l.length < 1000000000000 - 10 from by have h1 := HI.out.room; have h2 := HNL.out; have h3 := HGL.out; have h4 := HLN.out; have h5 := HN.out; omega)
                obtain ⟨A6, c6, rfl⟩ := own_slice HF.out.fa.row
                have cz := (blk_cell HF.out.fa.box 0).trans rfl
                by_cases hpos : 0 < l.length
                · have HPOS := Aside0.mk hpos
                  obtain ⟨ko, rfl⟩ : ∃ ko, gk = ko + 1 := ⟨gk - 1, by have h1 := HM.out; omega⟩
                  have hb1 : decide (((l.length : Nat) : Int) > 0) = true := decide_eq_true (by omega)
                  have q0 : (0 < l.length) = True := eq_true hpos
                  obtain ⟨_, x2, x3, x4, x5⟩ := pop_tells l hpos HI.out.heap
                  obtain ⟨xc, hxc⟩ : ∃ xc, (at_ l 0).1 = xc := ⟨_, rfl⟩
                  obtain ⟨xk, hxk⟩ : ∃ xk, (at_ l 0).2 = xk := ⟨_, rfl⟩
                  have HXX := Aside0.mk (show at_ l 0 = (xc, xk) from by rw [← hxc, ← hxk])
                  have hcl := HI.out.cell _ x2
                  rw [hxc, hxk] at hcl
                  have HX := Aside0.mk (show 0 ≤ xk ∧ xk < (cost.length : Int) ∧ 0 < rd cost xk ∧ 0 ≤ xc ∧ xc ≤ 1000 * ((cost.length : Int) - unset out) from ⟨hcl.1, by rw [HNL.out, ← HWH.out.symm]; exact hcl.2.1, hcl.2.2⟩)
                  clear hpos x2 x3 x4 x5 hcl
                  go_upto_region 24 with (first | ((with_reducible refine gate_callee (f := 28) rfl ?_); refine goesL_ (some 76) rfl rfl Try.func28 (by kernel_rfl) rfl #[.slice A6 l.length c6] rfl (by (simp only [List.map_toArray, List.map_cons, List.map_nil]); first | done | rfl) ?_; (refine (len_any A6 _ c6 _).mono ?_); rintro e w76 ⟨rfl, rfl⟩; refine ⟨_, rfl, ?_⟩))
                  go_upto_region 25 with (first | (((with_reducible refine gate_callee (f := 29) rfl ?_); refine goesL_ (some 80) rfl rfl Try.func29 (by kernel_rfl) rfl #[.iface tP (.pointer (some ⟨gh, 0, none⟩))] rfl (by (simp only [List.map_toArray, List.map_cons, List.map_nil]); first | done | rfl) ?_; (refine (heap_pop HF.out.fa HPOS.out HI.out.heap (by have := HLL.out; omega)).mono ?_); rintro e w80 ⟨rfl, v2, hf, hc⟩; refine ⟨_, rfl, ?_⟩; have HF := Aside0.mk (HF.out.ch hf hc); clear hf hc); rw [HXX.out]) | ((with_reducible refine gate_dst (N := 14) rfl ?_); refine box_event ?hg (N := 14) ?hd (cs := #[.int .i64 0, .int .i64 0]) (t := 52) ?hr ?_; (case hd => rfl); (case hg => rfl); (case hr => first | (go_simp; done) | (go_simp; rfl)); intro gx hg w14 hbox hb; have HG_ := Aside0.mk hg; have HFO := HF; have HF := Aside0.mk (HF.out.below hb); have BX := Aside0.mk hbox; have bx0 := (blk_cell BX.out 0).trans rfl; have bx1 := (blk_cell BX.out 1).trans rfl; have fx0 := blk_frozen BX.out 0; have fx1 := blk_frozen BX.out 1; clear hg hbox hb))
                  have HGX := Aside0.mk (show B ≤ gx ∧ gx ≠ gh ∧ some gx ≠ v2.ownBlock from by
                    have hg := HG_.out
                    have h1 := HFO.out.size
                    have h2 := blk_lt HFO.out.fa.box
                    exact ⟨by omega, by omega, fun e => by have := own_lt HFO.out.fa.row gx e.symm; omega⟩)
                  generalize hw5 : (w14.setCell ⟨gx, 0, none⟩ (.int .i64 xc)).setCell ⟨gx, 1, none⟩ (.int .i64 xk) = w15
                  have HF := Aside0.mk (show FS w w15 gb go gh B _ out (popF l) v2 from by rw [← hw5]; exact (HF.out.far HGX.out.1 HGX.out.2.1 HGX.out.2.2 0 _).far HGX.out.1 HGX.out.2.1 HGX.out.2.2 1 _)
                  have BX := Aside0.mk (show w15.heap[gx]? = some (.cells #[.int .i64 xc, .int .i64 xk] 52 (0, 0)) from by rw [← hw5]; exact blk_put (blk_put BX.out 0 _ rfl) 1 _ rfl)
                  clear hw5 bx0 bx1 fx0 fx1 hb1 q0
                  have bx0 := (blk_cell BX.out 0).trans rfl
                  have bx1 := (blk_cell BX.out 1).trans rfl
                  have co := HF.out.row.at (i := xk) HX.out.1 (by have h1 := HX.out.2.1; have h2 := HI.out.len; omega)
                  have fo := blk_frozen HF.out.row xk.toNat
                  have p0 : (0 ≤ xk) = True := eq_true HX.out.1
                  have p1 : (xk < (N : Int)) = True := eq_true (by have h1 := HX.out.2.1; have h2 := HNL.out; omega)
                  by_cases hs : 0 ≤ rd out xk
                  · have hb1 : decide (rd out xk ≥ 0) = true := decide_eq_true hs
                    have q0 : (0 ≤ rd out xk) = True := eq_true hs
                    have HSK := Aside0.mk hs
                    clear hs
                    go_wp2
                    go_roundg (5 * unset out + (popF l).length)
                    case measure => have h1 := HM.out; have h2 := popF_length l; have h3 := HPOS.out; omega
                    case rel => exact ⟨out, popF l, v2, HF, ⟨HI.out.skip HPOS.out (by rw [HXX.out]; exact HSK.out)⟩, ⟨rfl⟩⟩
                  · have hb1 : decide (rd out xk ≥ 0) = false := decide_eq_false hs
                    have q0 : (0 ≤ rd out xk) = False := eq_false hs
                    have HTK := Aside0.mk (HI.out.take HG.out HIN2.out HPOS.out (by rw [HXX.out]; show rd out xk < 0; omega))
                    have HSK := Aside0.mk hs
                    clear hs
                    go_upto_region 27 with (fail)
                    generalize hw6 : w15.setCell ⟨go, xk.toNat, none⟩ (.int .i64 xc) = w16
                    have HF := Aside0.mk (show FS w w16 gb go gh B _ (out.set xk.toNat xc) (popF l) v2 from by rw [← hw6]; exact HF.out.set _ _)
                    have BX := Aside0.mk (show w16.heap[gx]? = some (.cells #[.int .i64 xc, .int .i64 xk] 52 (0, 0)) from by rw [← hw6]; exact blk_far BX.out (by have h1 := HF.out.gol; have h2 := HGX.out.1; show gx ≠ go; omega) _)
                    have HTK := HTK
                    rw [HXX.out] at HTK
                    have HI := Aside0.mk HTK.out.1
                    have HME := Aside0.mk HTK.out.2
                    have HXN := Aside0.mk HGX.out.2.2
                    clear hw6 bx0 bx1 co fo hb1 q0 HTK cz
                    obtain ⟨out1, ho1⟩ : ∃ o, out.set xk.toNat xc = o := ⟨_, rfl⟩
                    have HO1 := Aside0.mk (show rd out1 xk = xc from by rw [← ho1, rd_set HX.out.1 (by have h1 := HX.out.2.1; have h2 := HI.out.len; rw [List.length_set] at h2; omega) HX.out.1, if_pos rfl])
                    rw [ho1] at HF HI HME
                    clear ho1
                    go_wp2
                    go_loopg [15, 16] 4 (fun kq v15 v16 ws => ∃ (d : Int) (l2 : List Far) (v3 : Value), v15 = .int .i64 d ∧ Aside0 (1 ≤ d ∧ d + (kq : Int) = 5) ∧ Aside0 (FS w ws gb go gh B #[.int .i64 W, .int .i64 H, .slice (some ad) N c] out1 l2 v3) ∧ Aside0 (ws.heap[gx]? = some (.cells #[.int .i64 xc, .int .i64 xk] 52 (0, 0))) ∧ Aside0 (some gx ≠ v3.ownBlock) ∧ Aside0 (Inv W H cost goals L out1 l2 xk d) ∧ Aside0 (5 * unset out1 + l2.length + kq + 2 ≤ 5 * unset out + l.length))
                    case atStart => exact ⟨1, popF l, v2, rfl, ⟨by omega, by omega⟩, HF, BX, HXN, HI, ⟨by have := HME.out; omega⟩⟩
                    case round =>
                      clear HF BX HXN HI HME
                      obtain ⟨d, l2, v3, rfl, HD, HF, BX, HXN, HI, HME⟩ := hrel
                      cases gk with
                      | zero =>
                        have q0 : (d ≤ 4) = False := eq_false (by have := HD.out; omega)
                        go_wp2
                        go_roundg (5 * unset out1 + l2.length)
                        case measure => have h1 := HM.out; have h2 := HME.out; omega
                        case rel => exact ⟨out1, l2, v3, HF, ⟨HI.out.all (by have := HD.out; omega) (by omega)⟩, ⟨rfl⟩⟩
                      | succ kz =>
                        have q0 : (d ≤ 4) = True := eq_true (by have := HD.out; omega)
                        have HD4 := Aside0.mk (show d ≤ 4 from by have := HD.out; omega)
                        obtain ⟨n, hn⟩ : ∃ n, stepP W H xk d = n := ⟨_, rfl⟩
                        have HNE := Aside0.mk hn
                        have HLL := Aside0.mk (show l2.length < 1000000000000 from by have h1 := HI.out.room; have h2 := HNL.out; have h3 := HGL.out; have h4 := HLN.out; have h5 := HN.out; omega)
                        clear hn
                        have cb0 := (blk_cell HF.out.box 0).trans rfl
                        have cb1 := (blk_cell HF.out.box 1).trans rfl
                        have cb2 := (blk_cell HF.out.box 2).trans rfl
                        have bx1 := (blk_cell BX.out 1).trans rfl
                        go_upto_region 31 with (first | (((with_reducible refine gate_callee (f := 12) rfl ?_); refine goesL_ (some 102) rfl rfl Try.func12 (by kernel_rfl) rfl #[.agg #[.int .i64 W, .int .i64 H, .slice (some ad) N c], .int .i64 xk, .int .i64 d] rfl (by (simp only [List.map_toArray, List.map_cons, List.map_nil]); first | done | rfl) ?_; (refine (HS.out _ xk d HF.out.bel).mono ?_); rintro e w102 ⟨rfl, hb⟩; refine ⟨_, rfl, ?_⟩; have HF := Aside0.mk (HF.out.below hb); have BX := Aside0.mk (blk_below BX.out hb); clear hb cb0 cb1 cb2 bx1); rw [HNE.out]))
                        have cb2 := (blk_cell HF.out.box 2).trans rfl
                        clear q0
                        by_cases hn0 : 0 ≤ n
                        · have HN0 := Aside0.mk hn0
                          have hn1 := (stepP_sym HNE.out hn0 ⟨HD.out.1, HD4.out⟩).2.2.1
                          have HN1 := Aside0.mk (show n < (N : Int) from by have h1 := HWH.out; omega)
                          have q1 : (0 ≤ n) = True := eq_true hn0
                          have q2 : (n < (N : Int)) = True := eq_true HN1.out
                          have cc := pw_cell_below HF.out.bel (HCO.out n hn0 (by rw [HNL.out]; exact HN1.out))
                          have co := HF.out.row.at (i := n) hn0 (by have h1 := HN1.out; have h2 := HNL.out; have h3 := HI.out.len; omega)
                          clear hn0 hn1
                          by_cases hcp : 0 < rd cost n
                          · have q3 : (0 < rd cost n) = True := eq_true hcp
                            have HCP := Aside0.mk hcp
                            clear hcp
                            by_cases hou : rd out1 n < 0
                            · have q4 : (rd out1 n < 0) = True := eq_true hou
                              have HOU := Aside0.mk hou
                              clear hou
                              have HBD := Aside0.mk (show wrap64 (xc + rd cost xk) = rd out1 xk + rd cost xk from by
                                have h1 := HX.out
                                have h2 := HN.out
                                have h3 := HNL.out
                                have h4 := HG.out.rd xk h1.1
                                rw [HO1.out, wrap_in (by omega) (by omega)])
                              go_upto_region 32 with (fail)
                              have HF := Aside0.mk (HF.out.below (Below.refl _ _).drew)
                              have BX := Aside0.mk (blk_drew BX.out)
                              have HXN0 := HXN
                              clear cb2 cc co q1 q2 q3 q4
                              have p0 : (0 ≤ xk) = True := eq_true HX.out.1
                              have p1 : (xk < (N : Int)) = True := eq_true (by have h1 := HX.out.2.1; have h2 := HNL.out; omega)
                              refine start_ (n := 15) (S := fun w' => w'.cell? ⟨gx, 0, none⟩ = some (.int .i64 xc) ∧ w'.cell? ⟨gx, 1, none⟩ = some (.int .i64 xk) ∧ w'.cell? ⟨gb, 2, none⟩ = some (.slice (some ad) N c) ∧ w'.cell? (ad.add xk.toNat) = some (.int .i64 (rd cost xk))) (ds := [14]) #[false, false, false, false, false, false, false, false, false, false, false, false, false, false, false] (by kernel_rfl) rfl rfl ⟨(blk_cell BX.out 0).trans rfl, (blk_cell BX.out 1).trans rfl, (blk_cell HF.out.box 2).trans rfl, (pw_cell_below HF.out.bel (HCO.out xk HX.out.1 HX.out.2.1))⟩ (fun hHeld => ?_)
                              skip
                              refine pure_ (i := 0) (N := some 120) (v := ?_) (a' := ?_) #[true, false, false, false, false, false, false, false, false, false, false, false, false, false, false] rfl rfl (by kernel_rfl) (fun _ _ _ h => h) (Or.inl ⟨by rfl, ?_⟩) ?_ ?_
                              rotate_left
                              · intro w'
                                go_simp
                                with_reducible rfl
                              rotate_left
                              · simp only [Act.put, List.setIfInBounds_toArray, List.set_cons_zero, List.set_cons_succ, i64_w, i32_w]
                                rfl
                              refine pure_ (i := 1) (N := some 121) (v := ?_) (a' := ?_) #[true, true, false, false, false, false, false, false, false, false, false, false, false, false, false] rfl rfl (by kernel_rfl) (fun _ _ _ h => h) (Or.inl ⟨by rfl, ?_⟩) ?_ ?_
                              rotate_left
                              · intro w'
                                go_simp
                                with_reducible rfl
                              rotate_left
                              · simp only [Act.put, List.setIfInBounds_toArray, List.set_cons_zero, List.set_cons_succ, i64_w, i32_w]
                                rfl
                              refine pure_ (i := 2) (N := some 122) (v := ?_) (a' := ?_) #[true, true, true, false, false, false, false, false, false, false, false, false, false, false, false] rfl rfl (by kernel_rfl) (fun _ _ _ h => h) (Or.inl ⟨by rfl, ?_⟩) ?_ ?_
                              rotate_left
                              · intro w'
                                go_simp
                                with_reducible rfl
                              rotate_left
                              · simp only [Act.put, List.setIfInBounds_toArray, List.set_cons_zero, List.set_cons_succ, i64_w, i32_w]
                                rfl
                              refine pure_ (i := 4) (N := some 124) (v := ?_) (a' := ?_) #[true, true, true, false, true, false, false, false, false, false, false, false, false, false, false] rfl rfl (by kernel_rfl) (fun _ _ _ h => h) (Or.inl ⟨by rfl, ?_⟩) ?_ ?_
                              rotate_left
                              · intro w'
                                go_simp
                                with_reducible rfl
                              rotate_left
                              · simp only [Act.put, List.setIfInBounds_toArray, List.set_cons_zero, List.set_cons_succ, i64_w, i32_w]
                                rfl
                              refine pure_ (i := 6) (N := some 126) (v := ?_) (a' := ?_) #[true, true, true, false, true, false, true, false, false, false, false, false, false, false, false] rfl rfl (by kernel_rfl) (fun _ _ _ h => h) (Or.inl ⟨by rfl, ?_⟩) ?_ ?_
                              rotate_left
                              · intro w'
                                go_simp
                                with_reducible rfl
                              rotate_left
                              · simp only [Act.put, List.setIfInBounds_toArray, List.set_cons_zero, List.set_cons_succ, i64_w, i32_w]
                                rfl
                              refine pure_ (i := 11) (N := some 131) (v := ?_) (a' := ?_) #[true, true, true, false, true, false, true, false, false, false, false, true, false, false, false] rfl rfl (by kernel_rfl) (fun _ _ _ h => h) (Or.inl ⟨by rfl, ?_⟩) ?_ ?_
                              rotate_left
                              · intro w'
                                go_simp
                                with_reducible rfl
                              rotate_left
                              · simp only [Act.put, List.setIfInBounds_toArray, List.set_cons_zero, List.set_cons_succ, i64_w, i32_w]
                                rfl
                              refine take_ (i := 3) (N := some 123) (v := ?_) (a' := ?_) #[true, true, true, true, true, false, true, false, false, false, false, true, false, false, false] rfl rfl (by kernel_rfl) (fun _ _ _ h => h) (Or.inl ⟨by rfl, ?_⟩) hHeld ?_ ?_
                              rotate_left
                              · rintro w' ⟨s0, s1, s2, s3⟩
                                go_simp
                                with_reducible rfl
                              rotate_left
                              · simp only [Act.put, List.setIfInBounds_toArray, List.set_cons_zero, List.set_cons_succ, i64_w, i32_w]
                                rfl
                              refine take_ (i := 5) (N := some 125) (v := ?_) (a' := ?_) #[true, true, true, true, true, true, true, false, false, false, false, true, false, false, false] rfl rfl (by kernel_rfl) (fun _ _ _ h => h) (Or.inl ⟨by rfl, ?_⟩) hHeld ?_ ?_
                              rotate_left
                              · rintro w' ⟨s0, s1, s2, s3⟩
                                go_simp
                                with_reducible rfl
                              rotate_left
                              · simp only [Act.put, List.setIfInBounds_toArray, List.set_cons_zero, List.set_cons_succ, i64_w, i32_w]
                                rfl
                              refine take_ (i := 7) (N := some 127) (v := ?_) (a' := ?_) #[true, true, true, true, true, true, true, true, false, false, false, true, false, false, false] rfl rfl (by kernel_rfl) (fun _ _ _ h => h) (Or.inl ⟨by rfl, ?_⟩) hHeld ?_ ?_
                              rotate_left
                              · rintro w' ⟨s0, s1, s2, s3⟩
                                go_simp
                                with_reducible rfl
                              rotate_left
                              · simp only [Act.put, List.setIfInBounds_toArray, List.set_cons_zero, List.set_cons_succ, i64_w, i32_w]
                                rfl
                              refine pure_ (i := 8) (N := some 128) (v := ?_) (a' := ?_) #[true, true, true, true, true, true, true, true, true, false, false, true, false, false, false] rfl rfl (by kernel_rfl) (fun _ _ _ h => h) (Or.inl ⟨by rfl, ?_⟩) ?_ ?_
                              rotate_left
                              · intro w'
                                go_simp
                                with_reducible rfl
                              rotate_left
                              · simp only [Act.put, List.setIfInBounds_toArray, List.set_cons_zero, List.set_cons_succ, i64_w, i32_w]
                                rfl
                              refine take_ (i := 9) (N := some 129) (v := ?_) (a' := ?_) #[true, true, true, true, true, true, true, true, true, true, false, true, false, false, false] rfl rfl (by kernel_rfl) (fun _ _ _ h => h) (Or.inl ⟨by rfl, ?_⟩) hHeld ?_ ?_
                              rotate_left
                              · rintro w' ⟨s0, s1, s2, s3⟩
                                go_simp
                                with_reducible rfl
                              rotate_left
                              · simp only [Act.put, List.setIfInBounds_toArray, List.set_cons_zero, List.set_cons_succ, i64_w, i32_w]
                                rfl
                              refine pure_ (i := 10) (N := some 130) (v := ?_) (a' := ?_) #[true, true, true, true, true, true, true, true, true, true, true, true, false, false, false] rfl rfl (by kernel_rfl) (fun _ _ _ h => h) (Or.inl ⟨by rfl, ?_⟩) ?_ ?_
                              rotate_left
                              · intro w'
                                go_simp
                                with_reducible rfl
                              rotate_left
                              · simp only [Act.put, List.setIfInBounds_toArray, List.set_cons_zero, List.set_cons_succ, i64_w, i32_w]
                                rfl
                              refine pure_ (i := 12) (N := some 132) (v := ?_) (a' := ?_) #[true, true, true, true, true, true, true, true, true, true, true, true, true, false, false] rfl rfl (by kernel_rfl) (fun _ _ _ h => h) (Or.inl ⟨by rfl, ?_⟩) ?_ ?_
                              rotate_left
                              · intro w'
                                go_simp
                                with_reducible rfl
                              rotate_left
                              · simp only [Act.put, List.setIfInBounds_toArray, List.set_cons_zero, List.set_cons_succ, i64_w, i32_w]
                                rfl
                              refine pure_ (i := 13) (N := some 133) (v := ?_) (a' := ?_) #[true, true, true, true, true, true, true, true, true, true, true, true, true, true, false] rfl rfl (by kernel_rfl) (fun _ _ _ h => h) (Or.inl ⟨by rfl, ?_⟩) ?_ ?_
                              rotate_left
                              · intro w'
                                go_simp
                                with_reducible rfl
                              rotate_left
                              · simp only [Act.put, List.setIfInBounds_toArray, List.set_cons_zero, List.set_cons_succ, i64_w, i32_w]
                                rfl
                              refine last_ (i := 14) (N := some 134) #[true, true, true, true, true, true, true, true, true, true, true, true, true, true, true] rfl rfl (by kernel_rfl) (by decide) (fun K hK => ?_)
                              refine goes_ Try.func27 (by kernel_rfl) rfl #[.iface tP (.pointer (some ⟨gh, 0, none⟩)), .iface 52 (.agg #[.int .i64 (wrap64 (xc + rd cost xk)), .int .i64 n])] (by rfl) rfl rfl (by simp only [List.map_toArray, List.map_cons, List.map_nil]; rfl) ?_
                              with_reducible refine (heap_push HF.out.fa (wrap64 (xc + rd cost xk)) n HLL.out).mono ?_
                              rintro e wb ⟨rfl, v4, hf, hc⟩
                              refine ⟨_, rfl, ?_⟩
                              have HXN := Aside0.mk (show some gx ≠ v4.ownBlock from by
                                rcases hc.at_ with e | ⟨b, e, hb⟩
                                · rw [e]; exact HXN.out
                                · rw [e]; intro e'; injection e' with e'; have := blk_lt BX.out; omega)
                              have BX := Aside0.mk (hc.blk BX.out HGX.out.2.1 HXN0.out)
                              have HF := Aside0.mk (HF.out.ch hf hc)
                              clear hf hc hHeld
                              refine hK.out _ _ ?_
                              clear hK K
                              refine norm_ (a' := ?_) ?_ ?_
                              rotate_left
                              · show Act.put _ (some 134) _ = _
                                simp only [Act.put, List.setIfInBounds_toArray, List.set_cons_zero, List.set_cons_succ, i64_w, i32_w]
                                rfl
                              refine done_ (by kernel_rfl) ?_
      
                              go_wp2
                              go_roundg kz
                              case measure => omega
                              case rel =>
                                exact ⟨d + 1, _, v4, by rw [wrap_in (by have := HD.out; omega) (by have := HD4.out; omega)], ⟨by have := HD.out; omega, by have := HD.out; omega⟩, HF, BX, HXN, ⟨by rw [HBD.out]; exact HI.out.push HG.out HX.out.1 (by have h1 := HX.out.2.1; have h2 := HNL.out; have h3 := HWH.out; omega) HD.out.1 HD4.out HNE.out HN0.out HCP.out HOU.out⟩, ⟨by have := HME.out; rw [pushF_length]; omega⟩⟩
                            · have q4 : (rd out1 n < 0) = False := eq_false hou
                              have HOU := Aside0.mk hou
                              clear hou
                              go_wp2
                              go_roundg kz
                              case measure => omega
                              case rel =>
                                exact ⟨d + 1, l2, v3, by rw [wrap_in (by have := HD.out; omega) (by have := HD4.out; omega)], ⟨by have := HD.out; omega, by have := HD.out; omega⟩, HF, BX, HXN, ⟨HI.out.pass HG.out HX.out.1 HD.out.1 HD4.out HNE.out (.inr (.inr (by have := HOU.out; omega)))⟩, ⟨by have := HME.out; omega⟩⟩
                          · have q3 : (0 < rd cost n) = False := eq_false hcp
                            have HCP := Aside0.mk hcp
                            clear hcp
                            go_wp2
                            go_roundg kz
                            case measure => omega
                            case rel =>
                              exact ⟨d + 1, l2, v3, by rw [wrap_in (by have := HD.out; omega) (by have := HD4.out; omega)], ⟨by have := HD.out; omega, by have := HD.out; omega⟩, HF, BX, HXN, ⟨HI.out.pass HG.out HX.out.1 HD.out.1 HD4.out HNE.out (.inr (.inl (by have := HCP.out; omega)))⟩, ⟨by have := HME.out; omega⟩⟩
                        · have q1 : (0 ≤ n) = False := eq_false hn0
                          have HN0 := Aside0.mk hn0
                          clear hn0
                          go_wp2
                          go_roundg kz
                          case measure => omega
                          case rel =>
                            exact ⟨d + 1, l2, v3, by rw [wrap_in (by have := HD.out; omega) (by have := HD4.out; omega)], ⟨by have := HD.out; omega, by have := HD.out; omega⟩, HF, BX, HXN, ⟨HI.out.pass HG.out HX.out.1 HD.out.1 HD4.out HNE.out (.inl (by have := HN0.out; omega))⟩, ⟨by have := HME.out; omega⟩⟩
                · have hb1 : decide (((l.length : Nat) : Int) > 0) = false := decide_eq_false (by omega)
                  have q0 : (0 < l.length) = False := eq_false hpos
                  have HL0 := Aside0.mk (show l = [] from List.length_eq_zero_iff.mp (by omega))
                  clear hpos
                  go_wp2_with (first | ((with_reducible refine gate_callee (f := 28) rfl ?_); refine goesL_ (some 76) rfl rfl Try.func28 (by kernel_rfl) rfl #[.slice A6 l.length c6] rfl (by (simp only [List.map_toArray, List.map_cons, List.map_nil]); first | done | rfl) ?_; (refine (len_any A6 _ c6 _).mono ?_); rintro e w76 ⟨rfl, rfl⟩; refine ⟨_, rfl, ?_⟩))
                  refine bodyPost_ret (v := .tuple #[.slice (some ⟨go, 0, none⟩) N N, .int .i64 0]) (by simp [results, Try.results10, go_sem]) rfl ?_
                  have hI := HI.out
                  rw [HL0.out] at hI
                  have hlo : out.length = N := by have h1 := HNL.out; have h2 := hI.len; omega
                  refine ⟨_, out, rfl, ?_, hI.done, HF.out.bel⟩
                  have h3 := R_blk HF.out.row HF.out.go0 (by have := HN.out; omega)
                  rw [hlo] at h3
                  exact h3
end Go.Proofs.Ytmpfboilodlfnaa.FlowField
