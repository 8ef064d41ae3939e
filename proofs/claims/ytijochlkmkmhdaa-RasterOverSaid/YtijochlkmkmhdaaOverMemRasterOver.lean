/- slices.Grow and slices.Concat of two lists of things. Under the conditions that stand at each. -/
import Derived.Test.YtijochlkmkmhdaaOverLawRasterOver
import Derived.Outline
namespace Go.Proofs.Ytijochlkmkmhdaa.OverMemRasterOver
open Go Go.RowKit Go.Proofs.Ytijochlkmkmhdaa.Fnv Go.Proofs.YtijochlkmkmhdaaW.PrintWords Go.Proofs.YtijochlkmkmhdaaW.PrintLast Go.Proofs.YtijochlkmkmhdaaW.PrintMore Go.Proofs.Ytijochlkmkmhdaa.PRasterOver Go.Proofs.Ytijochlkmkmhdaa.RasterRasterOver
set_option linter.unusedVariables false
set_option linter.unusedSimpArgs false
abbrev Al : Nat → Prop := fun _ => True
abbrev kT := k33
/-- A row of the region's own making. -/
theorem row_step {P : Program} {ops : Array Oper} {Q : Exit → Act → World → Prop} {o : Oper} {a : Act} {Kc : Act → World → Prop} {W : World} (hw : Region.wanted o (yielded ops a.tmps) = true) {N : Option Tmp} (hd : o.dst = N) {cs : Array Value} {t : TypeId} {n : Nat}
    (hrun : (execOp a.eval o).run P W = .ok (.value (.slice (some ⟨W.heap.size, 0, none⟩) n n)) (W.alloc (.cells cs t (0, 0))))
    (h : ∀ g, g = W.heap.size → ∀ w1, w1.heap[g]? = some (.cells cs t (0, 0)) → Below W.heap.size W w1 → Kc (a.put N (.slice (some ⟨g, 0, none⟩) n n)) w1) : if Region.wanted o (yielded ops a.tmps) = true then Oper.wp P o a W Kc Q else Kc (a.put N undef) W := by
  subst hd
  rw [if_pos hw]
  unfold Oper.wp
  rw [hrun]
  exact h _ rfl _ (blk_new W _) (below_alloc (Below.refl _ _) _)
theorem zeroT (W : World) : Kd.FK kT W (fun _ => False) z33 [.int .i64 0, .int .i64 0, .int .i64 0, .slice none 0 0] := k33_mkF W _ z33 (Nat.le_refl _) (Kd.F_nil _ _ _)
set_option maxHeartbeats 4000000 in
set_option maxRecDepth 100000 in
theorem grow_any (n : Int) (h0 : 0 ≤ n) (hn : n ≤ 1000) {w : World} : Calls Try.prog 35 #[.slice none 0 0, .int .i64 n] w fun e w' => ∃ A c, e = .returned (.slice A 0 c) ∧ Kd.N kT 33 w' w.heap.size Al (.slice A 0 c) [] ∧ Below w.heap.size w w' := by
  have HN := Aside0.mk (show 0 ≤ n ∧ n ≤ 1000 from ⟨h0, hn⟩)
  have hw : wrap64 n = n := wrap_in (by omega) (by omega)
  have hlt : decide (n < 0) = false := decide_eq_false (by omega)
  by_cases hp : 0 < n
  · have hgt : decide (n > 0) = true := decide_eq_true hp
    clear h0 hn hp
    go_enter Try.func35, Try.ntmps35
    go_wp2_with (first | ((with_reducible refine gate_builtin (b := .append) (xs := #[.tmp 20, .tmp 21]) rfl ?_); at_builtin; refine Kd.N_append_zeros kT (w0 := w) w.heap.size rfl (.tmp 20) (.tmp 21) 30 3 33 (.agg #[.int .i64 0, .int .i64 0, .int .i64 0, .slice none 0 0]) 48 rfl Try.underlying30 Try.underlying3 info33 rfl (by decide) (by omega) (.slice none 0 0) [] z33 (wrap64 n) Al rfl rfl (zeroT _) (fun _ _ => trivial) (Kd.N_nil _ _ _ _ _) (by rw [hw]; exact HN.out.1) (Below.refl _ _) (Nat.le_refl _) (by rw [hw]; have := HN.out; simp only [List.length_nil]; omega) ?_; intro v1 w1 hN hb hg hat; obtain ⟨A, c, rfl⟩ := Kd.N_slice hN; have HV := Aside0.mk hN; have HB := Aside0.mk hb; clear hN hb hg hat))
    go_ret
    have hT := Kd.N_take HV.out (m := 0) (Nat.zero_le _)
    rw [List.take_zero] at hT
    exact ⟨A, c, rfl, hT, HB.out⟩
  · obtain rfl : n = 0 := by omega
    go_enter Try.func35, Try.ntmps35
    go_wp2
    go_ret
    exact ⟨none, 0, rfl, Kd.N_nil _ _ _ _ _, Below.refl _ _⟩
set_option maxHeartbeats 4000000 in
set_option maxRecDepth 100000 in
theorem concat_any (A1 : Option Addr) (c1 : Nat) (la : List Th) (A2 : Option Addr) (c2 : Nat) (lb : List Th) {w : World} {g : Nat} (hr : w.heap[g]? = some (.cells #[.slice A1 la.length c1, .slice A2 lb.length c2] 30 (0, 0)))
    (ha : Kd.F kT w (fun k => k < w.heap.size) A1 la.length la) (hb : Kd.F kT w (fun k => k < w.heap.size) A2 lb.length lb) (ha6 : la.length ≤ 6) (hb6 : lb.length ≤ 6) :
    Calls Try.prog 21 #[.slice (some ⟨g, 0, none⟩) 2 2] w fun e w' => ∃ A c, e = .returned (.slice A (la ++ lb).length c) ∧ (la ++ lb).length ≤ c ∧ Kd.F kT w' Al A (la ++ lb).length (la ++ lb) ∧ Below w.heap.size w w' := by
  have HR := Aside0.mk hr
  have HA := Aside0.mk ha
  have HBB := Aside0.mk hb
  obtain ⟨L1, hL1⟩ : ∃ L, la.length = L := ⟨_, rfl⟩
  obtain ⟨L2, hL2⟩ : ∃ L, lb.length = L := ⟨_, rfl⟩
  have H1 := Aside0.mk hL1
  have H2 := Aside0.mk hL2
  rw [hL1] at ha6
  rw [hL2] at hb6
  have HL := Aside0.mk (show L1 ≤ 6 ∧ L2 ≤ 6 from ⟨ha6, hb6⟩)
  have cr0 : w.cell? ⟨g, 0, none⟩ = some (.slice A1 L1 c1) := by rw [← hL1]; exact (blk_cell hr 0).trans rfl
  have cr1 : w.cell? ⟨g, 1, none⟩ = some (.slice A2 L2 c2) := by rw [← hL2]; exact (blk_cell hr 1).trans rfl
  have hw1 : wrap64 (L1 : Int) = L1 := wrap_in (by omega) (by omega)
  have hw2 : wrap64 ((L1 : Int) + L2) = L1 + L2 := wrap_in (by omega) (by omega)
  have hn1 : decide ((L1 : Int) < 0) = false := decide_eq_false (by omega)
  have hn2 : decide ((L1 : Int) + L2 < 0) = false := decide_eq_false (by omega)
  clear hr ha hb hL1 hL2 ha6 hb6
  go_enter Try.func21, Try.ntmps21
  go_wp2
  go_loopg [3, 11] 2 (fun kq v3 v11 wr => w = wr ∧ ((v11 = .int .i64 0 ∧ v3 = .int .i64 0 ∧ kq = 2) ∨ (v11 = .int .i64 1 ∧ v3 = .int .i64 L1 ∧ kq = 1) ∨ (v11 = .int .i64 2 ∧ v3 = .int .i64 ((L1 : Int) + L2) ∧ kq = 0)))
  case atStart => exact ⟨rfl, .inl ⟨rfl, rfl, rfl⟩⟩
  case round =>
    obtain ⟨rfl, ⟨rfl, rfl, rfl⟩ | ⟨rfl, rfl, rfl⟩ | ⟨rfl, rfl, rfl⟩⟩ := hrel
    · go_wp2
      go_roundg 1
      case measure => omega
      case rel => exact ⟨rfl, .inr (.inl ⟨rfl, by first | rfl | simp [hw1], rfl⟩)⟩
    · go_wp2
      go_roundg 0
      case measure => omega
      case rel => exact ⟨rfl, .inr (.inr ⟨rfl, by first | rfl | simp [hw2], rfl⟩)⟩
    · go_wp2_with (first | ((with_reducible refine gate_callee (f := 35) rfl ?_); refine goesL_ (some 24) rfl rfl Try.func35 (by kernel_rfl) rfl #[.slice none 0 0, .int .i64 ((L1 : Int) + L2)] rfl (by simp only [List.map_toArray, List.map_cons, List.map_nil]; rfl) ?_; (refine (grow_any ((L1 : Int) + L2) (by omega) (by have := HL.out; omega)).mono ?_); rintro e wv1 ⟨Ag, cg, rfl, hN, hb⟩; refine ⟨_, rfl, ?_⟩; have GL := Aside0.mk (blk_lt HR.out); have HN := Aside0.mk hN; have HB := Aside0.mk hb; have HR := Aside0.mk (blk_below HR.out hb); have HA := Aside0.mk (Kd.F_below HA.out hb); have HBB := Aside0.mk (Kd.F_below HBB.out hb); clear hN hb cr0 cr1))
      go_loopg [6, 27] 2 (fun kq v6 v27 wr => ∃ (A : Option Addr) (c : Nat) (xs : List Th), v6 = .slice A xs.length c ∧ Aside0 (Kd.N kT 33 wr w.heap.size Al (.slice A xs.length c) xs) ∧ Aside0 (Below w.heap.size w wr) ∧ Aside0 (wr.heap[g]? = some (.cells #[.slice A1 la.length c1, .slice A2 lb.length c2] 30 (0, 0))) ∧ Aside0 (Kd.F kT wr (fun k => k < w.heap.size) A1 la.length la) ∧ Aside0 (Kd.F kT wr (fun k => k < w.heap.size) A2 lb.length lb) ∧ ((v27 = .int .i64 0 ∧ xs = [] ∧ kq = 2) ∨ (v27 = .int .i64 1 ∧ xs = la ∧ kq = 1) ∨ (v27 = .int .i64 2 ∧ xs = la ++ lb ∧ kq = 0)))
      case atStart => exact ⟨Ag, cg, [], rfl, HN, HB, HR, HA, HBB, .inl ⟨rfl, rfl, rfl⟩⟩
      case round =>
        clear HN HB HR HA HBB
        obtain ⟨A, c, xs, rfl, HN, HB, HR, HA, HBB, ⟨rfl, rfl, rfl⟩ | ⟨rfl, rfl, rfl⟩ | ⟨rfl, rfl, rfl⟩⟩ := hrel
        · have HN0 := Aside0.mk HN.out
          have cr0 : wr.cell? ⟨g, 0, none⟩ = some (.slice A1 L1 c1) := by rw [← H1.out]; exact (blk_cell HR.out 0).trans rfl
          go_wp2_with (first | ((with_reducible refine gate_builtin (b := .append) (xs := #[.tmp 31, .tmp 32]) rfl ?_); at_builtin; refine Kd.N_append_rows kT (w0 := w) w.heap.size rfl (.tmp 31) (.tmp 32) 30 33 (.agg #[.int .i64 0, .int .i64 0, .int .i64 0, .slice none 0 0]) 48 rfl Try.underlying30 info33 rfl (by decide) (by omega) _ _ la A1 L1 c1 Al (fun k => k < w.heap.size) rfl rfl HN.out (by rw [← H1.out]; exact HA.out) (fun k hk => ⟨trivial, fun e => by have := Kd.N_base HN.out k e.symm; omega⟩) (fun _ _ => trivial) HB.out HB.out.size (by have := HL.out; have := H1.out; (try simp only [List.length_nil]); omega) ?_; intro v2 wv2 hN hb hg hat; obtain ⟨A', c', rfl⟩ := Kd.N_slice hN; have HN := Aside0.mk hN; have HA := Aside0.mk (Kd.F_grown HA.out hg (fun k hk e => by have := Kd.N_base HN0.out k e.symm; omega)); have HBB := Aside0.mk (Kd.F_grown HBB.out hg (fun k hk e => by have := Kd.N_base HN0.out k e.symm; omega)); have HR := Aside0.mk (blk_grown HR.out hg (fun e => by have h1 := Kd.N_base HN0.out _ e.symm; have h2 := GL.out; omega)); have HB := Aside0.mk hb; clear hN hb hg hat cr0))
          go_roundg 1
          case measure => omega
          case rel => exact ⟨A', c', la, rfl, HN, HB, HR, HA, HBB, .inr (.inl ⟨rfl, rfl, rfl⟩)⟩
        · have HN0 := Aside0.mk HN.out
          have cr1 : wr.cell? ⟨g, 1, none⟩ = some (.slice A2 L2 c2) := by rw [← H2.out]; exact (blk_cell HR.out 1).trans rfl
          go_wp2_with (first | ((with_reducible refine gate_builtin (b := .append) (xs := #[.tmp 31, .tmp 32]) rfl ?_); at_builtin; refine Kd.N_append_rows kT (w0 := w) w.heap.size rfl (.tmp 31) (.tmp 32) 30 33 (.agg #[.int .i64 0, .int .i64 0, .int .i64 0, .slice none 0 0]) 48 rfl Try.underlying30 info33 rfl (by decide) (by omega) _ _ lb A2 L2 c2 Al (fun k => k < w.heap.size) rfl rfl HN.out (by rw [← H2.out]; exact HBB.out) (fun k hk => ⟨trivial, fun e => by have := Kd.N_base HN.out k e.symm; omega⟩) (fun _ _ => trivial) HB.out HB.out.size (by have := HL.out; have := H1.out; (try simp only [List.length_nil]); omega) ?_; intro v2 wv2 hN hb hg hat; obtain ⟨A', c', rfl⟩ := Kd.N_slice hN; have HN := Aside0.mk hN; have HA := Aside0.mk (Kd.F_grown HA.out hg (fun k hk e => by have := Kd.N_base HN0.out k e.symm; omega)); have HBB := Aside0.mk (Kd.F_grown HBB.out hg (fun k hk e => by have := Kd.N_base HN0.out k e.symm; omega)); have HR := Aside0.mk (blk_grown HR.out hg (fun e => by have h1 := Kd.N_base HN0.out _ e.symm; have h2 := GL.out; omega)); have HB := Aside0.mk hb; clear hN hb hg hat cr1))
          go_roundg 0
          case measure => omega
          case rel => exact ⟨A', c', xs ++ lb, by rw [List.length_append], HN, HB, HR, HA, HBB, .inr (.inr ⟨rfl, rfl, rfl⟩)⟩
        · go_wp2
          go_ret
          exact ⟨A, c, rfl, (Kd.N_reads' HN.out).2.1, Kd.N_F HN.out, HB.out⟩
theorem C_cells {w : World} {A : Option Addr} {l : List Int} (h : Kd.C (Kd.int .i64) w A l.length l) (hn : 0 < l.length) : ∃ ad, A = some ad ∧ ∀ j v, l[j]? = some v → w.cell? (ad.add j) = some (.int .i64 v) := by
  obtain ⟨_, _, h3⟩ := h
  obtain ⟨ad, e, hc⟩ := h3 hn
  refine ⟨ad, e, fun j v hj => ?_⟩
  obtain ⟨c, h1, h2, h4⟩ := hc j v hj
  have e2 : c = [.int .i64 v] := h2
  have := h4 0 (.int .i64 v) (by rw [e2]; rfl)
  simpa [show (Kd.int IntKind.i64).sz = 1 from rfl] using this
end Go.Proofs.Ytijochlkmkmhdaa.OverMemRasterOver
