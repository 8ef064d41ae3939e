/- (*Graph).Move, and the ways of a scene's methods that refuse. Under the conditions that stand at each. -/
import Derived.Test.YtdopeneehminaaaGraphTwoGraphPlays
import Derived.Outline
namespace Go.Proofs.Ytdopeneehminaaa.GraphMoveGraphPlays
open Go Go.RowKit Go.Proofs.YtdopeneehminaaaW.PrintWords Go.Proofs.YtdopeneehminaaaW.PrintLast Go.Proofs.YtdopeneehminaaaW.PrintMore Go.Proofs.Ytdopeneehminaaa.Fnv Go.Proofs.Ytdopeneehminaaa.PGraphPlays Go.Proofs.Ytdopeneehminaaa.GraphMemGraphPlays Go.Proofs.Ytdopeneehminaaa.GraphAtGraphPlays Go.Proofs.Ytdopeneehminaaa.GraphSetGraphPlays Go.Proofs.Ytdopeneehminaaa.GraphAddGraphPlays Go.Proofs.Ytdopeneehminaaa.NumGraphPlays Go.Proofs.Ytdopeneehminaaa.GraphWiGraphPlays Go.Proofs.Ytdopeneehminaaa.GraphRunsGraphPlays Go.Proofs.Ytdopeneehminaaa.GraphNewGraphPlays Go.Proofs.Ytdopeneehminaaa.GraphTwoGraphPlays
set_option linter.unusedVariables false
set_option linter.unusedSimpArgs false
set_option maxHeartbeats 8000000 in
set_option maxRecDepth 100000 in
theorem Move_none (w : World) (g len c : Nat) (A : Option Addr) (h : w.cell? ⟨g, 0, none⟩ = some (.slice A len c)) (n u : Int) (hx : n < 0 ∨ (0 ≤ n ∧ (len : Int) ≤ n) ∨ (0 ≤ n ∧ n < len ∧ -1 ≤ u ∧ (len : Int) ≤ u)) :
    Calls Try.prog 56 #[.pointer (some ⟨g, 0, none⟩), .int .i64 n, .int .i64 u] w fun e w' => e = .returned (.int .i64 4) ∧ w' = w := by
  have hu80 := Try.underlying80
  rcases hx with hx | hx | hx
  · have a1 : decide (n < 0) = true := decide_eq_true hx
    clear hx
    go_enter Try.func56, Try.ntmps56
    go_wp2
    go_ret
    exact ⟨rfl, rfl⟩
  · have a1 : decide (n < 0) = false := decide_eq_false (by omega)
    have a2 : decide (n ≥ (len : Int)) = true := decide_eq_true hx.2
    clear hx
    go_enter Try.func56, Try.ntmps56
    go_wp2
    go_ret
    exact ⟨rfl, rfl⟩
  · have a1 : decide (n < 0) = false := decide_eq_false (by omega)
    have a2 : decide (n ≥ (len : Int)) = false := decide_eq_false (by omega)
    have a3 : decide (u < -1) = false := decide_eq_false (by omega)
    have a4 : decide (u ≥ (len : Int)) = true := decide_eq_true hx.2.2.2
    clear hx
    go_enter Try.func56, Try.ntmps56
    go_wp2
    go_ret
    exact ⟨rfl, rfl⟩
set_option maxHeartbeats 8000000 in
set_option maxRecDepth 100000 in
theorem Set_none (w : World) (g len c : Nat) (A : Option Addr) (h : w.cell? ⟨g, 0, none⟩ = some (.slice A len c)) (n : Int) (p : Pl) (hx : n < 0 ∨ (0 ≤ n ∧ (len : Int) ≤ n)) :
    Calls Try.prog 35 #[.pointer (some ⟨g, 0, none⟩), .int .i64 n, .agg #[.int .i64 p.x, .int .i64 p.y, .int .i64 p.a, .int .i64 p.s]] w fun e w' => e = .returned (.int .i64 4) ∧ Below w.heap.size w w' := by
  have hu80 := Try.underlying80
  have h0 := h
  rcases hx with hx | hx
  · have a1 : decide (n < 0) = true := decide_eq_true hx
    clear hx
    go_enter Try.func35, Try.ntmps35
    go_wp2
    go_ret
    exact ⟨rfl, below_alloc (Below.refl _ _) _⟩
  · have a1 : decide (n < 0) = false := decide_eq_false (by omega)
    have a2 : decide (n ≥ (len : Int)) = true := decide_eq_true hx.2
    have H := Aside0.mk h
    clear hx h h0
    go_enter Try.func35, Try.ntmps35
    go_upto_region 0 with fail
    go_cut [5] (fun v5 w' => ∃ g5 : Nat, v5 = .pointer (some ⟨g5, 0, none⟩) ∧ w'.heap[g5]? = some (.cells #[.int .i64 p.x, .int .i64 p.y, .int .i64 p.a, .int .i64 p.s] tP (0, 0)) ∧ Below w.heap.size w w')
    case first =>
      go_wp2_with fail
      go_meet
      exact ⟨_, rfl, blk_new _ _, below_alloc (Below.refl _ _) _⟩
    case rest =>
      obtain ⟨g5, rfl, B5, hb⟩ := hcut
      have e0 := pw_cell_below hb H.out
      have HB := Aside0.mk hb
      clear hb B5
      go_wp2
      go_ret
      exact ⟨rfl, HB.out⟩
set_option maxHeartbeats 8000000 in
set_option maxRecDepth 100000 in
theorem Set_arg (w : World) (g len c : Nat) (A : Option Addr) (h : w.cell? ⟨g, 0, none⟩ = some (.slice A len c)) (n : Int) (p : Pl) (h0 : 0 ≤ n) (h1 : n < len) (hfit : fitsV p = false) :
    Calls Try.prog 35 #[.pointer (some ⟨g, 0, none⟩), .int .i64 n, .agg #[.int .i64 p.x, .int .i64 p.y, .int .i64 p.a, .int .i64 p.s]] w fun e w' => e = .returned (.int .i64 1) ∧ Below w.heap.size w w' := by
  have hu80 := Try.underlying80
  have hu52 := Try.underlying52
  have a1 : decide (n < 0) = false := decide_eq_false (by omega)
  have a2 : decide (n ≥ (len : Int)) = false := decide_eq_false (by omega)
  have HF := Aside0.mk (show graph_fits.f 3 p.x p.y p.a p.s = some false from by rw [show (3 : Nat) = 0 + 3 from rfl, fits_eq p 0, hfit])
  have H := Aside0.mk h
  clear hfit h h0 h1
  go_enter Try.func35, Try.ntmps35
  go_upto_region 0 with fail
  go_cut [5] (fun v5 w' => ∃ g5 : Nat, v5 = .pointer (some ⟨g5, 0, none⟩) ∧ w'.heap[g5]? = some (.cells #[.int .i64 p.x, .int .i64 p.y, .int .i64 p.a, .int .i64 p.s] tP (0, 0)) ∧ Below w.heap.size w w')
  case first =>
    go_wp2_with fail
    go_meet
    exact ⟨_, rfl, blk_new _ _, below_alloc (Below.refl _ _) _⟩
  case rest =>
    obtain ⟨g5, rfl, B5, hb⟩ := hcut
    have e0 := pw_cell_below hb H.out
    have HB := Aside0.mk hb
    obtain ⟨z0, z1, z2, z3⟩ := four B5
    clear hb B5
    go_wp2_with (first | ((with_reducible refine gate_callee (f := 51) rfl ?_); refine goesL_ (some 19) rfl rfl Try.func51 (by kernel_rfl) rfl #[.agg #[.int .i64 p.x, .int .i64 p.y, .int .i64 p.a, .int .i64 p.s]] rfl (by (try simp only [List.map_toArray, List.map_cons, List.map_nil]); first | done | rfl) ?_; (refine (graph_fits.calls 3 p.x p.y p.a p.s false _ HF.out).mono ?_); rintro e w3 ⟨rfl, hb⟩; refine ⟨_, rfl, ?_⟩; clear e0 z0 z1 z2 z3; replace HB := Aside0.mk (below_step HB.out hb); clear hb))
    go_ret
    exact ⟨rfl, HB.out⟩
set_option maxHeartbeats 8000000 in
set_option maxRecDepth 100000 in
theorem At_none (w : World) (g len c : Nat) (A : Option Addr) (h : w.cell? ⟨g, 0, none⟩ = some (.slice A len c)) (n : Int) (hx : n < 0 ∨ (0 ≤ n ∧ (len : Int) ≤ n)) :
    Calls Try.prog 32 #[.pointer (some ⟨g, 0, none⟩), .int .i64 n] w fun e w' => e = .returned (.tuple #[.agg #[.int .i64 0, .int .i64 0, .int .i64 0, .int .i64 0], .int .i64 4]) ∧ Below w.heap.size w w' := by
  have hu80 := Try.underlying80
  have hu52 := Try.underlying52
  have H := Aside0.mk h
  have HX := Aside0.mk hx
  clear h hx
  go_enter Try.func32, Try.ntmps32
  go_upto_region 0 with fail
  go_cut [4] (fun v4 w' => ∃ g4 : Nat, v4 = .pointer (some ⟨g4, 0, none⟩) ∧ w'.heap[g4]? = some (.cells #[.int .i64 0, .int .i64 0, .int .i64 0, .int .i64 0] tP (0, 0)) ∧ w.heap.size ≤ g4 ∧ Below w.heap.size w w')
  case first =>
    go_wp2_with fail
    go_meet
    exact ⟨_, rfl, blk_new _ _, Nat.le_refl _, below_alloc (Below.refl _ _) _⟩
  case rest =>
    obtain ⟨g4, rfl, B4, hg4, hb⟩ := hcut
    have e0 := pw_cell_below hb H.out
    have HB := Aside0.mk hb
    have HG := Aside0.mk hg4
    obtain ⟨o0, o1, o2, o3⟩ := four B4
    have y0 := blk_frozen B4 0
    have y1 := blk_frozen B4 1
    have y2 := blk_frozen B4 2
    have y3 := blk_frozen B4 3
    have B4 := Aside0.mk B4
    clear hb hg4
    rcases HX.out with hx | hx
    · have a1 : decide (n < 0) = true := decide_eq_true hx
      clear hx
      go_wp2
      refine bodyPost_ret (results_ct rfl _ _ g4 #[.int .i64 0, .int .i64 0, .int .i64 0, .int .i64 0] rfl (run_loadVar_row _ g4 tP tP #[.int .i64 0, .int .i64 0, .int .i64 0, .int .i64 0] (0, 0) _ (put4 B4.out _ _ _ _) Try.underlying52 rfl (by kernel_rfl))) rfl ?_
      exact ⟨rfl, below_set (below_set (below_set (below_set HB.out HG.out) HG.out) HG.out) HG.out⟩
    · have a1 : decide (n < 0) = false := decide_eq_false (by omega)
      have a2 : decide (n ≥ (len : Int)) = true := decide_eq_true hx.2
      clear hx
      go_wp2
      refine bodyPost_ret (results_ct rfl _ _ g4 #[.int .i64 0, .int .i64 0, .int .i64 0, .int .i64 0] rfl (run_loadVar_row _ g4 tP tP #[.int .i64 0, .int .i64 0, .int .i64 0, .int .i64 0] (0, 0) _ (put4 B4.out _ _ _ _) Try.underlying52 rfl (by kernel_rfl))) rfl ?_
      exact ⟨rfl, below_set (below_set (below_set (below_set HB.out HG.out) HG.out) HG.out) HG.out⟩
set_option maxHeartbeats 8000000 in
set_option maxRecDepth 100000 in
theorem Add_full (w : World) (g c : Nat) (A : Option Addr) (h : w.cell? ⟨g, 0, none⟩ = some (.slice A 100 c)) (u : Int) (p : Pl) :
    Calls Try.prog 31 #[.pointer (some ⟨g, 0, none⟩), .int .i64 u, .agg #[.int .i64 p.x, .int .i64 p.y, .int .i64 p.a, .int .i64 p.s]] w fun e w' => e = .returned (.tuple #[.int .i64 0, .int .i64 6]) ∧ Below w.heap.size w w' := by
  have hu80 := Try.underlying80
  have H := Aside0.mk h
  clear h
  go_enter Try.func31, Try.ntmps31
  go_upto_region 0 with fail
  go_cut [5] (fun v5 w' => ∃ g5 : Nat, v5 = .pointer (some ⟨g5, 0, none⟩) ∧ w'.heap[g5]? = some (.cells #[.int .i64 p.x, .int .i64 p.y, .int .i64 p.a, .int .i64 p.s] tP (0, 0)) ∧ Below w.heap.size w w')
  case first =>
    go_wp2_with fail
    go_meet
    exact ⟨_, rfl, blk_new _ _, below_alloc (Below.refl _ _) _⟩
  case rest =>
    obtain ⟨g5, rfl, B5, hb⟩ := hcut
    have e0 := pw_cell_below hb H.out
    have HB := Aside0.mk hb
    clear hb B5
    go_wp2
    go_ret2
    exact ⟨rfl, HB.out⟩
set_option maxHeartbeats 8000000 in
set_option maxRecDepth 100000 in
theorem Add_none (w : World) (g len c : Nat) (A : Option Addr) (h : w.cell? ⟨g, 0, none⟩ = some (.slice A len c)) (u : Int) (p : Pl) (hl : len < 100) (h0 : -1 ≤ u) (h1 : (len : Int) ≤ u) :
    Calls Try.prog 31 #[.pointer (some ⟨g, 0, none⟩), .int .i64 u, .agg #[.int .i64 p.x, .int .i64 p.y, .int .i64 p.a, .int .i64 p.s]] w fun e w' => e = .returned (.tuple #[.int .i64 0, .int .i64 4]) ∧ Below w.heap.size w w' := by
  have hu80 := Try.underlying80
  have H := Aside0.mk h
  have q0 : ((len : Int) == 100) = false := beq_eq_false_iff_ne.mpr (by omega)
  have q0' : (len == 100) = false := beq_eq_false_iff_ne.mpr (by omega)
  have q1 : decide (u < -1) = false := decide_eq_false (by omega)
  have q2 : decide (u ≥ (len : Int)) = true := decide_eq_true h1
  clear hl h0 h1 h
  go_enter Try.func31, Try.ntmps31
  go_upto_region 0 with fail
  go_cut [5] (fun v5 w' => ∃ g5 : Nat, v5 = .pointer (some ⟨g5, 0, none⟩) ∧ w'.heap[g5]? = some (.cells #[.int .i64 p.x, .int .i64 p.y, .int .i64 p.a, .int .i64 p.s] tP (0, 0)) ∧ Below w.heap.size w w')
  case first =>
    go_wp2_with fail
    go_meet
    exact ⟨_, rfl, blk_new _ _, below_alloc (Below.refl _ _) _⟩
  case rest =>
    obtain ⟨g5, rfl, B5, hb⟩ := hcut
    have e0 := pw_cell_below hb H.out
    have HB := Aside0.mk hb
    clear hb B5
    go_wp2
    go_ret2
    exact ⟨rfl, HB.out⟩
set_option maxHeartbeats 8000000 in
set_option maxRecDepth 100000 in
theorem Add_arg (w : World) (g len c : Nat) (A : Option Addr) (h : w.cell? ⟨g, 0, none⟩ = some (.slice A len c)) (u : Int) (p : Pl) (hl : len < 100) (h0 : -1 ≤ u) (h1 : u < len) (hfit : fitsV p = false) :
    Calls Try.prog 31 #[.pointer (some ⟨g, 0, none⟩), .int .i64 u, .agg #[.int .i64 p.x, .int .i64 p.y, .int .i64 p.a, .int .i64 p.s]] w fun e w' => e = .returned (.tuple #[.int .i64 0, .int .i64 1]) ∧ Below w.heap.size w w' := by
  have hu80 := Try.underlying80
  have hu52 := Try.underlying52
  have q0 : ((len : Int) == 100) = false := beq_eq_false_iff_ne.mpr (by omega)
  have q0' : (len == 100) = false := beq_eq_false_iff_ne.mpr (by omega)
  have q1 : decide (u < -1) = false := decide_eq_false (by omega)
  have q2 : decide (u ≥ (len : Int)) = false := decide_eq_false (by omega)
  have HF := Aside0.mk (show graph_fits.f 3 p.x p.y p.a p.s = some false from by rw [show (3 : Nat) = 0 + 3 from rfl, fits_eq p 0, hfit])
  have H := Aside0.mk h
  clear hfit h h0 h1 hl
  go_enter Try.func31, Try.ntmps31
  go_upto_region 0 with fail
  go_cut [5] (fun v5 w' => ∃ g5 : Nat, v5 = .pointer (some ⟨g5, 0, none⟩) ∧ w'.heap[g5]? = some (.cells #[.int .i64 p.x, .int .i64 p.y, .int .i64 p.a, .int .i64 p.s] tP (0, 0)) ∧ Below w.heap.size w w')
  case first =>
    go_wp2_with fail
    go_meet
    exact ⟨_, rfl, blk_new _ _, below_alloc (Below.refl _ _) _⟩
  case rest =>
    obtain ⟨g5, rfl, B5, hb⟩ := hcut
    have e0 := pw_cell_below hb H.out
    have HB := Aside0.mk hb
    obtain ⟨z0, z1, z2, z3⟩ := four B5
    clear hb B5
    go_wp2_with (first | ((with_reducible refine gate_callee (f := 51) rfl ?_); refine goesL_ (some 26) rfl rfl Try.func51 (by kernel_rfl) rfl #[.agg #[.int .i64 p.x, .int .i64 p.y, .int .i64 p.a, .int .i64 p.s]] rfl (by (try simp only [List.map_toArray, List.map_cons, List.map_nil]); first | done | rfl) ?_; (refine (graph_fits.calls 3 p.x p.y p.a p.s false _ HF.out).mono ?_); rintro e w3 ⟨rfl, hb⟩; refine ⟨_, rfl, ?_⟩; clear e0 z0 z1 z2 z3; replace HB := Aside0.mk (below_step HB.out hb); clear hb))
    go_ret2
    exact ⟨rfl, HB.out⟩
set_option maxHeartbeats 8000000 in
set_option maxRecDepth 100000 in
theorem Move_loop {W0 : World} {g b0 b1 b2 b3 c0 c1 c2 c3 : Nat} {V : Nat → Pl} {r : Nat → Nat} (s : GS) (hs : Sane V r s) (n : Nat) (u : Int) (hn : n < s.up.length) (hu1 : u < s.up.length) (ha : AncI s.up n u) (w : World) (hM : GM W0 g b0 b1 b2 b3 c0 c1 c2 c3 w s) :
    Calls Try.prog 56 #[.pointer (some ⟨g, 0, none⟩), .int .i64 n, .int .i64 u] w fun e w' => e = .returned (.int .i64 11) ∧ w' = w := by
  have hu80 := Try.underlying80
  have M := Aside0.mk hM
  have HS := Aside0.mk hs
  have HA := Aside0.mk ha
  have N1 := Aside0.mk hn
  have a1 : decide ((n : Int) < 0) = false := decide_eq_false (by omega)
  have a2 : decide ((n : Int) ≥ (s.up.length : Int)) = false := decide_eq_false (by omega)
  have a2' : (s.up.length ≤ n) = False := eq_false (by omega)
  have a3 : decide (u < -1) = false := decide_eq_false (by have := ha.1; omega)
  have a4 : decide (u ≥ (s.up.length : Int)) = false := decide_eq_false (by omega)
  have e0 : w.cell? ⟨g, 0, none⟩ = some (.slice (some ⟨b0, 0, none⟩) s.up.length c0) := (blk_cell hM.box 0).trans rfl
  clear hM hs ha
  go_enter Try.func56, Try.ntmps56
  go_wp2
  go_loopg [7] (r u.toNat + 1) (fun kq v7 wr => ∃ k : Nat, v7 = .int .i64 (k : Int) ∧ Aside0 (k < s.up.length) ∧ Aside0 (AncI s.up n k) ∧ Aside0 (r k < kq) ∧ wr = w)
  case atStart => exact ⟨u.toNat, congrArg (Value.int .i64) (by have := HA.out.1; omega), ⟨by have := HA.out.1; omega⟩, ⟨by have := HA.out.1; rw [Int.toNat_of_nonneg this]; exact HA.out⟩, ⟨Nat.lt_succ_self _⟩, rfl⟩
  case round =>
    obtain ⟨k, rfl, HK, HN, HR, rfl⟩ := hrel
    have d1 : decide ((k : Int) ≥ 0) = true := decide_eq_true (by omega)
    by_cases hkn : k = n
    · subst hkn
      have d2 : ((k : Int) == (k : Int)) = true := beq_iff_eq.mpr rfl
      go_wp2
      go_ret
      exact ⟨rfl, rfl⟩
    · have d2 : ((k : Int) == (n : Int)) = false := beq_eq_false_iff_ne.mpr (by omega)
      have d3 : (k == n) = false := beq_eq_false_iff_ne.mpr hkn
      have d4 : ((0 : Int) ≤ (k : Int)) = True := eq_true (by omega)
      have d5 : ((k : Int) < (s.up.length : Int)) = True := eq_true (by have := HK.out; omega)
      have d6 : (k < s.up.length) = True := eq_true HK.out
      have e1 := (row_at M.out.r0 (up_at HK.out)).1
      obtain ⟨z, hz⟩ : ∃ z, rd s.up k = z := ⟨_, rfl⟩
      rw [hz] at e1
      have hA := anc_down HN.out hkn
      rw [hz] at hA
      obtain ⟨j, rfl⟩ := Int.eq_ofNat_of_zero_le hA.1
      have HA2 := Aside0.mk hA
      have HZ := Aside0.mk hz
      clear hA hz hkn
      cases gk with
      | zero => exact absurd HR.out (Nat.not_lt_zero _)
      | succ ky =>
        go_wp2
        go_roundg ky
        case measure => exact Nat.lt_succ_self _
        case rel =>
          have h2 := HS.out.up0 k HK.out
          have h3 := HS.out.rk k HK.out (by rw [HZ.out]; omega)
          rw [HZ.out] at h2 h3
          exact ⟨j, rfl, ⟨by omega⟩, HA2, ⟨by have := HR.out; rw [Int.toNat_natCast] at h3; omega⟩, rfl⟩
set_option maxHeartbeats 8000000 in
set_option maxRecDepth 100000 in
theorem Move_in {W0 : World} {g b0 b1 b2 b3 c0 c1 c2 c3 : Nat} {V : Nat → Pl} {r : Nat → Nat} (kf : Nat) (s : GS) (hs : Sane V r s) (n : Nat) (u : Int) (s' : GS) (hn : n < s.up.length) (hu0 : -1 ≤ u) (hu1 : u < s.up.length) (ha : ¬ AncI s.up n u) (hf : forgetF kf { s with up := s.up.set n u } n = some s') (w : World) (hM : GM W0 g b0 b1 b2 b3 c0 c1 c2 c3 w s) :
    Calls Try.prog 56 #[.pointer (some ⟨g, 0, none⟩), .int .i64 n, .int .i64 u] w fun e w' => e = .returned (.int .i64 0) ∧ GM W0 g b0 b1 b2 b3 c0 c1 c2 c3 w' s' ∧ K4 g b0 b1 b2 b3 w w' := by
  have hu80 := Try.underlying80
  have M := Aside0.mk hM
  have HS := Aside0.mk hs
  have HA := Aside0.mk ha
  have N1 := Aside0.mk hn
  have HF := Aside0.mk hf
  have HU := Aside0.mk (show u < s.up.length ∧ -1 ≤ u from ⟨hu1, hu0⟩)
  have a1 : decide ((n : Int) < 0) = false := decide_eq_false (by omega)
  have a2 : decide ((n : Int) ≥ (s.up.length : Int)) = false := decide_eq_false (by omega)
  have a2' : (s.up.length ≤ n) = False := eq_false (by omega)
  have a3 : decide (u < -1) = false := decide_eq_false (by omega)
  have a4 : decide (u ≥ (s.up.length : Int)) = false := decide_eq_false (by omega)
  have e0 : w.cell? ⟨g, 0, none⟩ = some (.slice (some ⟨b0, 0, none⟩) s.up.length c0) := (blk_cell hM.box 0).trans rfl
  clear hM hs ha hf hu0
  go_enter Try.func56, Try.ntmps56
  go_wp2
  go_loopg [7] (if 0 ≤ u then r u.toNat + 1 else 0) (fun kq v7 wr => ∃ k : Int, v7 = .int .i64 k ∧ Aside0 (k < s.up.length ∧ -1 ≤ k) ∧ Aside0 (¬ AncI s.up n k) ∧ Aside0 (0 ≤ k → r k.toNat < kq) ∧ wr = w)
  case atStart => exact ⟨u, rfl, HU, HA, ⟨fun h => by rw [if_pos h]; exact Nat.lt_succ_self _⟩, rfl⟩
  case round =>
    obtain ⟨k, rfl, HK, HN, HR, rfl⟩ := hrel
    by_cases hk0 : 0 ≤ k
    · obtain ⟨k, rfl⟩ := Int.eq_ofNat_of_zero_le hk0
      have d1 : decide ((k : Int) ≥ 0) = true := decide_eq_true (by omega)
      have hkl : k < s.up.length := by have := HK.out; omega
      have hkn : k ≠ n := fun e => HN.out (e ▸ anc_here _ _)
      have d2 : ((k : Int) == (n : Int)) = false := beq_eq_false_iff_ne.mpr (by omega)
      have d3 : (k == n) = false := beq_eq_false_iff_ne.mpr hkn
      have d4 : ((0 : Int) ≤ (k : Int)) = True := eq_true (by omega)
      have d5 : ((k : Int) < (s.up.length : Int)) = True := eq_true (by omega)
      have d6 : (k < s.up.length) = True := eq_true hkl
      have e1 := (row_at M.out.r0 (up_at hkl)).1
      obtain ⟨z, hz⟩ : ∃ z, rd s.up k = z := ⟨_, rfl⟩
      rw [hz] at e1
      have HZ := Aside0.mk hz
      have HKL := Aside0.mk hkl
      clear hz hkn hkl
      cases gk with
      | zero => exact absurd (HR.out hk0) (Nat.not_lt_zero _)
      | succ ky =>
        clear hk0
        go_wp2
        go_roundg ky
        case measure => exact Nat.lt_succ_self _
        case rel =>
          have h2 := HS.out.up0 k HKL.out
          rw [HZ.out] at h2
          refine ⟨z, rfl, ⟨h2.2, h2.1⟩, ⟨fun h => HN.out (anc_up (by rw [HZ.out]; exact h))⟩, ⟨fun h => ?_⟩, rfl⟩
          have h3 := HS.out.rk k HKL.out (by rw [HZ.out]; exact h)
          rw [HZ.out] at h3
          have h4 := HR.out (by omega)
          rw [Int.toNat_natCast] at h4
          omega
    · have d1 : decide (k ≥ 0) = false := decide_eq_false hk0
      have d2 : (0 ≤ k) = False := eq_false hk0
      clear hk0
      obtain ⟨ca, cb⟩ := row_at M.out.r0 (up_at N1.out)
      have d4 : ((0 : Int) ≤ (n : Int)) = True := eq_true (by omega)
      have d5 : ((n : Int) < (s.up.length : Int)) = True := eq_true (by have := N1.out; omega)
      have d6 : (n < s.up.length) = True := eq_true N1.out
      have M2 := Aside0.mk (M.out.moved n u)
      have KH := Aside0.mk ((K4.of (g := g) (b0 := b0) (b1 := b1) (b2 := b2) (b3 := b3) (Below.refl wr.heap.size wr)).set (i := n) (v := .int .i64 u) (.inr (.inl rfl) : b0 = g ∨ b0 = b0 ∨ b0 = b1 ∨ b0 = b2 ∨ b0 = b3))
      go_wp2_with (first | ((with_reducible refine gate_callee (f := 53) rfl ?_); refine goesL_ (some 54) rfl rfl Try.func53 (by kernel_rfl) rfl #[.pointer (some ⟨g, 0, none⟩), .int .i64 (n : Int)] rfl (by (try simp only [List.map_toArray, List.map_cons, List.map_nil]); first | done | rfl) ?_; (refine (forget_any kf _ n s' HF.out _ M2.out).mono ?_); rintro e w3 ⟨rfl, hm, hk3⟩; refine ⟨_, rfl, ?_⟩; have M2 := Aside0.mk hm; have KH := Aside0.mk (KH.out.kq hk3); clear hm hk3))
      go_ret
      exact ⟨rfl, M2.out, KH.out⟩
end Go.Proofs.Ytdopeneehminaaa.GraphMoveGraphPlays
