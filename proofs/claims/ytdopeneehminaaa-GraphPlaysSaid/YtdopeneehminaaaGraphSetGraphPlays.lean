/- (*Graph).forget, Set and At. Under the conditions that stand at each. -/
import Derived.Test.YtdopeneehminaaaGraphAtGraphPlays
namespace Go.Proofs.Ytdopeneehminaaa.GraphSetGraphPlays
open Go Go.RowKit Go.Proofs.YtdopeneehminaaaW.PrintWords Go.Proofs.YtdopeneehminaaaW.PrintLast Go.Proofs.YtdopeneehminaaaW.PrintMore Go.Proofs.Ytdopeneehminaaa.Fnv Go.Proofs.Ytdopeneehminaaa.PGraphPlays Go.Proofs.Ytdopeneehminaaa.GraphMemGraphPlays Go.Proofs.Ytdopeneehminaaa.GraphAtGraphPlays
set_option linter.unusedVariables false
set_option linter.unusedSimpArgs false
def forgetL (f : GS → Nat → Option GS) (n : Nat) : Nat → Nat → GS → Option GS
  | 0, _, s => some s
  | d + 1, i, s => if rd s.up i = n ∧ s.kn.getD i false = true then (f s i).bind fun s' => forgetL f n d (i + 1) s' else forgetL f n d (i + 1) s
def forgetF : Nat → GS → Nat → Option GS
  | 0, _, _ => none
  | k + 1, s, n => if n < s.kn.length ∧ s.kn.length = s.up.length ∧ s.up.length ≤ 1000 then forgetL (forgetF k) n s.up.length 0 { s with kn := s.kn.set n false } else none
theorem forgetL_same (f : GS → Nat → Option GS) (hf : ∀ s i s', f s i = some s' → s'.up = s.up ∧ s'.own = s.own ∧ s'.kn.length = s.kn.length ∧ s'.wh = s.wh ∧ s'.n = s.n) (n : Nat) : ∀ d i s s', forgetL f n d i s = some s' → s'.up = s.up ∧ s'.own = s.own ∧ s'.kn.length = s.kn.length ∧ s'.wh = s.wh ∧ s'.n = s.n
  | 0, i, s, s', h => by obtain rfl := Option.some.inj h; exact ⟨rfl, rfl, rfl, rfl, rfl⟩
  | d + 1, i, s, s', h => by
    rw [forgetL] at h
    by_cases c : rd s.up i = n ∧ s.kn.getD i false = true
    · rw [if_pos c] at h
      obtain ⟨s1, h1, h2⟩ := Option.bind_eq_some_iff.mp h
      obtain ⟨a, b, c, d', e⟩ := hf _ _ _ h1
      obtain ⟨a2, b2, c2, d2, e2⟩ := forgetL_same f hf n d (i + 1) s1 s' h2
      exact ⟨a2.trans a, b2.trans b, c2.trans c, d2.trans d', e2.trans e⟩
    · rw [if_neg c] at h; exact forgetL_same f hf n d (i + 1) s s' h
theorem forgetF_same : ∀ k s n s', forgetF k s n = some s' → s'.up = s.up ∧ s'.own = s.own ∧ s'.kn.length = s.kn.length ∧ s'.wh = s.wh ∧ s'.n = s.n
  | 0, s, n, s', h => by simp [forgetF] at h
  | k + 1, s, n, s', h => by
    rw [forgetF] at h
    by_cases c : n < s.kn.length ∧ s.kn.length = s.up.length ∧ s.up.length ≤ 1000
    · rw [if_pos c] at h
      have := forgetL_same _ (forgetF_same k) n _ _ _ _ h
      simpa using this
    · rw [if_neg c] at h; cases h
theorem kn_at {s : GS} {n : Nat} (h : n < s.kn.length) : (s.kn.map Value.bool)[n]? = some (.bool (s.kn.getD n false)) := by
  rw [List.getElem?_map, List.getElem?_eq_getElem h]; simp [List.getD_eq_getElem?_getD, List.getElem?_eq_getElem h]
theorem up_at {s : GS} {n : Nat} (h : n < s.up.length) : (s.up.map (Value.int .i64))[n]? = some (.int .i64 (rd s.up n)) := by
  unfold rd; rw [Int.toNat_natCast, List.getElem?_map, List.getElem?_eq_getElem h]; simp [List.getD_eq_getElem?_getD, List.getElem?_eq_getElem h]
set_option maxHeartbeats 8000000 in
set_option maxRecDepth 100000 in
theorem forget_any {W0 : World} {g b0 b1 b2 b3 c0 c1 c2 c3 : Nat} : ∀ (k : Nat) (s : GS) (n : Nat) (s' : GS), forgetF k s n = some s' → ∀ w : World, GM W0 g b0 b1 b2 b3 c0 c1 c2 c3 w s →
    Calls Try.prog 53 #[.pointer (some ⟨g, 0, none⟩), .int .i64 n] w fun e w' => e = .returned (.tuple #[]) ∧ GM W0 g b0 b1 b2 b3 c0 c1 c2 c3 w' s' ∧ Kq g b2 b3 w w' := by
  have hu1 := Try.underlying80
  intro k
  induction k with
  | zero => intro s n s' h; simp [forgetF] at h
  | succ k ih =>
    replace ih := Aside0.mk ih
    intro s n s' h w hM
    rw [forgetF] at h
    by_cases cl : n < s.kn.length ∧ s.kn.length = s.up.length ∧ s.up.length ≤ 1000
    case neg => rw [if_neg cl] at h; cases h
    rw [if_pos cl] at h
    obtain ⟨l0, l1, l2⟩ := cl
    have t0 : ((0 : Int) ≤ (n : Int)) = True := eq_true (by omega)
    have t1 : ((n : Int) < (s.kn.length : Int)) = True := eq_true (by omega)
    have e2 : w.cell? ⟨g, 2, none⟩ = some (.slice (some ⟨b2, 0, none⟩) s.kn.length c2) := (blk_cell hM.box 2).trans rfl
    obtain ⟨k0, k1⟩ := row_at hM.r2 (kn_at l0)
    have M := Aside0.mk hM
    clear hM
    replace h := Aside0.mk h
    replace l1 := Aside0.mk l1
    replace l2 := Aside0.mk l2
    go_enter Try.func53, Try.ntmps53
    go_upto_region 0 with fail
    go_cut [11] (fun v11 w' => w' = w.setCell ⟨b2, n, none⟩ (.bool false))
    case first =>
      go_wp2_with fail
      go_meet
      rfl
    case rest =>
      have M1 := Aside0.mk (M.out.know n false)
      have K := Aside0.mk (kset' (x := b2) (i := n) (v := .bool false) (Kq.refl g b2 b3 w) (.inr (.inl rfl)))
      rw [← hcut] at M1 K
      clear M e2 k0 k1 hcut
      have e0 : wc.cell? ⟨g, 0, none⟩ = some (.slice (some ⟨b0, 0, none⟩) s.up.length c0) := (blk_cell M1.out.box 0).trans rfl
      go_upto_region 1 with fail
      go_cut [15, 16, 17] (fun v15 v16 v17 w' => v15 = .slice (some ⟨b0, 0, none⟩) s.up.length c0 ∧ v16 = .int .i64 (s.up.length : Int) ∧ v17 = .int .i64 0 ∧ w' = wc)
      case first =>
        go_wp2_with fail
        go_meet
        exact ⟨rfl, rfl, rfl, rfl⟩
      case rest =>
        obtain ⟨rfl, rfl, rfl, rfl⟩ := hcut
        clear e0
        go_wp2
        go_loopg [17] (s.up.length + 1) (fun kq v17 w' => ∃ (i : Nat) (s1 : GS), v17 = .int .i64 (i : Int) ∧ Aside0 (i + kq = s.up.length + 1) ∧ Aside0 (i ≤ s.up.length) ∧ Aside0 (forgetL (forgetF k) n (s.up.length - i) i s1 = some s') ∧ Aside0 (GM W0 g b0 b1 b2 b3 c0 c1 c2 c3 w' s1) ∧ Aside0 (Kq g b2 b3 w w') ∧ Aside0 (s1.up = s.up) ∧ Aside0 (s1.kn.length = s.kn.length))
        case atStart => exact ⟨0, _, rfl, ⟨by omega⟩, ⟨Nat.zero_le _⟩, ⟨by rw [Nat.sub_zero]; exact h.out⟩, M1, K, ⟨rfl⟩, ⟨by simp⟩⟩
        case round =>
          clear h M1 K
          obtain ⟨i, s1, rfl, hk, hi, hL, M, K, hup, hkn⟩ := hrel
          cases gk with
          | zero => exact absurd hk.out (by have := hi.out; omega)
          | succ k1 =>
            by_cases ci : i < s.up.length
            · have i0 : ((0 : Int) ≤ (i : Int)) = True := eq_true (by omega)
              have i1 : decide ((i : Int) < (s.up.length : Int)) = true := decide_eq_true (by omega)
              have i2 : ((i : Int) < (s.up.length : Int)) = True := eq_true (by omega)
              have i3 : ((i : Int) < (s1.kn.length : Int)) = True := eq_true (by have h1_ := hkn.out; have h2_ := l1.out; omega)
              have hLo := hL.out
              rw [show s.up.length - i = (s.up.length - (i + 1)) + 1 by omega, forgetL, hup.out] at hLo
              have u0 := (row_at M.out.r0 (up_at (by rw [hup.out]; exact ci))).1
              rw [hup.out] at u0
              have e2 : wr.cell? ⟨g, 2, none⟩ = some (.slice (some ⟨b2, 0, none⟩) s1.kn.length c2) := (blk_cell M.out.box 2).trans rfl
              have k0 := (row_at M.out.r2 (kn_at (s := s1) (n := i) (by have h1_ := hkn.out; have h2_ := l1.out; omega))).1
              have hw : wrap64 ((i : Int) + 1) = ((i + 1 : Nat) : Int) := by unfold wrap64; have := l2.out; omega
              have ci' := Aside0.mk ci
              clear ci
              by_cases c1 : rd s.up i = (n : Int)
              · have b1 : (rd s.up (i : Int) == (n : Int)) = true := beq_iff_eq.mpr c1
                by_cases c2 : s1.kn.getD i false = true
                · rw [if_pos ⟨c1, c2⟩] at hLo
                  obtain ⟨s2, hf, hLo⟩ := Option.bind_eq_some_iff.mp hLo
                  rw [c2] at k0
                  have sm := forgetF_same _ _ _ _ hf
                  replace hf := Aside0.mk hf
                  replace hLo := Aside0.mk hLo
                  replace sm := Aside0.mk sm
                  replace hw := Aside0.mk hw
                  clear hL c1 c2
                  go_wp2_with (first | ((with_reducible refine gate_callee (f := 53) rfl ?_); refine goesL_ (some 36) rfl rfl Try.func53 (by kernel_rfl) rfl #[.pointer (some ⟨g, 0, none⟩), .int .i64 (i : Int)] rfl (by (try simp only [List.map_toArray, List.map_cons, List.map_nil]); first | done | rfl) ?_; (refine (ih.out s1 i s2 hf.out _ M.out).mono ?_); rintro e w3 ⟨rfl, hm, hk3⟩; refine ⟨_, rfl, ?_⟩; clear u0 e2 k0; replace M := Aside0.mk hm; replace K := Aside0.mk (K.out.trans hk3); clear hm hk3))
                  go_roundg k1
                  case measure => have h1_ := hk.out; omega
                  case rel => exact ⟨i + 1, s2, congrArg (Value.int .i64) hw.out, ⟨by have h1_ := hk.out; omega⟩, ⟨by have h1_ := ci'.out; omega⟩, hLo, M, K, ⟨sm.out.1.trans hup.out⟩, ⟨sm.out.2.2.1.trans hkn.out⟩⟩
                · rw [if_neg (fun h => c2 h.2)] at hLo
                  have c2f : s1.kn.getD i false = false := by simpa using c2
                  rw [c2f] at k0
                  replace hLo := Aside0.mk hLo
                  replace hw := Aside0.mk hw
                  clear hL c1 c2 c2f
                  go_wp2
                  go_roundg k1
                  case measure => have h1_ := hk.out; omega
                  case rel => exact ⟨i + 1, s1, congrArg (Value.int .i64) hw.out, ⟨by have h1_ := hk.out; omega⟩, ⟨by have h1_ := ci'.out; omega⟩, hLo, M, K, hup, hkn⟩
              · rw [if_neg (fun h => c1 h.1)] at hLo
                have b1 : (rd s.up (i : Int) == (n : Int)) = false := beq_eq_false_iff_ne.mpr c1
                replace hLo := Aside0.mk hLo
                replace hw := Aside0.mk hw
                clear hL c1
                go_wp2
                go_roundg k1
                case measure => have h1_ := hk.out; omega
                case rel => exact ⟨i + 1, s1, congrArg (Value.int .i64) hw.out, ⟨by have h1_ := hk.out; omega⟩, ⟨by have h1_ := ci'.out; omega⟩, hLo, M, K, hup, hkn⟩
            · have hLo := hL.out
              rw [show s.up.length - i = 0 by omega, forgetL] at hLo
              obtain rfl := Option.some.inj hLo
              have i1 : decide ((i : Int) < (s.up.length : Int)) = false := decide_eq_false (by omega)
              have i4 : (i < s.up.length) = False := eq_false ci
              clear ci hL
              go_wp2
              go_end0
              exact ⟨rfl, M.out, K.out⟩
theorem results_ct {fn : Func} {p u : Tmp} {ty : TypeId} {P : Program} (h : fn.results = #[.cell p ty, .tmp u]) (tmps : Array Value) (w : World) (g : Nat) (cs : Array Value)
    (hp : tmps.getD p undef = .pointer (some ⟨g, 0, none⟩)) (hl : (loadVar ty ⟨g, 0, none⟩).run P w = .ok (.agg cs) w) :
    (Go.results fn tmps).run P w = .ok (.tuple #[.agg cs, tmps.getD u undef]) w := by
  have hp' : tmps[p]?.getD undef = .pointer (some ⟨g, 0, none⟩) := by simpa using hp
  simp only [Go.results, h]
  simp [Sem.run_bind, Result.andThen, hp', asAddr, hl]
set_option maxHeartbeats 8000000 in
set_option maxRecDepth 100000 in
theorem At_in {W0 : World} {g b0 b1 b2 b3 c0 c1 c2 c3 : Nat} (k : Nat) (s : GS) (n : Nat) (p : Pl) (s' : GS) (hn : n < s.up.length) (h : atF k s n = some (p, s')) (w : World) (hM : GM W0 g b0 b1 b2 b3 c0 c1 c2 c3 w s) :
    Calls Try.prog 32 #[.pointer (some ⟨g, 0, none⟩), .int .i64 n] w fun e w' => e = .returned (.tuple #[.agg #[.int .i64 p.x, .int .i64 p.y, .int .i64 p.a, .int .i64 p.s], .int .i64 0]) ∧ GM W0 g b0 b1 b2 b3 c0 c1 c2 c3 w' s' ∧ Kq g b2 b3 w w' := by
  have hu1 := Try.underlying80
  have hu2 := Try.underlying52
  have M := Aside0.mk hM
  have H := Aside0.mk h
  have i1 : decide ((n : Int) < 0) = false := decide_eq_false (by omega)
  have i2 : decide ((n : Int) ≥ (s.up.length : Int)) = false := decide_eq_false (by omega)
  have i3 : (s.up.length ≤ n) = False := eq_false (by omega)
  clear hM h hn
  go_enter Try.func32, Try.ntmps32
  go_upto_region 0 with fail
  go_cut [4] (fun v4 w' => ∃ g4 : Nat, v4 = .pointer (some ⟨g4, 0, none⟩) ∧ w'.heap[g4]? = some (.cells #[.int .i64 0, .int .i64 0, .int .i64 0, .int .i64 0] tP (0, 0)) ∧ w.heap.size ≤ g4 ∧ Below w.heap.size w w')
  case first =>
    go_wp2_with fail
    go_meet
    exact ⟨_, rfl, blk_new _ _, Nat.le_refl _, below_alloc (Below.refl _ _) _⟩
  case rest =>
    obtain ⟨g4, rfl, B4, hg4, hb⟩ := hcut
    have N4 := Aside0.mk (away M.out hg4)
    have G4 := Aside0.mk (Nat.le_trans M.out.bel.size hg4)
    replace B4 := Aside0.mk B4
    replace M := Aside0.mk (M.out.below hb)
    have K := Aside0.mk (Kq.of (g := g) (b2 := b2) (b3 := b3) hb)
    have L4 := Aside0.mk hg4
    clear hb hg4
    have e0 : wc.cell? ⟨g, 0, none⟩ = some (.slice (some ⟨b0, 0, none⟩) s.up.length c0) := (blk_cell M.out.box 0).trans rfl
    go_wp2_with (first | ((with_reducible refine gate_callee (f := 52) rfl ?_); refine goesL_ (some 20) rfl rfl Try.func52 (by kernel_rfl) rfl #[.pointer (some ⟨g, 0, none⟩), .int .i64 (n : Int)] rfl (by (try simp only [List.map_toArray, List.map_cons, List.map_nil]); first | done | rfl) ?_; (refine (at_any k s n p s' H.out _ M.out).mono ?_); rintro e w3 ⟨rfl, hm, hk3⟩; refine ⟨_, rfl, ?_⟩; clear e0; replace B4 := Aside0.mk (hk3.blk B4.out N4.out.1 N4.out.2.2.2.1 N4.out.2.2.2.2); replace M := Aside0.mk hm; replace K := Aside0.mk (K.out.trans hk3); clear hm hk3; obtain ⟨o0, o1, o2, o3⟩ := four B4.out; have y0 := blk_frozen B4.out 0; have y1 := blk_frozen B4.out 1; have y2 := blk_frozen B4.out 2; have y3 := blk_frozen B4.out 3))
    refine bodyPost_ret (results_ct rfl _ _ g4 #[.int .i64 p.x, .int .i64 p.y, .int .i64 p.a, .int .i64 p.s] rfl (run_loadVar_row _ g4 tP tP #[.int .i64 p.x, .int .i64 p.y, .int .i64 p.a, .int .i64 p.s] (0, 0) _ (put4 B4.out _ _ _ _) Try.underlying52 rfl (by kernel_rfl))) rfl ?_
    exact ⟨rfl, far4 M.out G4.out N4.out _ _ _ _, kset4 K.out L4.out⟩
set_option maxHeartbeats 8000000 in
set_option maxRecDepth 100000 in
theorem Set_in {W0 : World} {g b0 b1 b2 b3 c0 c1 c2 c3 : Nat} (k : Nat) (s : GS) (n : Nat) (p : Pl) (s' : GS) (hn : n < s.up.length) (hn1 : n < s.own.length) (hfit : graph_fits.f k p.x p.y p.a p.s = some true) (h : forgetF k { s with own := s.own.set n p } n = some s') (w : World) (hM : GM W0 g b0 b1 b2 b3 c0 c1 c2 c3 w s) :
    Calls Try.prog 35 #[.pointer (some ⟨g, 0, none⟩), .int .i64 n, .agg #[.int .i64 p.x, .int .i64 p.y, .int .i64 p.a, .int .i64 p.s]] w fun e w' => e = .returned (.int .i64 0) ∧ GM W0 g b0 b1 b2 b3 c0 c1 c2 c3 w' s' ∧ Below W0.heap.size W0 w' ∧ K4 g b0 b1 b2 b3 w w' := by
  have hu1 := Try.underlying80
  have hu2 := Try.underlying52
  have M := Aside0.mk hM
  have H := Aside0.mk h
  have HF := Aside0.mk hfit
  have i1 : decide ((n : Int) < 0) = false := decide_eq_false (by omega)
  have i2 : decide ((n : Int) ≥ (s.up.length : Int)) = false := decide_eq_false (by omega)
  have i3 : (s.up.length ≤ n) = False := eq_false (by omega)
  have i4 : ((0 : Int) ≤ (n : Int)) = True := eq_true (by omega)
  have i5 : ((n : Int) < (s.own.length : Int)) = True := eq_true (by omega)
  have i6 := Aside0.mk hn1
  clear hM h hn hn1 hfit
  go_enter Try.func35, Try.ntmps35
  go_upto_region 0 with fail
  go_cut [5] (fun v5 w' => ∃ g5 : Nat, v5 = .pointer (some ⟨g5, 0, none⟩) ∧ w'.heap[g5]? = some (.cells #[.int .i64 p.x, .int .i64 p.y, .int .i64 p.a, .int .i64 p.s] tP (0, 0)) ∧ w.heap.size ≤ g5 ∧ Below w.heap.size w w')
  case first =>
    go_wp2_with fail
    go_meet
    exact ⟨_, rfl, blk_new _ _, Nat.le_refl _, below_alloc (Below.refl _ _) _⟩
  case rest =>
    obtain ⟨g5, rfl, B5, hg5, hb⟩ := hcut
    replace B5 := Aside0.mk B5
    replace M := Aside0.mk (M.out.below hb)
    have KH := Aside0.mk (K4.of (g := g) (b0 := b0) (b1 := b1) (b2 := b2) (b3 := b3) hb)
    clear hb hg5
    have e0 : wc.cell? ⟨g, 0, none⟩ = some (.slice (some ⟨b0, 0, none⟩) s.up.length c0) := (blk_cell M.out.box 0).trans rfl
    obtain ⟨z0, z1, z2, z3⟩ := four B5.out
    go_upto_region 5 with (first | ((with_reducible refine gate_callee (f := 51) rfl ?_); refine goesL_ (some 19) rfl rfl Try.func51 (by kernel_rfl) rfl #[.agg #[.int .i64 p.x, .int .i64 p.y, .int .i64 p.a, .int .i64 p.s]] rfl (by (try simp only [List.map_toArray, List.map_cons, List.map_nil]); first | done | rfl) ?_; (refine (graph_fits.calls k p.x p.y p.a p.s true _ HF.out).mono ?_); rintro e w3 ⟨rfl, hb⟩; refine ⟨_, rfl, ?_⟩; clear e0 z0 z1 z2 z3; replace B5 := Aside0.mk (blk_below B5.out hb); replace M := Aside0.mk (M.out.below hb); replace KH := Aside0.mk (KH.out.below hb); clear hb))
    replace M := Aside0.mk (M.out.below (Below.refl _ _).drew)
    replace KH := Aside0.mk (KH.out.below (Below.refl _ _).drew)
    replace B5 := Aside0.mk (blk_drew B5.out)
    refine start_ (n := 8) (S := fun w' => w'.cell? ⟨g, 1, none⟩ = some (.slice (some ⟨b1, 0, none⟩) s.own.length c1) ∧ w'.cell? ⟨g5, 0, none⟩ = some (.int .i64 p.x) ∧ w'.cell? ⟨g5, 1, none⟩ = some (.int .i64 p.y) ∧ w'.cell? ⟨g5, 2, none⟩ = some (.int .i64 p.a) ∧ w'.cell? ⟨g5, 3, none⟩ = some (.int .i64 p.s)) (ds := [7]) #[false, false, false, false, false, false, false, false] (by kernel_rfl) rfl rfl ⟨(blk_cell M.out.box 1).trans rfl, (blk_cell B5.out 0).trans rfl, (blk_cell B5.out 1).trans rfl, (blk_cell B5.out 2).trans rfl, (blk_cell B5.out 3).trans rfl⟩ (fun hHeld => ?_)
    generalize w3.drew = wd at M B5 KH hHeld ⊢
    refine pure_ (i := 0) (N := some 21) (v := ?_) (a' := ?_) #[true, false, false, false, false, false, false, false] rfl rfl (by kernel_rfl) (fun _ _ _ h => h) (Or.inl ⟨by rfl, ?_⟩) ?_ ?_
    rotate_left
    · intro w'
      go_simp
      with_reducible rfl
    rotate_left
    · simp only [Act.put, List.setIfInBounds_toArray, List.set_cons_zero, List.set_cons_succ, i64_w, i32_w]
      rfl
    refine pure_ (i := 1) (N := some 22) (v := ?_) (a' := ?_) #[true, true, false, false, false, false, false, false] rfl rfl (by kernel_rfl) (fun _ _ _ h => h) (Or.inl ⟨by rfl, ?_⟩) ?_ ?_
    rotate_left
    · intro w'
      go_simp
      with_reducible rfl
    rotate_left
    · simp only [Act.put, List.setIfInBounds_toArray, List.set_cons_zero, List.set_cons_succ, i64_w, i32_w]
      rfl
    refine pure_ (i := 2) (N := some 23) (v := ?_) (a' := ?_) #[true, true, true, false, false, false, false, false] rfl rfl (by kernel_rfl) (fun _ _ _ h => h) (Or.inl ⟨by rfl, ?_⟩) ?_ ?_
    rotate_left
    · intro w'
      go_simp
      with_reducible rfl
    rotate_left
    · simp only [Act.put, List.setIfInBounds_toArray, List.set_cons_zero, List.set_cons_succ, i64_w, i32_w]
      rfl
    refine pure_ (i := 4) (N := some 25) (v := ?_) (a' := ?_) #[true, true, true, false, true, false, false, false] rfl rfl (by kernel_rfl) (fun _ _ _ h => h) (Or.inl ⟨by rfl, ?_⟩) ?_ ?_
    rotate_left
    · intro w'
      go_simp
      with_reducible rfl
    rotate_left
    · simp only [Act.put, List.setIfInBounds_toArray, List.set_cons_zero, List.set_cons_succ, i64_w, i32_w]
      rfl
    refine take_ (i := 3) (N := some 24) (v := ?_) (a' := ?_) #[true, true, true, true, true, false, false, false] rfl rfl (by kernel_rfl) (fun _ _ _ h => h) (Or.inl ⟨by rfl, ?_⟩) hHeld ?_ ?_
    rotate_left
    · rintro w' ⟨s0, s1, s2, s3, s4⟩
      go_simp
      with_reducible rfl
    rotate_left
    · simp only [Act.put, List.setIfInBounds_toArray, List.set_cons_zero, List.set_cons_succ, i64_w, i32_w]
      rfl
    refine take_ (i := 5) (N := some 26) (v := ?_) (a' := ?_) #[true, true, true, true, true, true, false, false] rfl rfl (by kernel_rfl) (fun _ _ _ h => h) (Or.inl ⟨by rfl, ?_⟩) hHeld ?_ ?_
    rotate_left
    · rintro w' ⟨s0, s1, s2, s3, s4⟩
      go_simp
      with_reducible rfl
    rotate_left
    · simp only [Act.put, List.setIfInBounds_toArray, List.set_cons_zero, List.set_cons_succ, i64_w, i32_w]
      rfl
    refine pure_ (i := 6) (N := some 27) (v := ?_) (a' := ?_) #[true, true, true, true, true, true, true, false] rfl rfl (by kernel_rfl) (fun _ _ _ h => h) (Or.inl ⟨by rfl, ?_⟩) ?_ ?_
    rotate_left
    · intro w'
      go_simp
      with_reducible rfl
    rotate_left
    · simp only [Act.put, List.setIfInBounds_toArray, List.set_cons_zero, List.set_cons_succ, i64_w, i32_w]
      rfl
    refine last_ (i := 7) (N := none) #[true, true, true, true, true, true, true, true] rfl rfl (by kernel_rfl) (by decide) (fun K hK => ?_)
    obtain ⟨x0, x1, x2, x3⟩ := flat_at s.own n i6.out
    obtain ⟨ca0, cb0⟩ := row_at M.out.r1 x0
    obtain ⟨ca1, cb1⟩ := row_at M.out.r1 x1
    obtain ⟨ca2, cb2⟩ := row_at M.out.r1 x2
    obtain ⟨ca3, cb3⟩ := row_at M.out.r1 x3
    clear x0 x1 x2 x3
    refine skip_ (w1 := ?_) (by rfl) rfl ?_ ?_
    rotate_left
    · go_simp
      rfl
    clear ca0 cb0 ca1 cb1 ca2 cb2 ca3 cb3
    refine hK.out _ _ ?_
    clear hK K
    refine done_ (by kernel_rfl) ?_

    have M2 := Aside0.mk (M.out.owned n p)
    have h1 : b1 = g ∨ b1 = b0 ∨ b1 = b1 ∨ b1 = b2 ∨ b1 = b3 := .inr (.inr (.inl rfl))
    have KH := Aside0.mk ((((KH.out.set (i := n * 4) (v := .int .i64 p.x) h1).set (i := n * 4 + 1) (v := .int .i64 p.y) h1).set (i := n * 4 + 2) (v := .int .i64 p.a) h1).set (i := n * 4 + 3) (v := .int .i64 p.s) h1)
    clear h1
    generalize ((((wd.setCell ⟨b1, n * 4, none⟩ (.int .i64 p.x)).setCell ⟨b1, n * 4 + 1, none⟩ (.int .i64 p.y)).setCell ⟨b1, n * 4 + 2, none⟩ (.int .i64 p.a)).setCell ⟨b1, n * 4 + 3, none⟩ (.int .i64 p.s)) = w5 at M2 KH ⊢
    clear M B5
    go_wp2_with (first | ((with_reducible refine gate_callee (f := 53) rfl ?_); refine goesL_ (some 30) rfl rfl Try.func53 (by kernel_rfl) rfl #[.pointer (some ⟨g, 0, none⟩), .int .i64 (n : Int)] rfl (by (try simp only [List.map_toArray, List.map_cons, List.map_nil]); first | done | rfl) ?_; (refine (forget_any k _ n s' H.out _ M2.out).mono ?_); rintro e w3 ⟨rfl, hm, hk3⟩; refine ⟨_, rfl, ?_⟩; replace KH := Aside0.mk (KH.out.kq hk3); clear hk3; replace M2 := Aside0.mk hm; clear hm))
    go_ret
    exact ⟨rfl, M2.out, M2.out.bel, KH.out⟩
end Go.Proofs.Ytdopeneehminaaa.GraphSetGraphPlays
