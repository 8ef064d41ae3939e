/- (*Graph).at: where a thing is. Under the conditions that stand at each. -/
import Derived.Test.YtdopeneehminaaaGraphMemGraphPlays
namespace Go.Proofs.Ytdopeneehminaaa.GraphAtGraphPlays
open Go Go.RowKit Go.Proofs.YtdopeneehminaaaW.PrintWords Go.Proofs.YtdopeneehminaaaW.PrintLast Go.Proofs.YtdopeneehminaaaW.PrintMore Go.Proofs.Ytdopeneehminaaa.Fnv Go.Proofs.Ytdopeneehminaaa.PGraphPlays Go.Proofs.Ytdopeneehminaaa.GraphMemGraphPlays
set_option linter.unusedVariables false
set_option linter.unusedSimpArgs false
/-- A thing's place within another's. -/
def wiF (k : Nat) (q p : Pl) : Option Pl := (graph_Within.f k q.x q.y q.a q.s p.x p.y p.a p.s).map fun r => ⟨r.1, r.2.1, r.2.2.1, r.2.2.2⟩
def ownP (s : GS) (n : Nat) : Pl := { plAt s.own n with a := Go.bits .and .i64 (plAt s.own n).a 65535 }
def fin (s : GS) (n : Nat) (r : Pl) : GS := { s with wh := s.wh.set n r, kn := s.kn.set n true, n := wrap64 (s.n + 1) }
def atF : Nat → GS → Nat → Option (Pl × GS)
  | 0, _, _ => none
  | k + 1, s, n => if n < s.up.length ∧ n < s.own.length ∧ n < s.kn.length ∧ n < s.wh.length then
      (if s.kn.getD n false = true then some (plAt s.wh n, s) else
       if rd s.up n ≥ 0 then (atF k s (rd s.up n).toNat).bind fun x => (wiF k x.1 (ownP s n)).map fun r => (r, fin x.2 n r) else some (ownP s n, fin s n (ownP s n))) else none
theorem atF_len : ∀ k s n x, atF k s n = some x → x.2.up = s.up ∧ x.2.own = s.own ∧ x.2.kn.length = s.kn.length ∧ x.2.wh.length = s.wh.length
  | 0, s, n, x, h => by simp [atF] at h
  | k + 1, s, n, x, h => by
    rw [atF] at h
    by_cases c : n < s.up.length ∧ n < s.own.length ∧ n < s.kn.length ∧ n < s.wh.length
    · rw [if_pos c] at h
      by_cases c1 : s.kn.getD n false = true
      · rw [if_pos c1] at h; obtain rfl := Option.some.inj h; exact ⟨rfl, rfl, rfl, rfl⟩
      · rw [if_neg c1] at h
        by_cases c2 : rd s.up n ≥ 0
        · rw [if_pos c2] at h
          obtain ⟨y, h1, h2⟩ := Option.bind_eq_some_iff.mp h
          obtain ⟨r, _, rfl⟩ := Option.map_eq_some_iff.1 h2
          have := atF_len k s _ y h1
          exact ⟨this.1, this.2.1, by simp [fin, this.2.2.1], by simp [fin, this.2.2.2]⟩
        · rw [if_neg c2] at h; obtain rfl := Option.some.inj h; exact ⟨rfl, rfl, by simp [fin], by simp [fin]⟩
    · rw [if_neg c] at h; cases h
section
variable {W0 w : World} {g b0 b1 b2 b3 c0 c1 c2 c3 x : Nat} {s : GS}
theorem away (h : GM W0 g b0 b1 b2 b3 c0 c1 c2 c3 w s) (hx : w.heap.size ≤ x) : x ≠ g ∧ x ≠ b0 ∧ x ≠ b1 ∧ x ≠ b2 ∧ x ≠ b3 := by
  have := h.lt
  omega
theorem four {t : TypeId} {v0 v1 v2 v3 : Value} (B : w.heap[x]? = some (.cells #[v0, v1, v2, v3] t (0, 0))) : w.cell? ⟨x, 0, none⟩ = some v0 ∧ w.cell? ⟨x, 1, none⟩ = some v1 ∧ w.cell? ⟨x, 2, none⟩ = some v2 ∧ w.cell? ⟨x, 3, none⟩ = some v3 :=
  ⟨(blk_cell B 0).trans rfl, (blk_cell B 1).trans rfl, (blk_cell B 2).trans rfl, (blk_cell B 3).trans rfl⟩
theorem put4 {t : TypeId} {v0 v1 v2 v3 : Value} (B : w.heap[x]? = some (.cells #[v0, v1, v2, v3] t (0, 0))) (u0 u1 u2 u3 : Value) : ((((w.setCell ⟨x, 0, none⟩ u0).setCell ⟨x, 1, none⟩ u1).setCell ⟨x, 2, none⟩ u2).setCell ⟨x, 3, none⟩ u3).heap[x]? = some (.cells #[u0, u1, u2, u3] t (0, 0)) :=
  blk_put (blk_put (blk_put (blk_put B 0 u0 rfl) 1 u1 rfl) 2 u2 rfl) 3 u3 rfl
theorem far4 (h : GM W0 g b0 b1 b2 b3 c0 c1 c2 c3 w s) (hx : W0.heap.size ≤ x) (n : x ≠ g ∧ x ≠ b0 ∧ x ≠ b1 ∧ x ≠ b2 ∧ x ≠ b3) (u0 u1 u2 u3 : Value) : GM W0 g b0 b1 b2 b3 c0 c1 c2 c3 ((((w.setCell ⟨x, 0, none⟩ u0).setCell ⟨x, 1, none⟩ u1).setCell ⟨x, 2, none⟩ u2).setCell ⟨x, 3, none⟩ u3) s := by
  obtain ⟨n0, n1, n2, n3, n4⟩ := n
  exact (((h.far hx n0 n1 n2 n3 n4).far hx n0 n1 n2 n3 n4).far hx n0 n1 n2 n3 n4).far hx n0 n1 n2 n3 n4
theorem far4b {y : Nat} {t : TypeId} {cs : Array Value} (B : w.heap[x]? = some (.cells cs t (0, 0))) (h : x ≠ y) (u0 u1 u2 u3 : Value) : ((((w.setCell ⟨y, 0, none⟩ u0).setCell ⟨y, 1, none⟩ u1).setCell ⟨y, 2, none⟩ u2).setCell ⟨y, 3, none⟩ u3).heap[x]? = some (.cells cs t (0, 0)) :=
  blk_far (blk_far (blk_far (blk_far B h _) h _) h _) h _
theorem far5 {t : TypeId} {cs : Array Value} (B : w.heap[x]? = some (.cells cs t (0, 0))) (h2 : x ≠ b2) (h3 : x ≠ b3) (i0 i1 i2 i3 i4 : Nat) (u0 u1 u2 u3 u4 : Value) : (((((w.setCell ⟨b3, i0, none⟩ u0).setCell ⟨b3, i1, none⟩ u1).setCell ⟨b3, i2, none⟩ u2).setCell ⟨b3, i3, none⟩ u3).setCell ⟨b2, i4, none⟩ u4).heap[x]? = some (.cells cs t (0, 0)) :=
  blk_far (blk_far (blk_far (blk_far (blk_far B h3 _) h3 _) h3 _) h3 _) h2 _
end
/-- What is new may be written, too. -/
theorem kset {W w : World} {g b2 b3 x i : Nat} {v : Value} (K : Kq g b2 b3 W w) (hx : W.heap.size ≤ x) : Kq g b2 b3 W (w.setCell ⟨x, i, none⟩ v) :=
  ⟨Nat.le_trans K.size (show w.heap.size ≤ (w.setCell ⟨x, i, none⟩ v).heap.size by simp [World.setCell]), fun j h1 h2 h3 h4 => (Below.heap_setCell w _ v j (by intro e; have e' : j = x := e; omega)).trans (K.block j h1 h2 h3 h4)⟩
theorem kset' {W w : World} {g b2 b3 x i : Nat} {v : Value} (K : Kq g b2 b3 W w) (hx : x = g ∨ x = b2 ∨ x = b3) : Kq g b2 b3 W (w.setCell ⟨x, i, none⟩ v) := K.trans (.set w x i v hx)
theorem kset4 {W w : World} {g b2 b3 x : Nat} {v0 v1 v2 v3 : Value} (K : Kq g b2 b3 W w) (hx : W.heap.size ≤ x) : Kq g b2 b3 W ((((w.setCell ⟨x, 0, none⟩ v0).setCell ⟨x, 1, none⟩ v1).setCell ⟨x, 2, none⟩ v2).setCell ⟨x, 3, none⟩ v3) := kset (kset (kset (kset K hx) hx) hx) hx
set_option maxHeartbeats 8000000 in
set_option maxRecDepth 100000 in
theorem at_any {W0 : World} {g b0 b1 b2 b3 c0 c1 c2 c3 : Nat} : ∀ (k : Nat) (s : GS) (n : Nat) (p : Pl) (s' : GS), atF k s n = some (p, s') → ∀ w : World, GM W0 g b0 b1 b2 b3 c0 c1 c2 c3 w s →
    Calls Try.prog 52 #[.pointer (some ⟨g, 0, none⟩), .int .i64 n] w fun e w' => e = .returned (.agg #[.int .i64 p.x, .int .i64 p.y, .int .i64 p.a, .int .i64 p.s]) ∧ GM W0 g b0 b1 b2 b3 c0 c1 c2 c3 w' s' ∧ Kq g b2 b3 w w' := by
  have hu1 := Try.underlying80
  have hu2 := Try.underlying52
  intro k
  induction k with
  | zero => intro s n p s' h; simp [atF] at h
  | succ k ih =>
    replace ih := Aside0.mk ih
    intro s n p s' h w hM
    rw [atF] at h
    by_cases cl : n < s.up.length ∧ n < s.own.length ∧ n < s.kn.length ∧ n < s.wh.length
    case neg => rw [if_neg cl] at h; cases h
    rw [if_pos cl] at h
    obtain ⟨l0, l1, l2, l3⟩ := cl
    have ekn : (s.kn.map Value.bool)[n]? = some (.bool (s.kn.getD n false)) := by rw [List.getElem?_map, List.getElem?_eq_getElem l2]; simp [List.getD_eq_getElem?_getD, List.getElem?_eq_getElem l2]
    have eup : (s.up.map (Value.int .i64))[n]? = some (.int .i64 (rd s.up n)) := by unfold rd; rw [Int.toNat_natCast, List.getElem?_map, List.getElem?_eq_getElem l0]; simp [List.getD_eq_getElem?_getD, List.getElem?_eq_getElem l0]
    have t0 : ((0 : Int) ≤ (n : Int)) = True := eq_true (by omega)
    have t1 : ((n : Int) < (s.up.length : Int)) = True := eq_true (by omega)
    have t2 : ((n : Int) < (s.own.length : Int)) = True := eq_true (by omega)
    have t3 : ((n : Int) < (s.kn.length : Int)) = True := eq_true (by omega)
    have t4 : ((n : Int) < (s.wh.length : Int)) = True := eq_true (by omega)
    replace ekn := Aside0.mk ekn
    replace eup := Aside0.mk eup
    replace l1 := Aside0.mk l1
    replace l3 := Aside0.mk l3
    have l2k := Aside0.mk l2
    clear l0 l2
    have M := Aside0.mk hM
    clear hM
    replace h := Aside0.mk h
    go_enter Try.func52, Try.ntmps52
    go_upto_region 0 with fail
    go_cut [4] (fun v4 w' => ∃ g4 : Nat, v4 = .pointer (some ⟨g4, 0, none⟩) ∧ w'.heap[g4]? = some (.cells #[.int .i64 0, .int .i64 0, .int .i64 0, .int .i64 0] tP (0, 0)) ∧ w.heap.size ≤ g4 ∧ Below w.heap.size w w')
    case first =>
      go_wp2_with fail
      go_meet
      exact ⟨_, rfl, blk_new _ _, Nat.le_refl _, below_alloc (Below.refl _ _) _⟩
    case rest =>
      obtain ⟨g4, rfl, B4, hg4, hb⟩ := hcut
      have N4 := Aside0.mk (away M.out hg4)
      have G4 := Aside0.mk (Nat.le_trans M.out.bel.size hg4)
      replace B4 := Aside0.mk B4
      replace M := Aside0.mk (M.out.below hb)
      have K := Aside0.mk (Kq.of (g := g) (b2 := b2) (b3 := b3) hb)
      have L4 := Aside0.mk hg4
      clear hb hg4
      have e0 : wc.cell? ⟨g, 0, none⟩ = some (.slice (some ⟨b0, 0, none⟩) s.up.length c0) := (blk_cell M.out.box 0).trans rfl
      have e1 : wc.cell? ⟨g, 1, none⟩ = some (.slice (some ⟨b1, 0, none⟩) s.own.length c1) := (blk_cell M.out.box 1).trans rfl
      have e2 : wc.cell? ⟨g, 2, none⟩ = some (.slice (some ⟨b2, 0, none⟩) s.kn.length c2) := (blk_cell M.out.box 2).trans rfl
      have e3 : wc.cell? ⟨g, 3, none⟩ = some (.slice (some ⟨b3, 0, none⟩) s.wh.length c3) := (blk_cell M.out.box 3).trans rfl
      have k0 := (row_at M.out.r2 ekn.out).1
      have h' := h.out
      clear h
      by_cases ck : s.kn.getD n false = true
      · rw [if_pos ck] at h'
        obtain ⟨rfl, rfl⟩ : plAt s.wh n = p ∧ s = s' := by have e_ := Option.some.inj h'; injection e_ with e1_ e2_; exact ⟨e1_, e2_⟩
        rw [ck] at k0
        obtain ⟨x0, x1, x2, x3⟩ := flat_at s.wh n l3.out
        replace x0 := (row_at M.out.r3 x0).1
        replace x1 := (row_at M.out.r3 x1).1
        replace x2 := (row_at M.out.r3 x2).1
        replace x3 := (row_at M.out.r3 x3).1
        obtain ⟨z0, z1, z2, z3⟩ := four B4.out
        have y0 := blk_frozen B4.out 0
        have y1 := blk_frozen B4.out 1
        have y2 := blk_frozen B4.out 2
        have y3 := blk_frozen B4.out 3
        clear h' ck e0 e1 ekn eup
        go_wp2
        refine bodyPost_ret (results_cell_row rfl _ _ g4 tP #[.int .i64 (plAt s.wh n).x, .int .i64 (plAt s.wh n).y, .int .i64 (plAt s.wh n).a, .int .i64 (plAt s.wh n).s] (0, 0) _ rfl (put4 B4.out _ _ _ _) Try.underlying52 rfl (by kernel_rfl)) rfl ?_
        exact ⟨rfl, far4 M.out G4.out N4.out _ _ _ _, kset4 K.out L4.out⟩
      rw [if_neg ck] at h'
      replace h' := Aside0.mk h'
      have ckf : s.kn.getD n false = false := by simpa using ck
      rw [ckf] at k0
      clear ck ckf
      obtain ⟨x0, x1, x2, x3⟩ := flat_at s.own n l1.out
      replace x0 := (row_at M.out.r1 x0).1
      replace x1 := (row_at M.out.r1 x1).1
      replace x2 := (row_at M.out.r1 x2).1
      replace x3 := (row_at M.out.r1 x3).1
      go_upto_region 3 with fail
      go_cut [5] (fun v5 w' => ∃ g5 : Nat, v5 = .pointer (some ⟨g5, 0, none⟩) ∧ w'.heap[g5]? = some (.cells #[.int .i64 (plAt s.own n).x, .int .i64 (plAt s.own n).y, .int .i64 (plAt s.own n).a, .int .i64 (plAt s.own n).s] tP (0, 0)) ∧ wc.heap.size ≤ g5 ∧ Below wc.heap.size wc w')
      case first =>
        go_wp2_with fail
        go_meet
        exact ⟨_, rfl, blk_new _ _, Nat.le_refl _, below_alloc (Below.refl _ _) _⟩
      case rest =>
        obtain ⟨g5, rfl, B5, hg5, hb⟩ := hcut
        have N5 := Aside0.mk (away M.out hg5)
        have G5 := Aside0.mk (Nat.le_trans M.out.bel.size hg5)
        have L5 := Aside0.mk (Nat.le_trans K.out.size hg5)
        have E45 := Aside0.mk (show g4 ≠ g5 from Nat.ne_of_lt (Nat.lt_of_lt_of_le (blk_lt B4.out) hg5))
        replace B5 := Aside0.mk B5
        replace B4 := Aside0.mk (blk_below B4.out hb)
        replace M := Aside0.mk (M.out.below hb)
        replace K := Aside0.mk (K.out.trans (.of hb))
        clear hb hg5 e0 e1 e2 e3 k0 x0 x1 x2 x3
        have z2 : wc.cell? ⟨g5, 2, none⟩ = some (.int .i64 (plAt s.own n).a) := (blk_cell B5.out 2).trans rfl
        have y2 := blk_frozen B5.out 2
        go_upto_region 4 with fail
        go_cut [29] (fun v29 w' => w' = wc.setCell ⟨g5, 2, none⟩ (.int .i64 (Go.bits .and .i64 (plAt s.own n).a 65535)))
        case first =>
          go_wp2_with fail
          go_meet
          rfl
        case rest =>
          have M1 := Aside0.mk (M.out.far (i := 2) (v := .int .i64 (Go.bits .and .i64 (plAt s.own n).a 65535)) G5.out N5.out.1 N5.out.2.1 N5.out.2.2.1 N5.out.2.2.2.1 N5.out.2.2.2.2)
          have B51 := Aside0.mk (blk_put (cs' := #[.int .i64 (ownP s n).x, .int .i64 (ownP s n).y, .int .i64 (ownP s n).a, .int .i64 (ownP s n).s]) B5.out 2 (.int .i64 (Go.bits .and .i64 (plAt s.own n).a 65535)) rfl)
          have B41 := Aside0.mk (blk_far (p := ⟨g5, 2, none⟩) B4.out E45.out (.int .i64 (Go.bits .and .i64 (plAt s.own n).a 65535)))
          have K1 := Aside0.mk (kset (i := 2) (v := .int .i64 (Go.bits .and .i64 (plAt s.own n).a 65535)) K.out L5.out)
          rw [← hcut] at M1 B51 B41 K1
          clear M B5 B4 K z2 y2 hcut
          have e0 : wc.cell? ⟨g, 0, none⟩ = some (.slice (some ⟨b0, 0, none⟩) s.up.length c0) := (blk_cell M1.out.box 0).trans rfl
          have k0 := (row_at M1.out.r0 eup.out).1
          replace h' := h'.out
          by_cases cu : rd s.up n ≥ 0
          · rw [if_pos cu] at h'
            obtain ⟨⟨q, s1⟩, ha, h'⟩ := Option.bind_eq_some_iff.mp h'
            obtain ⟨r, hwi, hr⟩ := Option.map_eq_some_iff.1 h'
            obtain ⟨rfl, rfl⟩ : r = p ∧ fin s1 n r = s' := by injection hr with e1_ e2_; exact ⟨e1_, e2_⟩
            obtain ⟨rr, hwf, rfl⟩ := Option.map_eq_some_iff.1 hwi
            obtain ⟨rp, rfl⟩ : ∃ rp : Pl, (rp.x, rp.y, rp.a, rp.s) = rr := ⟨⟨rr.1, rr.2.1, rr.2.2.1, rr.2.2.2⟩, rfl⟩
            obtain ⟨u, hu⟩ : ∃ u : Nat, rd s.up n = (u : Int) := ⟨(rd s.up n).toNat, by omega⟩
            rw [hu] at k0 ha
            rw [Int.toNat_natCast] at ha
            have cub : decide ((u : Int) ≥ 0) = true := decide_eq_true (by omega)
            obtain ⟨q1, q2, q3, q4⟩ := atF_len _ _ _ _ ha
            replace ha := Aside0.mk ha
            replace hwf := Aside0.mk hwf
            replace hu := Aside0.mk hu
            replace q1 := Aside0.mk q1
            replace q3 := Aside0.mk q3
            replace q4 := Aside0.mk q4
            clear q2 h' hwi hr cu
            go_upto_region 6 with fail
            clear e0 k0
            replace M1 := Aside0.mk (M1.out.below (Below.refl _ _).drew)
            replace B51 := Aside0.mk (blk_drew B51.out)
            replace B41 := Aside0.mk (blk_drew B41.out)
            replace K1 := Aside0.mk (K1.out.trans (.of (Below.refl _ _).drew))
            refine start_ (n := 12) (S := fun w' => w'.cell? ⟨g, 0, none⟩ = some (.slice (some ⟨b0, 0, none⟩) s.up.length c0) ∧ w'.cell? ⟨b0, n, none⟩ = some (.int .i64 u) ∧ w'.cell? ⟨g5, 0, none⟩ = some (.int .i64 (ownP s n).x) ∧ w'.cell? ⟨g5, 1, none⟩ = some (.int .i64 (ownP s n).y) ∧ w'.cell? ⟨g5, 2, none⟩ = some (.int .i64 (ownP s n).a) ∧ w'.cell? ⟨g5, 3, none⟩ = some (.int .i64 (ownP s n).s)) (ds := [11]) #[false, false, false, false, false, false, false, false, false, false, false, false] (by kernel_rfl) rfl rfl ⟨(blk_cell M1.out.box 0).trans rfl, (row_at M1.out.r0 (by rw [eup.out, hu.out])).1, (blk_cell B51.out 0).trans rfl, (blk_cell B51.out 1).trans rfl, (blk_cell B51.out 2).trans rfl, (blk_cell B51.out 3).trans rfl⟩ (fun hHeld => ?_)
            generalize wc.drew = wd at M1 B51 B41 K1 hHeld ⊢
            refine pure_ (i := 0) (N := some 39) (v := ?_) (a' := ?_) #[true, false, false, false, false, false, false, false, false, false, false, false] rfl rfl (by kernel_rfl) (fun _ _ _ h => h) (Or.inl ⟨by rfl, ?_⟩) ?_ ?_
            rotate_left
            · intro w'
              go_simp
              with_reducible rfl
            rotate_left
            · simp only [Act.put, List.setIfInBounds_toArray, List.set_cons_zero, List.set_cons_succ, i64_w, i32_w]
              rfl
            refine pure_ (i := 1) (N := some 40) (v := ?_) (a' := ?_) #[true, true, false, false, false, false, false, false, false, false, false, false] rfl rfl (by kernel_rfl) (fun _ _ _ h => h) (Or.inl ⟨by rfl, ?_⟩) ?_ ?_
            rotate_left
            · intro w'
              go_simp
              with_reducible rfl
            rotate_left
            · simp only [Act.put, List.setIfInBounds_toArray, List.set_cons_zero, List.set_cons_succ, i64_w, i32_w]
              rfl
            refine pure_ (i := 2) (N := some 41) (v := ?_) (a' := ?_) #[true, true, true, false, false, false, false, false, false, false, false, false] rfl rfl (by kernel_rfl) (fun _ _ _ h => h) (Or.inl ⟨by rfl, ?_⟩) ?_ ?_
            rotate_left
            · intro w'
              go_simp
              with_reducible rfl
            rotate_left
            · simp only [Act.put, List.setIfInBounds_toArray, List.set_cons_zero, List.set_cons_succ, i64_w, i32_w]
              rfl
            refine pure_ (i := 3) (N := some 42) (v := ?_) (a' := ?_) #[true, true, true, true, false, false, false, false, false, false, false, false] rfl rfl (by kernel_rfl) (fun _ _ _ h => h) (Or.inl ⟨by rfl, ?_⟩) ?_ ?_
            rotate_left
            · intro w'
              go_simp
              with_reducible rfl
            rotate_left
            · simp only [Act.put, List.setIfInBounds_toArray, List.set_cons_zero, List.set_cons_succ, i64_w, i32_w]
              rfl
            refine pure_ (i := 5) (N := some 44) (v := ?_) (a' := ?_) #[true, true, true, true, false, true, false, false, false, false, false, false] rfl rfl (by kernel_rfl) (fun _ _ _ h => h) (Or.inl ⟨by rfl, ?_⟩) ?_ ?_
            rotate_left
            · intro w'
              go_simp
              with_reducible rfl
            rotate_left
            · simp only [Act.put, List.setIfInBounds_toArray, List.set_cons_zero, List.set_cons_succ, i64_w, i32_w]
              rfl
            refine take_ (i := 4) (N := some 43) (v := ?_) (a' := ?_) #[true, true, true, true, true, true, false, false, false, false, false, false] rfl rfl (by kernel_rfl) (fun _ _ _ h => h) (Or.inl ⟨by rfl, ?_⟩) hHeld ?_ ?_
            rotate_left
            · rintro w' ⟨s0, s1, s2, s3, s4, s5⟩
              go_simp
              with_reducible rfl
            rotate_left
            · simp only [Act.put, List.setIfInBounds_toArray, List.set_cons_zero, List.set_cons_succ, i64_w, i32_w]
              rfl
            refine pure_ (i := 6) (N := some 45) (v := ?_) (a' := ?_) #[true, true, true, true, true, true, true, false, false, false, false, false] rfl rfl (by kernel_rfl) (fun _ _ _ h => h) (Or.inl ⟨by rfl, ?_⟩) ?_ ?_
            rotate_left
            · intro w'
              go_simp
              with_reducible rfl
            rotate_left
            · simp only [Act.put, List.setIfInBounds_toArray, List.set_cons_zero, List.set_cons_succ, i64_w, i32_w]
              rfl
            refine take_ (i := 7) (N := some 46) (v := ?_) (a' := ?_) #[true, true, true, true, true, true, true, true, false, false, false, false] rfl rfl (by kernel_rfl) (fun _ _ _ h => h) (Or.inl ⟨by rfl, ?_⟩) hHeld ?_ ?_
            rotate_left
            · rintro w' ⟨s0, s1, s2, s3, s4, s5⟩
              go_simp
              with_reducible rfl
            rotate_left
            · simp only [Act.put, List.setIfInBounds_toArray, List.set_cons_zero, List.set_cons_succ, i64_w, i32_w]
              rfl
            refine take_ (i := 9) (N := some 48) (v := ?_) (a' := ?_) #[true, true, true, true, true, true, true, true, false, true, false, false] rfl rfl (by kernel_rfl) (fun _ _ _ h => h) (Or.inl ⟨by rfl, ?_⟩) hHeld ?_ ?_
            rotate_left
            · rintro w' ⟨s0, s1, s2, s3, s4, s5⟩
              go_simp
              with_reducible rfl
            rotate_left
            · simp only [Act.put, List.setIfInBounds_toArray, List.set_cons_zero, List.set_cons_succ, i64_w, i32_w]
              rfl
            refine one_ (i := 8) (N := some 47) #[true, true, true, true, true, true, true, true, true, true, false, false] rfl rfl (by kernel_rfl) (by decide) (fun K hK => ?_)
            refine goes_ Try.func52 (by kernel_rfl) rfl #[.pointer (some ⟨g, 0, none⟩), .int .i64 (u : Int)] (by rfl) rfl rfl (by simp only [List.map_toArray, List.map_cons, List.map_nil]; rfl) ?_
            with_reducible refine (ih.out s u q s1 ha.out _ M1.out).mono ?_
            rintro e w3 ⟨rfl, hm, hk⟩
            refine ⟨_, rfl, ?_⟩
            have B51 := Aside0.mk (hk.blk B51.out N5.out.1 N5.out.2.2.2.1 N5.out.2.2.2.2)
            have B41 := Aside0.mk (hk.blk B41.out N4.out.1 N4.out.2.2.2.1 N4.out.2.2.2.2)
            have M1 := Aside0.mk hm
            have K1 := Aside0.mk (K1.out.trans hk)
            clear hm hk
            refine hK.out _ _ ⟨(by rw [← q1.out]; exact (blk_cell M1.out.box 0).trans rfl), (row_at M1.out.r0 (by rw [q1.out, eup.out, hu.out])).1, (blk_cell B51.out 0).trans rfl, (blk_cell B51.out 1).trans rfl, (blk_cell B51.out 2).trans rfl, (blk_cell B51.out 3).trans rfl⟩ (fun hHeld => ?_)
            clear hK K
            refine norm_ (a' := ?_) ?_ ?_
            rotate_left
            · show Act.put _ (some 47) _ = _
              simp only [Act.put, List.setIfInBounds_toArray, List.set_cons_zero, List.set_cons_succ, i64_w, i32_w]
              rfl
            refine one_ (i := 10) (N := some 49) #[true, true, true, true, true, true, true, true, true, true, true, false] rfl rfl (by kernel_rfl) (by decide) (fun K hK => ?_)
            refine goes_ Try.func30 (by kernel_rfl) rfl #[.agg #[.int .i64 q.x, .int .i64 q.y, .int .i64 q.a, .int .i64 q.s], .agg #[.int .i64 (ownP s n).x, .int .i64 (ownP s n).y, .int .i64 (ownP s n).a, .int .i64 (ownP s n).s]] (by rfl) rfl rfl (by simp only [List.map_toArray, List.map_cons, List.map_nil]; rfl) ?_
            with_reducible refine (graph_Within.calls k q.x q.y q.a q.s (ownP s n).x (ownP s n).y (ownP s n).a (ownP s n).s rp.x rp.y rp.a rp.s _ hwf.out).mono ?_
            rintro e w4 ⟨rfl, hb⟩
            refine ⟨_, rfl, ?_⟩
            have B51 := Aside0.mk (blk_below B51.out hb)
            have B41 := Aside0.mk (blk_below B41.out hb)
            have M1 := Aside0.mk (M1.out.below hb)
            have K1 := Aside0.mk (K1.out.trans (.of hb))
            clear hb
            refine hK.out _ _ ⟨(by rw [← q1.out]; exact (blk_cell M1.out.box 0).trans rfl), (row_at M1.out.r0 (by rw [q1.out, eup.out, hu.out])).1, (blk_cell B51.out 0).trans rfl, (blk_cell B51.out 1).trans rfl, (blk_cell B51.out 2).trans rfl, (blk_cell B51.out 3).trans rfl⟩ (fun hHeld => ?_)
            clear hK K
            refine norm_ (a' := ?_) ?_ ?_
            rotate_left
            · show Act.put _ (some 49) _ = _
              simp only [Act.put, List.setIfInBounds_toArray, List.set_cons_zero, List.set_cons_succ, i64_w, i32_w]
              rfl
            refine last_ (i := 11) (N := none) #[true, true, true, true, true, true, true, true, true, true, true, true] rfl rfl (by kernel_rfl) (by decide) (fun K hK => ?_)
            obtain ⟨ca0, ca1, ca2, ca3⟩ := four B51.out
            have cb0 := blk_frozen B51.out 0
            have cb1 := blk_frozen B51.out 1
            have cb2 := blk_frozen B51.out 2
            have cb3 := blk_frozen B51.out 3
            refine skip_ (w1 := ?_) (by rfl) rfl ?_ ?_
            rotate_left
            · go_simp
              rfl
            clear ca0 cb0 ca1 cb1 ca2 cb2 ca3 cb3
            refine hK.out _ _ ?_
            clear hK K
            refine done_ (by kernel_rfl) ?_

            have M2 := Aside0.mk (far4 M1.out G5.out N5.out (.int .i64 rp.x) (.int .i64 rp.y) (.int .i64 rp.a) (.int .i64 rp.s))
            have B52 := Aside0.mk (put4 B51.out (.int .i64 rp.x) (.int .i64 rp.y) (.int .i64 rp.a) (.int .i64 rp.s))
            have B42 := Aside0.mk (far4b B41.out E45.out (.int .i64 rp.x) (.int .i64 rp.y) (.int .i64 rp.a) (.int .i64 rp.s))
            have K2 := Aside0.mk (kset4 (v0 := .int .i64 rp.x) (v1 := .int .i64 rp.y) (v2 := .int .i64 rp.a) (v3 := .int .i64 rp.s) K1.out L5.out)
            clear M1 B51 B41 K1
            have l3' := Aside0.mk (show n < s1.wh.length by rw [q4.out]; exact l3.out)
            have l2' := Aside0.mk (show n < s1.kn.length by rw [q3.out]; exact l2k.out)
            generalize ((((w4.setCell ⟨g5, 0, none⟩ (.int .i64 rp.x)).setCell ⟨g5, 1, none⟩ (.int .i64 rp.y)).setCell ⟨g5, 2, none⟩ (.int .i64 rp.a)).setCell ⟨g5, 3, none⟩ (.int .i64 rp.s)) = wc at M2 B52 B42 K2 ⊢
            have M1 := M2
            have B51 := B52
            have B41 := B42
            have K1 := K2
            clear M2 B52 B42 K2 hwf ha
            have t3' : ((n : Int) < (s1.kn.length : Int)) = True := eq_true (by have := l2'.out; omega)
            have t4' : ((n : Int) < (s1.wh.length : Int)) = True := eq_true (by have := l3'.out; omega)
            go_upto_region 7 with fail
            replace M1 := Aside0.mk (M1.out.below (Below.refl _ _).drew)
            replace B51 := Aside0.mk (blk_drew B51.out)
            replace B41 := Aside0.mk (blk_drew B41.out)
            replace K1 := Aside0.mk (K1.out.trans (.of (Below.refl _ _).drew))
            refine start_ (n := 15) (S := fun w' => w'.cell? ⟨g, 3, none⟩ = some (.slice (some ⟨b3, 0, none⟩) s1.wh.length c3) ∧ w'.cell? ⟨g, 2, none⟩ = some (.slice (some ⟨b2, 0, none⟩) s1.kn.length c2) ∧ w'.cell? ⟨g5, 0, none⟩ = some (.int .i64 rp.x) ∧ w'.cell? ⟨g5, 1, none⟩ = some (.int .i64 rp.y) ∧ w'.cell? ⟨g5, 2, none⟩ = some (.int .i64 rp.a) ∧ w'.cell? ⟨g5, 3, none⟩ = some (.int .i64 rp.s)) (ds := [12, 14]) #[false, false, false, false, false, false, false, false, false, false, false, false, false, false, false] (by kernel_rfl) rfl rfl ⟨(blk_cell M1.out.box 3).trans rfl, (blk_cell M1.out.box 2).trans rfl, (blk_cell B51.out 0).trans rfl, (blk_cell B51.out 1).trans rfl, (blk_cell B51.out 2).trans rfl, (blk_cell B51.out 3).trans rfl⟩ (fun hHeld => ?_)
            generalize wc.drew = wd at M1 B51 B41 K1 hHeld ⊢
            refine pure_ (i := 0) (N := some 50) (v := ?_) (a' := ?_) #[true, false, false, false, false, false, false, false, false, false, false, false, false, false, false] rfl rfl (by kernel_rfl) (fun _ _ _ h => h) (Or.inl ⟨by rfl, ?_⟩) ?_ ?_
            rotate_left
            · intro w'
              go_simp
              with_reducible rfl
            rotate_left
            · simp only [Act.put, List.setIfInBounds_toArray, List.set_cons_zero, List.set_cons_succ, i64_w, i32_w]
              rfl
            refine pure_ (i := 1) (N := some 51) (v := ?_) (a' := ?_) #[true, true, false, false, false, false, false, false, false, false, false, false, false, false, false] rfl rfl (by kernel_rfl) (fun _ _ _ h => h) (Or.inl ⟨by rfl, ?_⟩) ?_ ?_
            rotate_left
            · intro w'
              go_simp
              with_reducible rfl
            rotate_left
            · simp only [Act.put, List.setIfInBounds_toArray, List.set_cons_zero, List.set_cons_succ, i64_w, i32_w]
              rfl
            refine pure_ (i := 2) (N := some 52) (v := ?_) (a' := ?_) #[true, true, true, false, false, false, false, false, false, false, false, false, false, false, false] rfl rfl (by kernel_rfl) (fun _ _ _ h => h) (Or.inl ⟨by rfl, ?_⟩) ?_ ?_
            rotate_left
            · intro w'
              go_simp
              with_reducible rfl
            rotate_left
            · simp only [Act.put, List.setIfInBounds_toArray, List.set_cons_zero, List.set_cons_succ, i64_w, i32_w]
              rfl
            refine pure_ (i := 4) (N := some 54) (v := ?_) (a' := ?_) #[true, true, true, false, true, false, false, false, false, false, false, false, false, false, false] rfl rfl (by kernel_rfl) (fun _ _ _ h => h) (Or.inl ⟨by rfl, ?_⟩) ?_ ?_
            rotate_left
            · intro w'
              go_simp
              with_reducible rfl
            rotate_left
            · simp only [Act.put, List.setIfInBounds_toArray, List.set_cons_zero, List.set_cons_succ, i64_w, i32_w]
              rfl
            refine pure_ (i := 5) (N := some 55) (v := ?_) (a' := ?_) #[true, true, true, false, true, true, false, false, false, false, false, false, false, false, false] rfl rfl (by kernel_rfl) (fun _ _ _ h => h) (Or.inl ⟨by rfl, ?_⟩) ?_ ?_
            rotate_left
            · intro w'
              go_simp
              with_reducible rfl
            rotate_left
            · simp only [Act.put, List.setIfInBounds_toArray, List.set_cons_zero, List.set_cons_succ, i64_w, i32_w]
              rfl
            refine pure_ (i := 6) (N := some 56) (v := ?_) (a' := ?_) #[true, true, true, false, true, true, true, false, false, false, false, false, false, false, false] rfl rfl (by kernel_rfl) (fun _ _ _ h => h) (Or.inl ⟨by rfl, ?_⟩) ?_ ?_
            rotate_left
            · intro w'
              go_simp
              with_reducible rfl
            rotate_left
            · simp only [Act.put, List.setIfInBounds_toArray, List.set_cons_zero, List.set_cons_succ, i64_w, i32_w]
              rfl
            refine pure_ (i := 7) (N := some 57) (v := ?_) (a' := ?_) #[true, true, true, false, true, true, true, true, false, false, false, false, false, false, false] rfl rfl (by kernel_rfl) (fun _ _ _ h => h) (Or.inl ⟨by rfl, ?_⟩) ?_ ?_
            rotate_left
            · intro w'
              go_simp
              with_reducible rfl
            rotate_left
            · simp only [Act.put, List.setIfInBounds_toArray, List.set_cons_zero, List.set_cons_succ, i64_w, i32_w]
              rfl
            refine pure_ (i := 9) (N := some 59) (v := ?_) (a' := ?_) #[true, true, true, false, true, true, true, true, false, true, false, false, false, false, false] rfl rfl (by kernel_rfl) (fun _ _ _ h => h) (Or.inl ⟨by rfl, ?_⟩) ?_ ?_
            rotate_left
            · intro w'
              go_simp
              with_reducible rfl
            rotate_left
            · simp only [Act.put, List.setIfInBounds_toArray, List.set_cons_zero, List.set_cons_succ, i64_w, i32_w]
              rfl
            refine take_ (i := 3) (N := some 53) (v := ?_) (a' := ?_) #[true, true, true, true, true, true, true, true, false, true, false, false, false, false, false] rfl rfl (by kernel_rfl) (fun _ _ _ h => h) (Or.inl ⟨by rfl, ?_⟩) hHeld ?_ ?_
            rotate_left
            · rintro w' ⟨s0, s1, s2, s3, s4, s5⟩
              go_simp
              with_reducible rfl
            rotate_left
            · simp only [Act.put, List.setIfInBounds_toArray, List.set_cons_zero, List.set_cons_succ, i64_w, i32_w]
              rfl
            refine take_ (i := 8) (N := some 58) (v := ?_) (a' := ?_) #[true, true, true, true, true, true, true, true, true, true, false, false, false, false, false] rfl rfl (by kernel_rfl) (fun _ _ _ h => h) (Or.inl ⟨by rfl, ?_⟩) hHeld ?_ ?_
            rotate_left
            · rintro w' ⟨s0, s1, s2, s3, s4, s5⟩
              go_simp
              with_reducible rfl
            rotate_left
            · simp only [Act.put, List.setIfInBounds_toArray, List.set_cons_zero, List.set_cons_succ, i64_w, i32_w]
              rfl
            refine take_ (i := 10) (N := some 60) (v := ?_) (a' := ?_) #[true, true, true, true, true, true, true, true, true, true, true, false, false, false, false] rfl rfl (by kernel_rfl) (fun _ _ _ h => h) (Or.inl ⟨by rfl, ?_⟩) hHeld ?_ ?_
            rotate_left
            · rintro w' ⟨s0, s1, s2, s3, s4, s5⟩
              go_simp
              with_reducible rfl
            rotate_left
            · simp only [Act.put, List.setIfInBounds_toArray, List.set_cons_zero, List.set_cons_succ, i64_w, i32_w]
              rfl
            refine pure_ (i := 11) (N := some 61) (v := ?_) (a' := ?_) #[true, true, true, true, true, true, true, true, true, true, true, true, false, false, false] rfl rfl (by kernel_rfl) (fun _ _ _ h => h) (Or.inl ⟨by rfl, ?_⟩) ?_ ?_
            rotate_left
            · intro w'
              go_simp
              with_reducible rfl
            rotate_left
            · simp only [Act.put, List.setIfInBounds_toArray, List.set_cons_zero, List.set_cons_succ, i64_w, i32_w]
              rfl
            refine last_ (i := 12) (N := none) #[true, true, true, true, true, true, true, true, true, true, true, true, true, false, false] rfl rfl (by kernel_rfl) (by decide) (fun K hK => ?_)
            obtain ⟨x0, x1, x2, x3⟩ := flat_at s1.wh n l3'.out
            obtain ⟨ca0, cb0⟩ := row_at M1.out.r3 x0
            obtain ⟨ca1, cb1⟩ := row_at M1.out.r3 x1
            obtain ⟨ca2, cb2⟩ := row_at M1.out.r3 x2
            obtain ⟨ca3, cb3⟩ := row_at M1.out.r3 x3
            clear x0 x1 x2 x3
            refine skip_ (w1 := ?_) (by rfl) rfl ?_ ?_
            rotate_left
            · go_simp
              rfl
            clear ca0 cb0 ca1 cb1 ca2 cb2 ca3 cb3
            refine hK.out _ _ ?_
            clear hK K
            refine pure_ (i := 13) (N := some 62) (v := ?_) (a' := ?_) #[true, true, true, true, true, true, true, true, true, true, true, true, true, true, false] rfl rfl (by kernel_rfl) (fun _ _ _ h => h) (Or.inl ⟨by rfl, ?_⟩) ?_ ?_
            rotate_left
            · intro w'
              go_simp
              with_reducible rfl
            rotate_left
            · simp only [Act.put, List.setIfInBounds_toArray, List.set_cons_zero, List.set_cons_succ, i64_w, i32_w]
              rfl
            refine last_ (i := 14) (N := none) #[true, true, true, true, true, true, true, true, true, true, true, true, true, true, true] rfl rfl (by kernel_rfl) (by decide) (fun K hK => ?_)
            have M2 := Aside0.mk (M1.out.place n rp)
            obtain ⟨ka, kb⟩ := row_at M2.out.r2 (show ((s1.kn.map Value.bool)[n]? = some (.bool (s1.kn.getD n false))) by rw [List.getElem?_map, List.getElem?_eq_getElem l2'.out]; simp [List.getD_eq_getElem?_getD, List.getElem?_eq_getElem l2'.out])
            refine skip_ (w1 := ?_) (by rfl) rfl ?_ ?_
            rotate_left
            · go_simp
              rfl
            clear ka kb
            refine hK.out _ _ ?_
            clear hK K
            refine done_ (by kernel_rfl) ?_

            have M3 := Aside0.mk ((M1.out.place n rp).know n true)
            have B53 := Aside0.mk (far5 (b2 := b2) (b3 := b3) B51.out N5.out.2.2.2.1 N5.out.2.2.2.2 (n * 4) (n * 4 + 1) (n * 4 + 2) (n * 4 + 3) n (.int .i64 rp.x) (.int .i64 rp.y) (.int .i64 rp.a) (.int .i64 rp.s) (.bool true))
            have B43 := Aside0.mk (far5 (b2 := b2) (b3 := b3) B41.out N4.out.2.2.2.1 N4.out.2.2.2.2 (n * 4) (n * 4 + 1) (n * 4 + 2) (n * 4 + 3) n (.int .i64 rp.x) (.int .i64 rp.y) (.int .i64 rp.a) (.int .i64 rp.s) (.bool true))
            have K3 := Aside0.mk (kset' (x := b2) (i := n) (v := .bool true) (kset' (x := b3) (i := n * 4 + 3) (v := .int .i64 rp.s) (kset' (x := b3) (i := n * 4 + 2) (v := .int .i64 rp.a) (kset' (x := b3) (i := n * 4 + 1) (v := .int .i64 rp.y) (kset' (x := b3) (i := n * 4) (v := .int .i64 rp.x) K1.out (.inr (.inr rfl))) (.inr (.inr rfl))) (.inr (.inr rfl))) (.inr (.inr rfl))) (.inr (.inl rfl)))
            generalize (((((wd.setCell ⟨b3, n * 4, none⟩ (.int .i64 rp.x)).setCell ⟨b3, n * 4 + 1, none⟩ (.int .i64 rp.y)).setCell ⟨b3, n * 4 + 2, none⟩ (.int .i64 rp.a)).setCell ⟨b3, n * 4 + 3, none⟩ (.int .i64 rp.s)).setCell ⟨b2, n, none⟩ (.bool true)) = w3 at M3 B53 B43 K3 ⊢
            clear M1 B51 B41 K1
            have e4 : w3.cell? ⟨g, 4, none⟩ = some (.int .i64 s1.n) := (blk_cell M3.out.box 4).trans rfl
            have f4 := blk_frozen M3.out.box 4
            go_upto_region 8 with fail
            go_cut [67] (fun v67 w' => w' = w3.setCell ⟨g, 4, none⟩ (.int .i64 (wrap64 (s1.n + 1))))
            case first =>
              go_wp2_with fail
              go_meet
              rfl
            case rest =>
              have M4 := Aside0.mk (M3.out.counted (wrap64 (s1.n + 1)))
              have B54 := Aside0.mk (blk_far (p := ⟨g, 4, none⟩) B53.out N5.out.1 (.int .i64 (wrap64 (s1.n + 1))))
              have B44 := Aside0.mk (blk_far (p := ⟨g, 4, none⟩) B43.out N4.out.1 (.int .i64 (wrap64 (s1.n + 1))))
              have K4 := Aside0.mk (kset' (x := g) (i := 4) (v := .int .i64 (wrap64 (s1.n + 1))) K3.out (.inl rfl))
              rw [← hcut] at M4 B54 B44 K4
              clear M3 B53 B43 K3 e4 f4 hcut
              obtain ⟨z0, z1, z2, z3⟩ := four B54.out
              obtain ⟨o0, o1, o2, o3⟩ := four B44.out
              have y0 := blk_frozen B44.out 0
              have y1 := blk_frozen B44.out 1
              have y2 := blk_frozen B44.out 2
              have y3 := blk_frozen B44.out 3
              go_wp2
              refine bodyPost_ret (results_cell_row rfl _ _ g4 tP #[.int .i64 rp.x, .int .i64 rp.y, .int .i64 rp.a, .int .i64 rp.s] (0, 0) _ rfl (put4 B44.out _ _ _ _) Try.underlying52 rfl (by kernel_rfl)) rfl ?_
              exact ⟨rfl, far4 M4.out G4.out N4.out _ _ _ _, kset4 K4.out L4.out⟩
          · rw [if_neg cu] at h'
            obtain ⟨rfl, rfl⟩ : ownP s n = p ∧ fin s n (ownP s n) = s' := by have e_ := Option.some.inj h'; injection e_ with e1_ e2_; exact ⟨e1_, e2_⟩
            have cub : decide (rd s.up n ≥ 0) = false := decide_eq_false cu
            clear h' cu
            have l3' := l3
            have l2' := l2k
            go_upto_region 7 with fail
            replace M1 := Aside0.mk (M1.out.below (Below.refl _ _).drew)
            replace B51 := Aside0.mk (blk_drew B51.out)
            replace B41 := Aside0.mk (blk_drew B41.out)
            replace K1 := Aside0.mk (K1.out.trans (.of (Below.refl _ _).drew))
            refine start_ (n := 15) (S := fun w' => w'.cell? ⟨g, 3, none⟩ = some (.slice (some ⟨b3, 0, none⟩) s.wh.length c3) ∧ w'.cell? ⟨g, 2, none⟩ = some (.slice (some ⟨b2, 0, none⟩) s.kn.length c2) ∧ w'.cell? ⟨g5, 0, none⟩ = some (.int .i64 (ownP s n).x) ∧ w'.cell? ⟨g5, 1, none⟩ = some (.int .i64 (ownP s n).y) ∧ w'.cell? ⟨g5, 2, none⟩ = some (.int .i64 (ownP s n).a) ∧ w'.cell? ⟨g5, 3, none⟩ = some (.int .i64 (ownP s n).s)) (ds := [12, 14]) #[false, false, false, false, false, false, false, false, false, false, false, false, false, false, false] (by kernel_rfl) rfl rfl ⟨(blk_cell M1.out.box 3).trans rfl, (blk_cell M1.out.box 2).trans rfl, (blk_cell B51.out 0).trans rfl, (blk_cell B51.out 1).trans rfl, (blk_cell B51.out 2).trans rfl, (blk_cell B51.out 3).trans rfl⟩ (fun hHeld => ?_)
            generalize wc.drew = wd at M1 B51 B41 K1 hHeld ⊢
            refine pure_ (i := 0) (N := some 50) (v := ?_) (a' := ?_) #[true, false, false, false, false, false, false, false, false, false, false, false, false, false, false] rfl rfl (by kernel_rfl) (fun _ _ _ h => h) (Or.inl ⟨by rfl, ?_⟩) ?_ ?_
            rotate_left
            · intro w'
              go_simp
              with_reducible rfl
            rotate_left
            · simp only [Act.put, List.setIfInBounds_toArray, List.set_cons_zero, List.set_cons_succ, i64_w, i32_w]
              rfl
            refine pure_ (i := 1) (N := some 51) (v := ?_) (a' := ?_) #[true, true, false, false, false, false, false, false, false, false, false, false, false, false, false] rfl rfl (by kernel_rfl) (fun _ _ _ h => h) (Or.inl ⟨by rfl, ?_⟩) ?_ ?_
            rotate_left
            · intro w'
              go_simp
              with_reducible rfl
            rotate_left
            · simp only [Act.put, List.setIfInBounds_toArray, List.set_cons_zero, List.set_cons_succ, i64_w, i32_w]
              rfl
            refine pure_ (i := 2) (N := some 52) (v := ?_) (a' := ?_) #[true, true, true, false, false, false, false, false, false, false, false, false, false, false, false] rfl rfl (by kernel_rfl) (fun _ _ _ h => h) (Or.inl ⟨by rfl, ?_⟩) ?_ ?_
            rotate_left
            · intro w'
              go_simp
              with_reducible rfl
            rotate_left
            · simp only [Act.put, List.setIfInBounds_toArray, List.set_cons_zero, List.set_cons_succ, i64_w, i32_w]
              rfl
            refine pure_ (i := 4) (N := some 54) (v := ?_) (a' := ?_) #[true, true, true, false, true, false, false, false, false, false, false, false, false, false, false] rfl rfl (by kernel_rfl) (fun _ _ _ h => h) (Or.inl ⟨by rfl, ?_⟩) ?_ ?_
            rotate_left
            · intro w'
              go_simp
              with_reducible rfl
            rotate_left
            · simp only [Act.put, List.setIfInBounds_toArray, List.set_cons_zero, List.set_cons_succ, i64_w, i32_w]
              rfl
            refine pure_ (i := 5) (N := some 55) (v := ?_) (a' := ?_) #[true, true, true, false, true, true, false, false, false, false, false, false, false, false, false] rfl rfl (by kernel_rfl) (fun _ _ _ h => h) (Or.inl ⟨by rfl, ?_⟩) ?_ ?_
            rotate_left
            · intro w'
              go_simp
              with_reducible rfl
            rotate_left
            · simp only [Act.put, List.setIfInBounds_toArray, List.set_cons_zero, List.set_cons_succ, i64_w, i32_w]
              rfl
            refine pure_ (i := 6) (N := some 56) (v := ?_) (a' := ?_) #[true, true, true, false, true, true, true, false, false, false, false, false, false, false, false] rfl rfl (by kernel_rfl) (fun _ _ _ h => h) (Or.inl ⟨by rfl, ?_⟩) ?_ ?_
            rotate_left
            · intro w'
              go_simp
              with_reducible rfl
            rotate_left
            · simp only [Act.put, List.setIfInBounds_toArray, List.set_cons_zero, List.set_cons_succ, i64_w, i32_w]
              rfl
            refine pure_ (i := 7) (N := some 57) (v := ?_) (a' := ?_) #[true, true, true, false, true, true, true, true, false, false, false, false, false, false, false] rfl rfl (by kernel_rfl) (fun _ _ _ h => h) (Or.inl ⟨by rfl, ?_⟩) ?_ ?_
            rotate_left
            · intro w'
              go_simp
              with_reducible rfl
            rotate_left
            · simp only [Act.put, List.setIfInBounds_toArray, List.set_cons_zero, List.set_cons_succ, i64_w, i32_w]
              rfl
            refine pure_ (i := 9) (N := some 59) (v := ?_) (a' := ?_) #[true, true, true, false, true, true, true, true, false, true, false, false, false, false, false] rfl rfl (by kernel_rfl) (fun _ _ _ h => h) (Or.inl ⟨by rfl, ?_⟩) ?_ ?_
            rotate_left
            · intro w'
              go_simp
              with_reducible rfl
            rotate_left
            · simp only [Act.put, List.setIfInBounds_toArray, List.set_cons_zero, List.set_cons_succ, i64_w, i32_w]
              rfl
            refine take_ (i := 3) (N := some 53) (v := ?_) (a' := ?_) #[true, true, true, true, true, true, true, true, false, true, false, false, false, false, false] rfl rfl (by kernel_rfl) (fun _ _ _ h => h) (Or.inl ⟨by rfl, ?_⟩) hHeld ?_ ?_
            rotate_left
            · rintro w' ⟨s0, s1, s2, s3, s4, s5⟩
              go_simp
              with_reducible rfl
            rotate_left
            · simp only [Act.put, List.setIfInBounds_toArray, List.set_cons_zero, List.set_cons_succ, i64_w, i32_w]
              rfl
            refine take_ (i := 8) (N := some 58) (v := ?_) (a' := ?_) #[true, true, true, true, true, true, true, true, true, true, false, false, false, false, false] rfl rfl (by kernel_rfl) (fun _ _ _ h => h) (Or.inl ⟨by rfl, ?_⟩) hHeld ?_ ?_
            rotate_left
            · rintro w' ⟨s0, s1, s2, s3, s4, s5⟩
              go_simp
              with_reducible rfl
            rotate_left
            · simp only [Act.put, List.setIfInBounds_toArray, List.set_cons_zero, List.set_cons_succ, i64_w, i32_w]
              rfl
            refine take_ (i := 10) (N := some 60) (v := ?_) (a' := ?_) #[true, true, true, true, true, true, true, true, true, true, true, false, false, false, false] rfl rfl (by kernel_rfl) (fun _ _ _ h => h) (Or.inl ⟨by rfl, ?_⟩) hHeld ?_ ?_
            rotate_left
            · rintro w' ⟨s0, s1, s2, s3, s4, s5⟩
              go_simp
              with_reducible rfl
            rotate_left
            · simp only [Act.put, List.setIfInBounds_toArray, List.set_cons_zero, List.set_cons_succ, i64_w, i32_w]
              rfl
            refine pure_ (i := 11) (N := some 61) (v := ?_) (a' := ?_) #[true, true, true, true, true, true, true, true, true, true, true, true, false, false, false] rfl rfl (by kernel_rfl) (fun _ _ _ h => h) (Or.inl ⟨by rfl, ?_⟩) ?_ ?_
            rotate_left
            · intro w'
              go_simp
              with_reducible rfl
            rotate_left
            · simp only [Act.put, List.setIfInBounds_toArray, List.set_cons_zero, List.set_cons_succ, i64_w, i32_w]
              rfl
            refine last_ (i := 12) (N := none) #[true, true, true, true, true, true, true, true, true, true, true, true, true, false, false] rfl rfl (by kernel_rfl) (by decide) (fun K hK => ?_)
            obtain ⟨x0, x1, x2, x3⟩ := flat_at s.wh n l3'.out
            obtain ⟨ca0, cb0⟩ := row_at M1.out.r3 x0
            obtain ⟨ca1, cb1⟩ := row_at M1.out.r3 x1
            obtain ⟨ca2, cb2⟩ := row_at M1.out.r3 x2
            obtain ⟨ca3, cb3⟩ := row_at M1.out.r3 x3
            clear x0 x1 x2 x3
            refine skip_ (w1 := ?_) (by rfl) rfl ?_ ?_
            rotate_left
            · go_simp
              rfl
            clear ca0 cb0 ca1 cb1 ca2 cb2 ca3 cb3
            refine hK.out _ _ ?_
            clear hK K
            refine pure_ (i := 13) (N := some 62) (v := ?_) (a' := ?_) #[true, true, true, true, true, true, true, true, true, true, true, true, true, true, false] rfl rfl (by kernel_rfl) (fun _ _ _ h => h) (Or.inl ⟨by rfl, ?_⟩) ?_ ?_
            rotate_left
            · intro w'
              go_simp
              with_reducible rfl
            rotate_left
            · simp only [Act.put, List.setIfInBounds_toArray, List.set_cons_zero, List.set_cons_succ, i64_w, i32_w]
              rfl
            refine last_ (i := 14) (N := none) #[true, true, true, true, true, true, true, true, true, true, true, true, true, true, true] rfl rfl (by kernel_rfl) (by decide) (fun K hK => ?_)
            have M2 := Aside0.mk (M1.out.place n (ownP s n))
            obtain ⟨ka, kb⟩ := row_at M2.out.r2 (show ((s.kn.map Value.bool)[n]? = some (.bool (s.kn.getD n false))) by rw [List.getElem?_map, List.getElem?_eq_getElem l2'.out]; simp [List.getD_eq_getElem?_getD, List.getElem?_eq_getElem l2'.out])
            refine skip_ (w1 := ?_) (by rfl) rfl ?_ ?_
            rotate_left
            · go_simp
              rfl
            clear ka kb
            refine hK.out _ _ ?_
            clear hK K
            refine done_ (by kernel_rfl) ?_

            have M3 := Aside0.mk ((M1.out.place n (ownP s n)).know n true)
            have B53 := Aside0.mk (far5 (b2 := b2) (b3 := b3) B51.out N5.out.2.2.2.1 N5.out.2.2.2.2 (n * 4) (n * 4 + 1) (n * 4 + 2) (n * 4 + 3) n (.int .i64 (ownP s n).x) (.int .i64 (ownP s n).y) (.int .i64 (ownP s n).a) (.int .i64 (ownP s n).s) (.bool true))
            have B43 := Aside0.mk (far5 (b2 := b2) (b3 := b3) B41.out N4.out.2.2.2.1 N4.out.2.2.2.2 (n * 4) (n * 4 + 1) (n * 4 + 2) (n * 4 + 3) n (.int .i64 (ownP s n).x) (.int .i64 (ownP s n).y) (.int .i64 (ownP s n).a) (.int .i64 (ownP s n).s) (.bool true))
            have K3 := Aside0.mk (kset' (x := b2) (i := n) (v := .bool true) (kset' (x := b3) (i := n * 4 + 3) (v := .int .i64 (ownP s n).s) (kset' (x := b3) (i := n * 4 + 2) (v := .int .i64 (ownP s n).a) (kset' (x := b3) (i := n * 4 + 1) (v := .int .i64 (ownP s n).y) (kset' (x := b3) (i := n * 4) (v := .int .i64 (ownP s n).x) K1.out (.inr (.inr rfl))) (.inr (.inr rfl))) (.inr (.inr rfl))) (.inr (.inr rfl))) (.inr (.inl rfl)))
            generalize (((((wd.setCell ⟨b3, n * 4, none⟩ (.int .i64 (ownP s n).x)).setCell ⟨b3, n * 4 + 1, none⟩ (.int .i64 (ownP s n).y)).setCell ⟨b3, n * 4 + 2, none⟩ (.int .i64 (ownP s n).a)).setCell ⟨b3, n * 4 + 3, none⟩ (.int .i64 (ownP s n).s)).setCell ⟨b2, n, none⟩ (.bool true)) = w3 at M3 B53 B43 K3 ⊢
            clear M1 B51 B41 K1
            have e4 : w3.cell? ⟨g, 4, none⟩ = some (.int .i64 s.n) := (blk_cell M3.out.box 4).trans rfl
            have f4 := blk_frozen M3.out.box 4
            go_upto_region 8 with fail
            go_cut [67] (fun v67 w' => w' = w3.setCell ⟨g, 4, none⟩ (.int .i64 (wrap64 (s.n + 1))))
            case first =>
              go_wp2_with fail
              go_meet
              rfl
            case rest =>
              have M4 := Aside0.mk (M3.out.counted (wrap64 (s.n + 1)))
              have B54 := Aside0.mk (blk_far (p := ⟨g, 4, none⟩) B53.out N5.out.1 (.int .i64 (wrap64 (s.n + 1))))
              have B44 := Aside0.mk (blk_far (p := ⟨g, 4, none⟩) B43.out N4.out.1 (.int .i64 (wrap64 (s.n + 1))))
              have K4 := Aside0.mk (kset' (x := g) (i := 4) (v := .int .i64 (wrap64 (s.n + 1))) K3.out (.inl rfl))
              rw [← hcut] at M4 B54 B44 K4
              clear M3 B53 B43 K3 e4 f4 hcut
              obtain ⟨z0, z1, z2, z3⟩ := four B54.out
              obtain ⟨o0, o1, o2, o3⟩ := four B44.out
              have y0 := blk_frozen B44.out 0
              have y1 := blk_frozen B44.out 1
              have y2 := blk_frozen B44.out 2
              have y3 := blk_frozen B44.out 3
              go_wp2
              refine bodyPost_ret (results_cell_row rfl _ _ g4 tP #[.int .i64 (ownP s n).x, .int .i64 (ownP s n).y, .int .i64 (ownP s n).a, .int .i64 (ownP s n).s] (0, 0) _ rfl (put4 B44.out _ _ _ _) Try.underlying52 rfl (by kernel_rfl)) rfl ?_
              exact ⟨rfl, far4 M4.out G4.out N4.out _ _ _ _, kset4 K4.out L4.out⟩
end Go.Proofs.Ytdopeneehminaaa.GraphAtGraphPlays
