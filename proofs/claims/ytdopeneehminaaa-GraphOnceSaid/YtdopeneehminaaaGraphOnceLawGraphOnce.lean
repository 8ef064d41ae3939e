/- Scenes that grow, and passes over them. Plain. -/
import Derived.Test.YtdopeneehminaaaGraphNewGraphOnce
namespace Go.Proofs.Ytdopeneehminaaa.GraphOnceLawGraphOnce
open Go Go.RowKit Go.Proofs.YtdopeneehminaaaW.PrintWords Go.Proofs.YtdopeneehminaaaW.PrintLast Go.Proofs.YtdopeneehminaaaW.PrintMore Go.Proofs.Ytdopeneehminaaa.Fnv Go.Proofs.Ytdopeneehminaaa.PGraphOnce Go.Proofs.Ytdopeneehminaaa.GraphMemGraphOnce Go.Proofs.Ytdopeneehminaaa.GraphAtGraphOnce Go.Proofs.Ytdopeneehminaaa.GraphSetGraphOnce Go.Proofs.Ytdopeneehminaaa.GraphAddGraphOnce Go.Proofs.Ytdopeneehminaaa.NumGraphOnce Go.Proofs.Ytdopeneehminaaa.GraphWiGraphOnce Go.Proofs.Ytdopeneehminaaa.GraphRunsGraphOnce Go.Proofs.Ytdopeneehminaaa.GraphNewGraphOnce
set_option linter.unusedVariables false
/-- Where things are, up to a depth. -/
noncomputable def Vf (s : GS) : Nat → Nat → Pl
  | 0, _ => pl0
  | d + 1, i => if 0 ≤ rd s.up i then wiV (Vf s d (rd s.up i).toNat) (ownP s i) else ownP s i
theorem Vf_same (s : GS) (r : Nat → Nat) (hu : ∀ i : Nat, i < s.up.length → rd s.up i < s.up.length) (hr : ∀ i : Nat, i < s.up.length → 0 ≤ rd s.up i → r (rd s.up i).toNat < r i) : ∀ (d e i : Nat), i < s.up.length → r i < d → r i < e → Vf s d i = Vf s e i
  | 0, _, _, _, h, _ => by omega
  | _ + 1, 0, _, _, _, h => by omega
  | d + 1, e + 1, i, hi, h1, h2 => by
    simp only [Vf]
    by_cases c : 0 ≤ rd s.up i
    · have h3 := hr i hi c
      have h4 := hu i hi
      rw [if_pos c, if_pos c, Vf_same s r hu hr d e (rd s.up i).toNat (by omega) (by omega) (by omega)]
    · rw [if_neg c, if_neg c]
/-- Where each thing is. -/
noncomputable def Vs (s : GS) (r : Nat → Nat) (i : Nat) : Pl := Vf s (r i + 1) i
theorem Vs_eq (s : GS) (r : Nat → Nat) (hu : ∀ i : Nat, i < s.up.length → rd s.up i < s.up.length) (hr : ∀ i : Nat, i < s.up.length → 0 ≤ rd s.up i → r (rd s.up i).toNat < r i) (i : Nat) (hi : i < s.up.length) : Vs s r i = if 0 ≤ rd s.up i then wiV (Vs s r (rd s.up i).toNat) (ownP s i) else ownP s i := by
  show Vf s (r i + 1) i = _
  simp only [Vf]
  by_cases c : 0 ≤ rd s.up i
  · have h3 := hr i hi c
    have h4 := hu i hi
    rw [if_pos c, if_pos c, Vf_same s r hu hr (r i) (r (rd s.up i).toNat + 1) (rd s.up i).toNat (by omega) (by omega) (by omega)]
    rfl
  · rw [if_neg c, if_neg c]
/-- A scene that grew; nothing is known. -/
structure Growing (i : Nat) (up : List Int) (own : List Pl) (kn : List Bool) (wh : List Pl) : Prop where
  l0 : up.length = i
  l1 : own.length = i
  l2 : kn.length = i
  l3 : wh.length = i
  up0 : ∀ j : Nat, j < i → -1 ≤ rd up j ∧ rd up j < j
  kn0 : ∀ j, ¬ at? kn j
theorem Growing.nil : Growing 0 [] [] [] [] := ⟨rfl, rfl, rfl, rfl, fun j h => by omega, fun j h => by simp [at?] at h⟩
theorem rd_append (up : List Int) (u : Int) (j : Nat) : rd (up ++ [u]) j = if j < up.length then rd up j else if j = up.length then u else 0 := by
  unfold rd
  rw [Int.toNat_natCast, List.getD_eq_getElem?_getD, List.getElem?_append]
  by_cases h : j < up.length
  · rw [if_pos h, if_pos h, List.getD_eq_getElem?_getD]
  · rw [if_neg h, if_neg h]
    by_cases e : j = up.length
    · subst e; simp
    · rw [if_neg e, List.getElem?_eq_none (by simp; omega)]; rfl
theorem Growing.add {i : Nat} {up : List Int} {own : List Pl} {kn : List Bool} {wh : List Pl} (h : Growing i up own kn wh) (u : Int) (p q : Pl) (h0 : -1 ≤ u) (h1 : u < i) : Growing (i + 1) (up ++ [u]) (own ++ [p]) (kn ++ [false]) (wh ++ [q]) := by
  refine ⟨by simp [h.l0], by simp [h.l1], by simp [h.l2], by simp [h.l3], fun j hj => ?_, fun j hj => ?_⟩
  · rw [rd_append]
    by_cases c : j < up.length
    · rw [if_pos c]; exact h.up0 j (by rw [← h.l0]; exact c)
    · rw [if_neg c, if_pos (by have := h.l0; omega)]
      have := h.l0; omega
  · have h2 := h.kn0 j
    unfold at? at hj h2
    rw [List.getD_eq_getElem?_getD, List.getElem?_append] at hj
    rw [List.getD_eq_getElem?_getD] at h2
    split at hj
    · exact h2 hj
    · cases hk : j - kn.length with
      | zero => rw [hk] at hj; cases hj
      | succ n => rw [hk] at hj; cases hj
theorem Growing.cnt {i : Nat} {up : List Int} {own : List Pl} {kn : List Bool} {wh : List Pl} (h : Growing i up own kn wh) : cnt kn = 0 := by
  have : ∀ l : List Bool, (∀ j, ¬ at? l j) → GraphRunsGraphOnce.cnt l = 0 := by
    intro l
    induction l with
    | nil => intro _; rfl
    | cons b l ih =>
      intro hl
      have h0 : ¬ b = true := by simpa [at?] using hl 0
      rw [GraphRunsGraphOnce.cnt, if_neg h0, ih fun j => by simpa [at?] using hl (j + 1)]
  exact this kn h.kn0
theorem Growing.sane {i : Nat} {up : List Int} {own : List Pl} {kn : List Bool} {wh : List Pl} (h : Growing i up own kn wh) (hi : i ≤ 100) (n : Int) : ∃ V, Sane V (fun j => j) ⟨up, own, kn, wh, n⟩ := by
  have hu : ∀ j : Nat, j < up.length → -1 ≤ rd up j ∧ rd up j < up.length := fun j hj => by
    have := h.up0 j (by rw [← h.l0]; exact hj)
    omega
  have hr : ∀ j : Nat, j < up.length → 0 ≤ rd up j → (rd up j).toNat < j := fun j hj h0 => by
    have := h.up0 j (by rw [← h.l0]; exact hj)
    omega
  refine ⟨Vs ⟨up, own, kn, wh, n⟩ (fun j => j), h.l1.trans h.l0.symm, h.l2.trans h.l0.symm, h.l3.trans h.l0.symm, by show up.length ≤ 100; rw [h.l0]; exact hi, hu, hr, fun j hj => ?_, fun j _ hk => absurd hk (h.kn0 j), fun j _ hk => absurd hk (h.kn0 j)⟩
  exact Vs_eq ⟨up, own, kn, wh, n⟩ (fun j => j) (fun j hj => (hu j hj).2) hr j hj
/-- A pass over the things of a scene; the last one is not looked at. -/
structure Pass (V : Nat → Pl) (m i : Nat) (D : Int) (s : GS) : Prop where
  sane : Sane V (fun j => j) s
  len : s.up.length = m + 1
  seen : ∀ j, j < i → at? s.kn j
  last : ¬ at? s.kn m
  n : s.n = D + cnt s.kn
  D0 : 0 ≤ D
  D1 : D ≤ 100
theorem Pass.step {V : Nat → Pl} {m i : Nat} {D : Int} {s : GS} (h : Pass V m i D s) (hi : i < m) : ∃ s', Ev (fun k => atF k s i) (V i, s') ∧ Pass V m (i + 1) D s' := by
  obtain ⟨s', e, hs, ha⟩ := at_ev V (fun j => j) (i + 1) s i (Nat.lt_succ_self i) h.sane (by rw [h.len]; omega)
  refine ⟨s', e, hs, by rw [ha.up, h.len], fun j hj => ?_, fun hm => ?_, ?_, h.D0, h.D1⟩
  · by_cases c : j < i
    · exact ha.more j (h.seen j c)
    · obtain rfl : j = i := by omega
      exact ha.now
  · rcases ha.few m hm with h1 | h1
    · exact h.last h1
    · have : m ≤ i := h1
      omega
  · have h1 := h.n
    have h2 := cnt_le s.kn
    have h3 : s.kn.length = m + 1 := by rw [h.sane.l2, h.len]
    have h4 : s.up.length ≤ 100 := h.sane.le
    have h5 := h.len
    have h6 := h.D0
    have h7 := h.D1
    have := ha.n (by omega) (by omega)
    omega
theorem Pass.done {V : Nat → Pl} {m : Nat} {D : Int} {s : GS} (h : Pass V m m D s) : s.n = D + m := by
  have := h.n
  rw [cnt_all s.kn m (by rw [h.sane.l2, h.len]) h.seen h.last] at this
  exact this
theorem Pass.again {V : Nat → Pl} {m i : Nat} {D : Int} {s : GS} (h : Pass V m i D s) : Pass V m 0 D s := ⟨h.sane, h.len, fun j hj => by omega, h.last, h.n, h.D0, h.D1⟩
/-- What is known keeps right when a thing's own place changes and what lies below is forgotten. -/
theorem set_sane {V V' : Nat → Pl} {r : Nat → Nat} {s s' : GS} {n : Nat} {p : Pl} (h : Sane V r s) (hn : n < s.up.length) (f : Frg n { s with own := s.own.set n p } s')
    (hv : ∀ i : Nat, i < s.up.length → V' i = if 0 ≤ rd s.up i then wiV (V' (rd s.up i).toNat) (ownP s' i) else ownP s' i) : Sane V' r s' := by
  have e : s' = { s with own := s.own.set n p, kn := s'.kn } := f.same
  have eu : s'.up = s.up := by rw [e]
  have ew : s'.wh = s.wh := by rw [e]
  have eo : s'.own = s.own.set n p := by rw [e]
  have above : ∀ i : Nat, i < s.up.length → at? s'.kn i → 0 ≤ rd s.up i → at? s'.kn (rd s.up i).toNat := fun i hi hk h0 => by
    have h1 := f.less i hk
    by_cases c : rd s.up i = n
    · exact absurd hk (f.kids i hi c)
    · exact f.keep i hi h0 c hk (h.above i hi h1 h0)
  have same : ∀ (d i : Nat), r i < d → i < s.up.length → at? s'.kn i → V' i = V i := by
    intro d
    induction d with
    | zero => intro i hr; omega
    | succ d ih =>
      intro i hr hi hk
      have hne : i ≠ n := fun e => by subst e; exact f.now hk
      have ho : ownP s' i = ownP s i := by
        unfold ownP
        rw [eo, plAt_set _ _ _ _ (by rw [h.l1]; exact hn), if_neg hne]
      rw [hv i hi, h.v i hi, ho]
      by_cases c : 0 ≤ rd s.up i
      · have h1 := h.up0 i hi
        rw [if_pos c, if_pos c, ih (rd s.up i).toNat (by have := h.rk i hi c; omega) (by omega) (above i hi hk c)]
      · rw [if_neg c, if_neg c]
  refine ⟨?_, ?_, ?_, ?_, ?_, ?_, ?_, fun i hi hk => ?_, ?_⟩
  · rw [eo, eu, List.length_set, h.l1]
  · rw [f.len, eu]; exact h.l2
  · rw [ew, eu, h.l3]
  · rw [eu]; exact h.le
  · rw [eu]; exact h.up0
  · rw [eu]; exact h.rk
  · rw [eu]; exact hv
  · rw [eu] at hi
    rw [ew, h.known i hi (f.less i hk), same (r i + 1) i (Nat.lt_succ_self _) hi hk]
  · rw [eu]; exact above
theorem Pass.forget {V : Nat → Pl} {m n : Nat} {s : GS} (h : Pass V m m 0 s) (hn : n < m) (p : Pl) : ∃ (s' : GS) (V' : Nat → Pl) (D : Int), Ev (fun k => forgetF k { s with own := s.own.set n p } n) s' ∧ Pass V' m 0 D s' ∧ 0 < D ∧ D ≤ m := by
  have hl := h.len
  have hle := h.sane.le
  obtain ⟨s', e, f⟩ := forget_ev (cnt (s.kn.set n false) + 1) { s with own := s.own.set n p } n (Nat.lt_succ_self _) (by show n < s.up.length; omega) h.sane.l2 hle
  have e1 : s' = { s with own := s.own.set n p, kn := s'.kn } := f.same
  have eu : s'.up = s.up := by rw [e1]
  have en : s'.n = s.n := by rw [e1]
  have hu : ∀ j : Nat, j < s'.up.length → rd s'.up j < s'.up.length := by rw [eu]; exact fun j hj => (h.sane.up0 j hj).2
  have hr : ∀ j : Nat, j < s'.up.length → 0 ≤ rd s'.up j → (rd s'.up j).toNat < j := by rw [eu]; exact h.sane.rk
  have hv := Vs_eq s' (fun j => j) hu hr
  have hs := set_sane (V' := Vs s' (fun j => j)) h.sane (by omega) f (by rw [eu] at hv; exact hv)
  have hc : cnt s.kn = m := cnt_all s.kn m (by rw [h.sane.l2, hl]) h.seen h.last
  have hc2 := cnt_clear s.kn n (by rw [h.sane.l2]; omega) (h.seen n hn)
  have hc3 : cnt s'.kn ≤ cnt (s.kn.set n false) := cnt_sub _ _ (by rw [List.length_set]; exact f.len) fun i hi => by
    show (s.kn.set n false).getD i false = true
    rw [getD_set _ _ _ _ (by rw [h.sane.l2]; omega)]
    by_cases c : i = n
    · subst c; exact absurd hi f.now
    · rw [if_neg c]; exact f.less i hi
  have hn2 := h.done
  refine ⟨s', _, (m : Int) - cnt s'.kn, e, ⟨hs, by rw [eu, hl], fun j hj => by omega, fun hm => h.last (f.less m hm), by rw [en, hn2]; omega, by omega, by omega⟩, by omega, by omega⟩
/-- A scene of things in memory. -/
def ST (W : World) (g : Nat) (w : World) (s : GS) : Prop := ∃ b0 b1 b2 b3 c0 c1 c2 c3, GM W g b0 b1 b2 b3 c0 c1 c2 c3 w s
theorem ST.bel {W w : World} {g : Nat} {s : GS} (h : ST W g w s) : Below W.heap.size W w := by obtain ⟨_, _, _, _, _, _, _, _, h⟩ := h; exact h.bel
theorem ST.below {W w w1 : World} {g : Nat} {s : GS} (h : ST W g w s) (hb : Below w.heap.size w w1) : ST W g w1 s := by obtain ⟨_, _, _, _, _, _, _, _, h⟩ := h; exact ⟨_, _, _, _, _, _, _, _, h.below hb⟩
theorem ST.size {W w : World} {g : Nat} {s : GS} (h : ST W g w s) : ∃ A c, w.cell? ⟨g, 0, none⟩ = some (.slice A s.up.length c) := by obtain ⟨_, _, _, _, _, _, _, _, h⟩ := h; exact ⟨_, _, (blk_cell h.box 0).trans rfl⟩
theorem ST.count {W w : World} {g : Nat} {s : GS} (h : ST W g w s) : w.cell? ⟨g, 4, none⟩ = some (.int .i64 s.n) := by obtain ⟨_, _, _, _, _, _, _, _, h⟩ := h; exact (blk_cell h.box 4).trans rfl
theorem At_st {W : World} {g : Nat} (k : Nat) (s : GS) (n : Nat) (p : Pl) (s' : GS) (hn : n < s.up.length) (h : atF k s n = some (p, s')) (w : World) (hM : ST W g w s) :
    Calls Try.prog 32 #[.pointer (some ⟨g, 0, none⟩), .int .i64 n] w fun e w' => e = .returned (.tuple #[.agg #[.int .i64 p.x, .int .i64 p.y, .int .i64 p.a, .int .i64 p.s], .int .i64 0]) ∧ ST W g w' s' := by
  obtain ⟨_, _, _, _, _, _, _, _, hM⟩ := hM
  exact (At_in k s n p s' hn h w hM).mono fun e w' h => ⟨h.1, _, _, _, _, _, _, _, _, h.2.1⟩
theorem Set_st {W : World} {g : Nat} (k : Nat) (s : GS) (n : Nat) (p : Pl) (s' : GS) (hn : n < s.up.length) (hn1 : n < s.own.length) (hfit : graph_fits.f k p.x p.y p.a p.s = some true) (h : forgetF k { s with own := s.own.set n p } n = some s') (w : World) (hM : ST W g w s) :
    Calls Try.prog 35 #[.pointer (some ⟨g, 0, none⟩), .int .i64 n, .agg #[.int .i64 p.x, .int .i64 p.y, .int .i64 p.a, .int .i64 p.s]] w fun e w' => e = .returned (.int .i64 0) ∧ ST W g w' s' := by
  obtain ⟨_, _, _, _, _, _, _, _, hM⟩ := hM
  exact (Set_in k s n p s' hn hn1 hfit h w hM).mono fun e w' h => ⟨h.1, _, _, _, _, _, _, _, _, h.2.1⟩
theorem RW.st {W0 w : World} {v0 v1 v2 v3 : Value} {i : Nat} {up : List Int} {own : List Pl} {kn : List Bool} {wh : List Pl} (h : RW W0 v0 v1 v2 v3 w up own kn wh) {g : Nat} {n : Int} (hB : w.heap[g]? = some (.cells #[v0, v1, v2, v3, .int .i64 n] tG (0, 0))) (hg : W0.heap.size ≤ g) (hG : Growing i up own kn wh) (hi : 0 < i) : ST W0 g w ⟨up, own, kn, wh, n⟩ :=
  GraphNewGraphOnce.RW.open h hB hg (by rw [hG.l0]; exact hi) (hG.l1.trans hG.l0.symm) (hG.l2.trans hG.l0.symm) (hG.l3.trans hG.l0.symm)
theorem Add_g {W0 : World} {g i : Nat} {v0 v1 v2 v3 : Value} {up : List Int} {own : List Pl} {kn : List Bool} {wh : List Pl} (h : Growing i up own kn wh) (hi : i < 100) (n u : Int) (p : Pl) (hu0 : -1 ≤ u) (hu1 : u < i) (hfit : fitsV p = true)
    (w : World) (hB : w.heap[g]? = some (.cells #[v0, v1, v2, v3, .int .i64 n] tG (0, 0))) (hg : W0.heap.size ≤ g) (hR : RW W0 v0 v1 v2 v3 w up own kn wh) :
    Calls Try.prog 31 #[.pointer (some ⟨g, 0, none⟩), .int .i64 u, .agg #[.int .i64 p.x, .int .i64 p.y, .int .i64 p.a, .int .i64 p.s]] w fun e w' => e = .returned (.tuple #[.int .i64 (i : Int), .int .i64 0]) ∧ ∃ v0' v1' v2' v3' : Value, w'.heap[g]? = some (.cells #[v0', v1', v2', v3', .int .i64 n] tG (0, 0)) ∧ RW W0 v0' v1' v2' v3' w' (up ++ [u]) (own ++ [p]) (kn ++ [false]) (wh ++ [pl0]) := by
  have := Add_in 3 up own kn wh n u p (by rw [h.l0]; exact hi) (h.l1.trans h.l0.symm) (h.l2.trans h.l0.symm) (h.l3.trans h.l0.symm) hu0 (by rw [h.l0]; exact hu1) (by rw [← hfit]; exact fits_eq p 0) w hB hg hR
  rw [h.l0] at this
  exact this
end Go.Proofs.Ytdopeneehminaaa.GraphOnceLawGraphOnce
