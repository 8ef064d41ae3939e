/- What at and forget come to, on scenes whose things lie in no ring. Plain. -/
import Derived.Test.YtdopeneehminaaaGraphWiGraphPlays
namespace Go.Proofs.Ytdopeneehminaaa.GraphRunsGraphPlays
open Go Go.RowKit Go.Proofs.YtdopeneehminaaaW.PrintWords Go.Proofs.YtdopeneehminaaaW.PrintLast Go.Proofs.YtdopeneehminaaaW.PrintMore Go.Proofs.Ytdopeneehminaaa.Fnv Go.Proofs.Ytdopeneehminaaa.PGraphPlays Go.Proofs.Ytdopeneehminaaa.GraphMemGraphPlays Go.Proofs.Ytdopeneehminaaa.GraphAtGraphPlays Go.Proofs.Ytdopeneehminaaa.GraphSetGraphPlays Go.Proofs.Ytdopeneehminaaa.NumGraphPlays Go.Proofs.Ytdopeneehminaaa.GraphWiGraphPlays
set_option linter.unusedVariables false
/-- Of how many things it is known where they are. -/
def cnt : List Bool → Nat
  | [] => 0
  | b :: l => (if b = true then 1 else 0) + cnt l
abbrev at? (l : List Bool) (i : Nat) : Prop := l.getD i false = true
theorem cnt_le : ∀ l, cnt l ≤ l.length
  | [] => Nat.le_refl _
  | b :: l => by have := cnt_le l; simp only [cnt, List.length_cons]; split <;> omega
theorem getD_set (l : List Bool) (n i : Nat) (b : Bool) (h : n < l.length) : (l.set n b).getD i false = if i = n then b else l.getD i false := by
  simp only [List.getD_eq_getElem?_getD, List.getElem?_set]
  by_cases e : n = i
  · subst e; simp [h]
  · rw [if_neg e, if_neg (fun e' => e e'.symm)]
theorem cnt_set : ∀ (l : List Bool) (n : Nat), n < l.length → ¬ at? l n → cnt (l.set n true) = cnt l + 1
  | [], n, h, _ => by simp at h
  | b :: l, 0, _, h => by
    have : b = false := by simpa [at?] using h
    subst this; simp only [List.set_cons_zero, cnt]; simp; omega
  | b :: l, n + 1, h, h2 => by
    have := cnt_set l n (by simpa using h) (by simpa [at?] using h2)
    simp only [List.set_cons_succ, cnt]; omega
theorem cnt_clear : ∀ (l : List Bool) (n : Nat), n < l.length → at? l n → cnt (l.set n false) + 1 = cnt l
  | [], n, h, _ => by simp at h
  | b :: l, 0, _, h => by
    have : b = true := by simpa [at?] using h
    subst this; simp only [List.set_cons_zero, cnt]; simp; omega
  | b :: l, n + 1, h, h2 => by
    have := cnt_clear l n (by simpa using h) (by simpa [at?] using h2)
    simp only [List.set_cons_succ, cnt]; omega
theorem cnt_sub : ∀ (l m : List Bool), l.length = m.length → (∀ i, at? l i → at? m i) → cnt l ≤ cnt m
  | [], m, _, _ => Nat.zero_le _
  | b :: l, [], h, _ => by simp at h
  | b :: l, c :: m, h, h2 => by
    have h3 := cnt_sub l m (by simpa using h) fun i hi => h2 (i + 1) hi
    have h4 := h2 0
    simp only [at?, List.getD_cons_zero] at h4
    simp only [cnt]
    by_cases hb : b = true
    · rw [if_pos hb, if_pos (h4 hb)]; omega
    · rw [if_neg hb]; omega
theorem cnt_all : ∀ (l : List Bool) (m : Nat), l.length = m + 1 → (∀ i, i < m → at? l i) → ¬ at? l m → cnt l = m
  | [], m, h, _, _ => by simp at h
  | b :: l, 0, h, _, h2 => by
    obtain rfl : l = [] := List.length_eq_zero_iff.mp (by simpa using h)
    have : b = false := by simpa [at?] using h2
    subst this; rfl
  | b :: l, m + 1, h, h1, h2 => by
    have h3 := cnt_all l m (by simpa using h) (fun i hi => h1 (i + 1) (by omega)) h2
    have : b = true := by simpa [at?] using h1 0 (by omega)
    subst this; simp only [cnt]; simp; omega
theorem plAt_set (l : List Pl) (n i : Nat) (p : Pl) (h : n < l.length) : plAt (l.set n p) i = if i = n then p else plAt l i := by
  unfold plAt
  simp only [List.getD_eq_getElem?_getD, List.getElem?_set]
  by_cases e : n = i
  · subst e; simp [h]
  · rw [if_neg e, if_neg (fun e' => e e'.symm)]
/-- What is known is right, and so is what lies above. V: where each thing is; r: a rank. -/
structure Sane (V : Nat → Pl) (r : Nat → Nat) (s : GS) : Prop where
  l1 : s.own.length = s.up.length
  l2 : s.kn.length = s.up.length
  l3 : s.wh.length = s.up.length
  le : s.up.length ≤ 100
  up0 : ∀ i : Nat, i < s.up.length → -1 ≤ rd s.up i ∧ rd s.up i < s.up.length
  rk : ∀ i : Nat, i < s.up.length → 0 ≤ rd s.up i → r (rd s.up i).toNat < r i
  v : ∀ i : Nat, i < s.up.length → V i = if 0 ≤ rd s.up i then wiV (V (rd s.up i).toNat) (ownP s i) else ownP s i
  known : ∀ i : Nat, i < s.up.length → at? s.kn i → plAt s.wh i = V i
  above : ∀ i : Nat, i < s.up.length → at? s.kn i → 0 ≤ rd s.up i → at? s.kn (rd s.up i).toNat
/-- What at does to a scene. -/
structure Att (r : Nat → Nat) (n : Nat) (s s' : GS) : Prop where
  up : s'.up = s.up
  own : s'.own = s.own
  more : ∀ i, at? s.kn i → at? s'.kn i
  now : at? s'.kn n
  few : ∀ i, at? s'.kn i → at? s.kn i ∨ r i ≤ r n
  n : 0 ≤ s.n → s.n ≤ 1000000 → s'.n + cnt s.kn = s.n + cnt s'.kn
theorem fin_sane {V : Nat → Pl} {r : Nat → Nat} {s : GS} (h : Sane V r s) (n : Nat) (hn : n < s.up.length) (ha : 0 ≤ rd s.up n → at? s.kn (rd s.up n).toNat) : Sane V r (fin s n (V n)) := by
  have hk : n < s.kn.length := by rw [h.l2]; exact hn
  have hw : n < s.wh.length := by rw [h.l3]; exact hn
  refine ⟨h.l1, by simp [fin, h.l2], by simp [fin, h.l3], h.le, h.up0, h.rk, h.v, fun i hi hki => ?_, fun i hi hki h0 => ?_⟩
  · show plAt (s.wh.set n (V n)) i = V i
    rw [plAt_set _ _ _ _ hw]
    by_cases e : i = n
    · rw [if_pos e, e]
    · rw [if_neg e]
      refine h.known i hi ?_
      have : (s.kn.set n true).getD i false = true := hki
      rwa [getD_set _ _ _ _ hk, if_neg e] at this
  · show (s.kn.set n true).getD _ false = true
    rw [getD_set _ _ _ _ hk]
    split
    · rfl
    · by_cases e : i = n
      · subst e; exact ha h0
      · have : (s.kn.set n true).getD i false = true := hki
        rw [getD_set _ _ _ _ hk, if_neg e] at this
        exact h.above i hi this h0
theorem fin_att {r : Nat → Nat} {n : Nat} {s s1 : GS} (hk : n < s1.kn.length) (hl : s1.kn.length ≤ 100) (hl0 : s.kn.length ≤ 100) (p : Pl) (hn : ¬ at? s1.kn n) (up : s1.up = s.up) (own : s1.own = s.own) (more : ∀ i, at? s.kn i → at? s1.kn i) (few : ∀ i, at? s1.kn i → at? s.kn i ∨ r i ≤ r n)
    (hc : 0 ≤ s.n → s.n ≤ 1000000 → s1.n + cnt s.kn = s.n + cnt s1.kn) : Att r n s (fin s1 n p) := by
  have g : ∀ i, (fin s1 n p).kn.getD i false = if i = n then true else s1.kn.getD i false := fun i => getD_set _ _ _ _ hk
  refine ⟨up, own, fun i hi => ?_, ?_, fun i hi => ?_, fun h0 h1 => ?_⟩
  · show (fin s1 n p).kn.getD i false = true
    rw [g]; split
    · rfl
    · exact more i hi
  · show (fin s1 n p).kn.getD n false = true
    rw [g, if_pos rfl]
  · have : (fin s1 n p).kn.getD i false = true := hi
    rw [g] at this
    by_cases e : i = n
    · exact .inr (by rw [e]; exact Nat.le_refl _)
    · rw [if_neg e] at this; exact few i this
  · have h2 := hc h0 h1
    have h3 := cnt_set s1.kn n hk hn
    have h4 := cnt_le s1.kn
    have h5 := cnt_le s.kn
    show wrap64 (s1.n + 1) + (cnt s.kn : Int) = s.n + (cnt (s1.kn.set n true) : Int)
    rw [h3]
    unfold wrap64; omega
theorem at_ev (V : Nat → Pl) (r : Nat → Nat) : ∀ (d : Nat) (s : GS) (n : Nat), r n < d → Sane V r s → n < s.up.length → ∃ s', Ev (fun k => atF k s n) (V n, s') ∧ Sane V r s' ∧ Att r n s s'
  | 0, _, _, h, _, _ => by omega
  | d + 1, s, n, hr, h, hn => by
    have hc : n < s.up.length ∧ n < s.own.length ∧ n < s.kn.length ∧ n < s.wh.length := ⟨hn, by rw [h.l1]; exact hn, by rw [h.l2]; exact hn, by rw [h.l3]; exact hn⟩
    by_cases hk : at? s.kn n
    · refine ⟨s, ⟨1, fun k hk1 => ?_⟩, h, rfl, rfl, fun i hi => hi, hk, fun i hi => .inl hi, fun _ _ => rfl⟩
      obtain ⟨k, rfl⟩ : ∃ j, k = j + 1 := ⟨k - 1, by omega⟩
      show atF (k + 1) s n = _
      rw [atF, if_pos hc, if_pos hk, h.known n hn hk]
    · by_cases h0 : 0 ≤ rd s.up n
      · have hu := h.up0 n hn
        have hm : (rd s.up n).toNat < s.up.length := by omega
        obtain ⟨s1, ⟨k1, e1⟩, hs, ha⟩ := at_ev V r d s (rd s.up n).toNat (by have := h.rk n hn h0; omega) h hm
        obtain ⟨k2, e2⟩ := wi_ev (V (rd s.up n).toNat) (ownP s n)
        have hv : V n = wiV (V (rd s.up n).toNat) (ownP s n) := by rw [h.v n hn, if_pos h0]
        have hn1 : ¬ at? s1.kn n := fun hh => by
          rcases ha.few n hh with h2 | h2
          · exact hk h2
          · have := h.rk n hn h0; omega
        have hl1 : s1.up.length = s.up.length := by rw [ha.up]
        refine ⟨fin s1 n (V n), ⟨k1 + k2 + 1, fun k hk1 => ?_⟩, fin_sane hs n (by omega) (fun _ => by rw [ha.up]; exact ha.now), fin_att (by rw [hs.l2]; omega) (by rw [hs.l2]; exact hs.le) (by rw [h.l2]; exact h.le) _ hn1 ha.up ha.own ha.more (fun i hi => (ha.few i hi).imp id fun h2 => Nat.le_trans h2 (Nat.le_of_lt (h.rk n hn h0))) ha.n⟩
        obtain ⟨k, rfl⟩ : ∃ j, k = j + 1 := ⟨k - 1, by omega⟩
        show atF (k + 1) s n = _
        rw [atF, if_pos hc, if_neg hk, if_pos h0, show atF k s (rd s.up n).toNat = _ from e1 k (by omega), Option.bind_some, show wiF k (V (rd s.up n).toNat) (ownP s n) = _ from e2 k (by omega), ← hv]
        rfl
      · have hv : V n = ownP s n := by rw [h.v n hn, if_neg h0]
        refine ⟨fin s n (V n), ⟨1, fun k hk1 => ?_⟩, fin_sane h n hn (fun h2 => absurd h2 h0), fin_att hc.2.2.1 (by rw [h.l2]; exact h.le) (by rw [h.l2]; exact h.le) _ hk rfl rfl (fun i hi => hi) (fun i hi => .inl hi) fun _ _ => rfl⟩
        obtain ⟨k, rfl⟩ : ∃ j, k = j + 1 := ⟨k - 1, by omega⟩
        show atF (k + 1) s n = _
        rw [atF, if_pos hc, if_neg hk, if_neg h0, hv]
/-- What forget does to what is known. -/
structure Frg (n : Nat) (s s' : GS) : Prop where
  same : s' = { s with kn := s'.kn }
  len : s'.kn.length = s.kn.length
  less : ∀ i, at? s'.kn i → at? s.kn i
  now : ¬ at? s'.kn n
  kids : ∀ i : Nat, i < s.up.length → rd s.up i = n → ¬ at? s'.kn i
  keep : ∀ i : Nat, i < s.up.length → 0 ≤ rd s.up i → rd s.up i ≠ n → at? s'.kn i → at? s.kn (rd s.up i).toNat → at? s'.kn (rd s.up i).toNat
theorem forget_ev : ∀ (c : Nat) (s : GS) (n : Nat), cnt (s.kn.set n false) < c → n < s.up.length → s.kn.length = s.up.length → s.up.length ≤ 100 → ∃ s', Ev (fun k => forgetF k s n) s' ∧ Frg n s s'
  | 0, _, _, h, _, _, _ => by omega
  | c + 1, s, n, hc, hn, hl, hm => by
    have hk : n < s.kn.length := by omega
    have loop : ∀ (d i : Nat) (t : GS), i + d = s.up.length → t = { s with kn := t.kn } → t.kn.length = s.kn.length → (∀ i, at? t.kn i → at? s.kn i) → ¬ at? t.kn n → cnt t.kn ≤ cnt (s.kn.set n false) →
        (∀ j : Nat, j < i → rd s.up j = n → ¬ at? t.kn j) → (∀ j : Nat, j < s.up.length → 0 ≤ rd s.up j → rd s.up j ≠ n → at? t.kn j → at? s.kn (rd s.up j).toNat → at? t.kn (rd s.up j).toNat) →
        ∃ s', Ev (fun k => forgetL (forgetF k) n d i t) s' ∧ Frg n s s' := by
      intro d
      induction d with
      | zero =>
        intro i t hi hs hlen hless hnow _ hkids hkeep
        exact ⟨t, ⟨0, fun k _ => rfl⟩, hs, hlen, hless, hnow, fun j hj => hkids j (by omega), hkeep⟩
      | succ d ih =>
        intro i t hi hs hlen hless hnow hcnt hkids hkeep
        have hup : t.up = s.up := by rw [hs]
        by_cases hb : rd t.up i = n ∧ t.kn.getD i false = true
        · obtain ⟨t1, ⟨k1, e1⟩, f⟩ := forget_ev c t i (by have := cnt_clear t.kn i (by omega) hb.2; omega) (by rw [hup]; omega) (by rw [hup]; omega) (by rw [hup]; omega)
          have hs1 : t1 = { s with kn := t1.kn } := by rw [f.same, hs]
          obtain ⟨s', ⟨k2, e2⟩, g⟩ := ih (i + 1) t1 (by omega) hs1 (by rw [f.len, hlen]) (fun j hj => hless j (f.less j hj)) (fun hh => hnow (f.less _ hh))
            (Nat.le_trans (cnt_sub _ _ f.len f.less) hcnt)
            (fun j hj hu => by
              by_cases e : j = i
              · subst e; exact f.now
              · exact fun hh => hkids j (by omega) hu (f.less _ hh))
            (fun j hj h0 hne hj1 hp => by
              have h2 := hkeep j hj h0 hne (f.less _ hj1) hp
              by_cases e : rd s.up j = i
              · exact absurd hj1 (f.kids j (by rw [hup]; exact hj) (by rw [hup]; exact e))
              · have := f.keep j (by rw [hup]; exact hj) (by rw [hup]; exact h0) (by rw [hup]; exact e) hj1 (by rw [hup]; exact h2)
                rwa [hup] at this)
          refine ⟨s', ⟨k1 + k2, fun k hk => ?_⟩, g⟩
          show forgetL (forgetF k) n (d + 1) i t = _
          rw [forgetL, if_pos hb, show forgetF k t i = _ from e1 k (by omega), Option.bind_some]
          exact e2 k (by omega)
        · obtain ⟨s', ⟨k2, e2⟩, g⟩ := ih (i + 1) t (by omega) hs hlen hless hnow hcnt
            (fun j hj hu => by
              by_cases e : j = i
              · subst e; exact fun hh => hb ⟨by rw [hup]; exact hu, hh⟩
              · exact hkids j (by omega) hu) hkeep
          refine ⟨s', ⟨k2, fun k hk => ?_⟩, g⟩
          show forgetL (forgetF k) n (d + 1) i t = _
          rw [forgetL, if_neg hb]
          exact e2 k hk
    have g : ∀ i, (s.kn.set n false).getD i false = if i = n then false else s.kn.getD i false := fun i => getD_set _ _ _ _ hk
    obtain ⟨s', ⟨k1, e1⟩, f⟩ := loop s.up.length 0 { s with kn := s.kn.set n false } (by omega) rfl (by simp)
      (fun i hi => by
        have : (s.kn.set n false).getD i false = true := hi
        rw [g] at this
        by_cases e : i = n
        · rw [if_pos e] at this; cases this
        · rwa [if_neg e] at this)
      (fun hh => by
        have : (s.kn.set n false).getD n false = true := hh
        rw [g, if_pos rfl] at this; cases this)
      (Nat.le_refl _) (fun j hj => by omega)
      (fun j hj h0 hne hj1 hp => by
        show (s.kn.set n false).getD _ false = true
        rw [g, if_neg (by omega)]; exact hp)
    refine ⟨s', ⟨k1 + 1, fun k hk1 => ?_⟩, f⟩
    obtain ⟨k, rfl⟩ : ∃ j, k = j + 1 := ⟨k - 1, by omega⟩
    show forgetF (k + 1) s n = _
    rw [forgetF, if_pos ⟨hk, hl, by omega⟩]
    exact e1 k (by omega)
end Go.Proofs.Ytdopeneehminaaa.GraphRunsGraphPlays
