/- Scenes that change: a thing more, another place, another parent. Plain. -/
import Derived.Test.YtdopeneehminaaaGraphNewGraphPlays
namespace Go.Proofs.Ytdopeneehminaaa.GraphTwoGraphPlays
open Go Go.RowKit Go.Proofs.YtdopeneehminaaaW.PrintWords Go.Proofs.YtdopeneehminaaaW.PrintLast Go.Proofs.YtdopeneehminaaaW.PrintMore Go.Proofs.Ytdopeneehminaaa.Fnv Go.Proofs.Ytdopeneehminaaa.PGraphPlays Go.Proofs.Ytdopeneehminaaa.GraphMemGraphPlays Go.Proofs.Ytdopeneehminaaa.GraphAtGraphPlays Go.Proofs.Ytdopeneehminaaa.GraphSetGraphPlays Go.Proofs.Ytdopeneehminaaa.GraphAddGraphPlays Go.Proofs.Ytdopeneehminaaa.NumGraphPlays Go.Proofs.Ytdopeneehminaaa.GraphWiGraphPlays Go.Proofs.Ytdopeneehminaaa.GraphRunsGraphPlays Go.Proofs.Ytdopeneehminaaa.GraphNewGraphPlays
set_option linter.unusedVariables false
/-- Where things are, up to a depth. -/
noncomputable def Vf (s : GS) : Nat → Nat → Pl
  | 0, _ => pl0
  | d + 1, i => if 0 ≤ rd s.up i then wiV (Vf s d (rd s.up i).toNat) (ownP s i) else ownP s i
theorem Vf_same (s : GS) (r : Nat → Nat) (hu : ∀ i : Nat, i < s.up.length → rd s.up i < s.up.length) (hr : ∀ i : Nat, i < s.up.length → 0 ≤ rd s.up i → r (rd s.up i).toNat < r i) : ∀ (d e i : Nat), i < s.up.length → r i < d → r i < e → Vf s d i = Vf s e i
  | 0, _, _, _, h, _ => by omega
  | _ + 1, 0, _, _, _, h => by omega
  | d + 1, e + 1, i, hi, h1, h2 => by
    simp only [Vf]
    by_cases c : 0 ≤ rd s.up i
    · have h3 := hr i hi c
      have h4 := hu i hi
      rw [if_pos c, if_pos c, Vf_same s r hu hr d e (rd s.up i).toNat (by omega) (by omega) (by omega)]
    · rw [if_neg c, if_neg c]
/-- Where each thing is. -/
noncomputable def Vs (s : GS) (r : Nat → Nat) (i : Nat) : Pl := Vf s (r i + 1) i
theorem Vs_eq (s : GS) (r : Nat → Nat) (hu : ∀ i : Nat, i < s.up.length → rd s.up i < s.up.length) (hr : ∀ i : Nat, i < s.up.length → 0 ≤ rd s.up i → r (rd s.up i).toNat < r i) (i : Nat) (hi : i < s.up.length) : Vs s r i = if 0 ≤ rd s.up i then wiV (Vs s r (rd s.up i).toNat) (ownP s i) else ownP s i := by
  show Vf s (r i + 1) i = _
  simp only [Vf]
  by_cases c : 0 ≤ rd s.up i
  · have h3 := hr i hi c
    have h4 := hu i hi
    rw [if_pos c, if_pos c, Vf_same s r hu hr (r i) (r (rd s.up i).toNat + 1) (rd s.up i).toNat (by omega) (by omega) (by omega)]
    rfl
  · rw [if_neg c, if_neg c]
theorem rd_append (up : List Int) (u : Int) (j : Nat) : rd (up ++ [u]) j = if j < up.length then rd up j else if j = up.length then u else 0 := by
  unfold rd
  rw [Int.toNat_natCast, List.getD_eq_getElem?_getD, List.getElem?_append]
  by_cases h : j < up.length
  · rw [if_pos h, if_pos h, List.getD_eq_getElem?_getD]
  · rw [if_neg h, if_neg h]
    by_cases e : j = up.length
    · subst e; simp
    · rw [if_neg e, List.getElem?_eq_none (by simp; omega)]; rfl
theorem rd_set (up : List Int) (u : Int) (n j : Nat) (h : n < up.length) : rd (up.set n u) j = if j = n then u else rd up j := by
  unfold rd
  rw [Int.toNat_natCast]
  simp only [List.getD_eq_getElem?_getD, List.getElem?_set]
  by_cases e : n = j
  · subst e; simp [h]
  · rw [if_neg e, if_neg (fun e' => e e'.symm)]
theorem getD_append {α : Type} (l : List α) (a d : α) (j : Nat) : (l ++ [a]).getD j d = if j < l.length then l.getD j d else if j = l.length then a else d := by
  rw [List.getD_eq_getElem?_getD, List.getElem?_append]
  by_cases h : j < l.length
  · rw [if_pos h, if_pos h, List.getD_eq_getElem?_getD]
  · rw [if_neg h, if_neg h]
    by_cases e : j = l.length
    · subst e; simp
    · rw [if_neg e, List.getElem?_eq_none (by simp; omega)]; rfl
/-- What lies above a thing. -/
inductive Anc (up : List Int) (n : Nat) : Nat → Prop
  | here : Anc up n n
  | up {i : Nat} : 0 ≤ rd up i → Anc up n (rd up i).toNat → Anc up n i
def AncI (up : List Int) (n : Nat) (k : Int) : Prop := 0 ≤ k ∧ Anc up n k.toNat
theorem anc_here (up : List Int) (n : Nat) : AncI up n (n : Int) := ⟨by omega, by rw [Int.toNat_natCast]; exact .here⟩
theorem anc_up {up : List Int} {n k : Nat} (h : AncI up n (rd up k)) : AncI up n (k : Int) := ⟨by omega, by rw [Int.toNat_natCast]; exact .up h.1 h.2⟩
theorem anc_down {up : List Int} {n k : Nat} (h : AncI up n (k : Int)) (hne : k ≠ n) : AncI up n (rd up k) := by
  obtain ⟨_, h⟩ := h
  rw [Int.toNat_natCast] at h
  cases h with
  | here => exact absurd rfl hne
  | up h0 h1 => exact ⟨h0, h1⟩
/-- What a thing more leaves right. -/
theorem Sane.add {V : Nat → Pl} {r : Nat → Nat} {s : GS} (h : Sane V r s) (hl : s.up.length < 100) (u : Int) (p q : Pl) (h0 : -1 ≤ u) (h1 : u < s.up.length) :
    ∃ V' r', Sane V' r' ⟨s.up ++ [u], s.own ++ [p], s.kn ++ [false], s.wh ++ [q], s.n⟩ := by
  obtain ⟨up, own, kn, wh, n⟩ := s
  have hl : up.length < 100 := hl
  have h1 : u < up.length := h1
  have l1 : own.length = up.length := h.l1
  have l2 : kn.length = up.length := h.l2
  have l3 : wh.length = up.length := h.l3
  have hk : ∀ i, at? (kn ++ [false]) i → i < up.length ∧ at? kn i := fun i hi => by
    have : (kn ++ [false]).getD i false = true := hi
    rw [getD_append, l2] at this
    by_cases c : i < up.length
    · rw [if_pos c] at this; exact ⟨c, this⟩
    · rw [if_neg c] at this
      split at this <;> cases this
  have hu : ∀ i : Nat, i < (up ++ [u]).length → -1 ≤ rd (up ++ [u]) i ∧ rd (up ++ [u]) i < ((up ++ [u]).length : Nat) := fun i hi => by
    have hi' : i < up.length + 1 := by simpa using hi
    rw [rd_append, List.length_append]
    by_cases c : i < up.length
    · have : -1 ≤ rd up i ∧ rd up i < up.length := h.up0 i c
      rw [if_pos c]; simp; omega
    · rw [if_neg c, if_pos (show i = up.length from by omega)]; simp; omega
  have hr : ∀ i : Nat, i < (up ++ [u]).length → 0 ≤ rd (up ++ [u]) i → (fun j => if j = up.length then (r u.toNat + 1) else r j) (rd (up ++ [u]) i).toNat < (fun j => if j = up.length then (r u.toNat + 1) else r j) i := fun i hi h2 => by
    have hi' : i < up.length + 1 := by simpa using hi
    simp only
    by_cases c : i < up.length
    · have hb : -1 ≤ rd up i ∧ rd up i < up.length := h.up0 i c
      rw [rd_append, if_pos c] at h2 ⊢
      have := h.rk i c h2
      rw [if_neg (show ¬ (rd up i).toNat = up.length from by omega), if_neg (show ¬ i = up.length from by omega)]
      exact this
    · have e : i = up.length := by omega
      rw [rd_append, if_neg c, if_pos e] at h2 ⊢
      rw [if_neg (show ¬ u.toNat = up.length from by omega), if_pos e]; omega
  have hv := Vs_eq ⟨up ++ [u], own ++ [p], kn ++ [false], wh ++ [q], n⟩ (fun j => if j = up.length then (r u.toNat + 1) else r j) (fun i hi => (hu i hi).2) hr
  have hown : ∀ i, i < up.length → ownP ⟨up ++ [u], own ++ [p], kn ++ [false], wh ++ [q], n⟩ i = ownP ⟨up, own, kn, wh, n⟩ i := fun i hi => by
    have e : plAt (own ++ [p]) i = plAt own i := by unfold plAt; rw [getD_append, l1, if_pos hi]
    show ({ plAt (own ++ [p]) i with a := Go.bits .and .i64 (plAt (own ++ [p]) i).a 65535 } : Pl) = _
    rw [e]; rfl
  generalize hV : Vs ⟨up ++ [u], own ++ [p], kn ++ [false], wh ++ [q], n⟩ (fun j => if j = up.length then (r u.toNat + 1) else r j) = V' at hv
  have same : ∀ (d i : Nat), r i < d → i < up.length → V' i = V i := by
    intro d
    induction d with
    | zero => intro i hd; omega
    | succ d ih =>
      intro i hd hi
      have e1 : rd (up ++ [u]) i = rd up i := by rw [rd_append, if_pos hi]
      have e2 : V' i = if 0 ≤ rd (up ++ [u]) i then wiV (V' (rd (up ++ [u]) i).toNat) (ownP ⟨up ++ [u], own ++ [p], kn ++ [false], wh ++ [q], n⟩ i) else ownP ⟨up ++ [u], own ++ [p], kn ++ [false], wh ++ [q], n⟩ i := hv i (by simp; omega)
      have e3 : V i = if 0 ≤ rd up i then wiV (V (rd up i).toNat) (ownP ⟨up, own, kn, wh, n⟩ i) else ownP ⟨up, own, kn, wh, n⟩ i := h.v i hi
      have hb : -1 ≤ rd up i ∧ rd up i < up.length := h.up0 i hi
      rw [e2, e3, e1, hown i hi]
      by_cases c : 0 ≤ rd up i
      · rw [if_pos c, if_pos c, ih _ (by have := h.rk i hi c; have : r (rd up i).toNat < r i := this; omega) (by omega)]
      · rw [if_neg c, if_neg c]
  refine ⟨V', (fun j => if j = up.length then (r u.toNat + 1) else r j), by simp [l1], by simp [l2], by simp [l3], by simp; omega, hu, hr, hv, fun i hi h2 => ?_, fun i hi h2 h3 => ?_⟩
  · obtain ⟨c, hk2⟩ := hk i h2
    show plAt (wh ++ [q]) i = V' i
    rw [same (r i + 1) i (Nat.lt_succ_self _) c, ← h.known i c hk2]
    unfold plAt
    rw [getD_append, l3, if_pos c]
  · obtain ⟨c, hk2⟩ := hk i h2
    have h3' : 0 ≤ rd (up ++ [u]) i := h3
    show (kn ++ [false]).getD (rd (up ++ [u]) i).toNat false = true
    rw [rd_append, if_pos c] at h3' ⊢
    have hu : rd up i < up.length := (h.up0 i c).2
    rw [getD_append, l2, if_pos (show (rd up i).toNat < up.length from by omega)]
    exact h.above i c hk2 h3'
/-- What is known keeps right when one thing changes and what lies below is forgotten. -/
theorem change_sane {V : Nat → Pl} {r r' : Nat → Nat} {s s1 s' : GS} {n : Nat} (h : Sane V r s) (hn : n < s.up.length) (f : Frg n s1 s') (hl : s1.up.length = s.up.length) (hl1 : s1.own.length = s.own.length) (hk : s1.kn = s.kn) (hw : s1.wh = s.wh)
    (hu : ∀ i : Nat, i ≠ n → rd s1.up i = rd s.up i) (ho : ∀ i, i ≠ n → plAt s1.own i = plAt s.own i) (hb : ∀ i : Nat, i < s1.up.length → -1 ≤ rd s1.up i ∧ rd s1.up i < s1.up.length) (hr : ∀ i : Nat, i < s1.up.length → 0 ≤ rd s1.up i → r' (rd s1.up i).toNat < r' i) : ∃ V', Sane V' r' s' := by
  have e : s' = { s1 with kn := s'.kn } := f.same
  have eu : s'.up = s1.up := by rw [e]
  have ew : s'.wh = s.wh := by rw [e]; exact hw
  have eo : s'.own = s1.own := by rw [e]
  have hv := Vs_eq s' r' (by rw [eu]; exact fun i hi => (hb i hi).2) (by rw [eu]; exact hr)
  generalize Vs s' r' = V' at hv
  have less : ∀ i, at? s'.kn i → at? s.kn i := fun i hi => by have := f.less i hi; rwa [hk] at this
  have above : ∀ i : Nat, i < s.up.length → at? s'.kn i → 0 ≤ rd s1.up i → at? s'.kn (rd s1.up i).toNat := fun i hi hki h0 => by
    by_cases c : rd s1.up i = n
    · exact absurd hki (f.kids i (by omega) c)
    · refine f.keep i (by omega) h0 c hki ?_
      have hne : i ≠ n := fun e => by subst e; exact f.now hki
      rw [hu i hne] at h0 ⊢
      rw [hk]
      exact h.above i hi (less i hki) h0
  have same : ∀ (d i : Nat), r' i < d → i < s.up.length → at? s'.kn i → V' i = V i := by
    intro d
    induction d with
    | zero => intro i hd; omega
    | succ d ih =>
      intro i hd hi hki
      have hne : i ≠ n := fun e => by subst e; exact f.now hki
      have hown : ownP s' i = ownP s i := by
        unfold ownP
        rw [eo, ho i hne]
      have e1 := hv i (by rw [eu]; omega)
      rw [eu, hown] at e1
      rw [e1, h.v i hi]
      have e2 := hu i hne
      by_cases c : 0 ≤ rd s1.up i
      · have h1 := hb i (by omega)
        rw [if_pos c, if_pos (by rw [← e2]; exact c), ih (rd s1.up i).toNat (by have := hr i (by omega) c; omega) (by omega) (above i hi hki c), e2]
      · rw [if_neg c, if_neg (by rw [← e2]; exact c)]
  refine ⟨V', ?_, ?_, ?_, ?_, ?_, ?_, hv, fun i hi hki => ?_, ?_⟩
  · rw [eo, eu, hl1, hl]; exact h.l1
  · rw [f.len, hk, eu, hl]; exact h.l2
  · rw [ew, eu, hl]; exact h.l3
  · rw [eu, hl]; exact h.le
  · rw [eu]; exact hb
  · rw [eu]; exact hr
  · rw [eu, hl] at hi
    rw [ew, h.known i hi (less i hki), same (r' i + 1) i (Nat.lt_succ_self _) hi hki]
  · rw [eu, hl]; exact above
theorem plAt_set' (l : List Pl) (n i : Nat) (p : Pl) (h : i ≠ n) : plAt (l.set n p) i = plAt l i := by
  unfold plAt
  simp only [List.getD_eq_getElem?_getD, List.getElem?_set]
  rw [if_neg (fun e => h e.symm)]
/-- Another place. -/
theorem Sane.set {V : Nat → Pl} {r : Nat → Nat} {s : GS} (h : Sane V r s) (n : Nat) (hn : n < s.up.length) (p : Pl) : ∃ s' V', Ev (fun k => forgetF k { s with own := s.own.set n p } n) s' ∧ Sane V' r s' ∧ s'.up = s.up ∧ s'.own = s.own.set n p := by
  obtain ⟨s', e, f⟩ := forget_ev (cnt (s.kn.set n false) + 1) { s with own := s.own.set n p } n (Nat.lt_succ_self _) hn h.l2 h.le
  obtain ⟨V', hs⟩ := change_sane (r' := r) h hn f rfl List.length_set rfl rfl (fun _ _ => rfl) (fun i hi => plAt_set' _ _ _ _ hi) h.up0 h.rk
  exact ⟨s', V', e, hs, by rw [f.same], by rw [f.same]⟩
/-- Another parent that does not lie below. -/
theorem Sane.move {V : Nat → Pl} {r : Nat → Nat} {s : GS} (h : Sane V r s) (n : Nat) (hn : n < s.up.length) (u : Int) (hu0 : -1 ≤ u) (hu1 : u < s.up.length) (ha : ¬ AncI s.up n u) : ∃ s' V' r', Ev (fun k => forgetF k { s with up := s.up.set n u } n) s' ∧ Sane V' r' s' ∧ s'.up = s.up.set n u ∧ s'.own = s.own := by
  have hle := h.le
  obtain ⟨s', e, f⟩ := forget_ev (cnt (s.kn.set n false) + 1) { s with up := s.up.set n u } n (Nat.lt_succ_self _) (by show n < (s.up.set n u).length; rw [List.length_set]; exact hn) (by show s.kn.length = (s.up.set n u).length; rw [List.length_set]; exact h.l2) (by show (s.up.set n u).length ≤ 100; rw [List.length_set]; exact hle)
  have hset : ∀ j : Nat, rd (s.up.set n u) j = if j = n then u else rd s.up j := fun j => rd_set s.up u n j hn
  classical
  obtain ⟨V', hs⟩ := change_sane (r' := fun i => if Anc s.up n i then r i + (r u.toNat + 1) else r i) h hn f (by show (s.up.set n u).length = _; rw [List.length_set]) rfl rfl rfl (fun i hi => by rw [hset, if_neg hi]) (fun _ _ => rfl)
    (fun i hi => by
      have hi' : i < (s.up.set n u).length := hi
      rw [List.length_set] at hi'
      show -1 ≤ rd (s.up.set n u) i ∧ rd (s.up.set n u) i < ((s.up.set n u).length : Nat)
      rw [hset, List.length_set]
      split
      · exact ⟨hu0, hu1⟩
      · exact h.up0 i hi')
    (fun i hi h0 => by
      have hi' : i < (s.up.set n u).length := hi
      rw [List.length_set] at hi'
      have h0' : 0 ≤ rd (s.up.set n u) i := h0
      show (if Anc s.up n (rd (s.up.set n u) i).toNat then _ else _) < _
      rw [hset] at h0' ⊢
      by_cases c : i = n
      · subst c
        rw [if_pos rfl] at h0' ⊢
        rw [if_neg (fun x => ha ⟨h0', x⟩), if_pos Anc.here]; omega
      · rw [if_neg c] at h0' ⊢
        have h1 := h.rk i hi' h0'
        by_cases d : Anc s.up n (rd s.up i).toNat
        · rw [if_pos d, if_pos (Anc.up h0' d)]; omega
        · rw [if_neg d]
          split <;> omega)
  exact ⟨s', V', _, e, hs, by rw [f.same], by rw [f.same]⟩
/-- Where a thing is. -/
def whF : Nat → List Int → List Pl → Nat → Option Pl
  | 0, _, _, _ => none
  | k + 1, up, own, n => if n < up.length ∧ n < own.length then
      (if 0 ≤ rd up n then (whF k up own (rd up n).toNat).bind fun u => wiF k u { plAt own n with a := Go.bits .and .i64 (plAt own n).a 65535 } else some { plAt own n with a := Go.bits .and .i64 (plAt own n).a 65535 }) else none
theorem wh_ev {V : Nat → Pl} {r : Nat → Nat} {s : GS} (h : Sane V r s) : ∀ (d n : Nat), r n < d → n < s.up.length → Ev (fun k => whF k s.up s.own n) (V n)
  | 0, _, hd, _ => by omega
  | d + 1, n, hd, hn => by
    have hc : n < s.up.length ∧ n < s.own.length := ⟨hn, by rw [h.l1]; exact hn⟩
    by_cases h0 : 0 ≤ rd s.up n
    · have hu := h.up0 n hn
      obtain ⟨k1, e1⟩ := wh_ev h d (rd s.up n).toNat (by have := h.rk n hn h0; omega) (by omega)
      obtain ⟨k2, e2⟩ := wi_ev (V (rd s.up n).toNat) (ownP s n)
      refine ⟨k1 + k2 + 1, fun k hk => ?_⟩
      obtain ⟨k, rfl⟩ : ∃ j, k = j + 1 := ⟨k - 1, by omega⟩
      show whF (k + 1) s.up s.own n = _
      rw [whF, if_pos hc, if_pos h0, show whF k s.up s.own (rd s.up n).toNat = _ from e1 k (by omega), Option.bind_some, h.v n hn, if_pos h0]
      exact e2 k (by omega)
    · refine ⟨1, fun k hk => ?_⟩
      obtain ⟨k, rfl⟩ : ∃ j, k = j + 1 := ⟨k - 1, by omega⟩
      show whF (k + 1) s.up s.own n = _
      rw [whF, if_pos hc, if_neg h0, h.v n hn, if_neg h0]
      rfl
end Go.Proofs.Ytdopeneehminaaa.GraphTwoGraphPlays
