/- Scenes without turns and with size One, and memory that a scene shares with other rows. Under the conditions that stand at each. -/
import Derived.Test.YtdopeneehminaaaGraphNewGraphPlain
namespace Go.Proofs.Ytdopeneehminaaa.GraphPlainLawGraphPlain
open Go Go.RowKit Go.Proofs.YtdopeneehminaaaW.PrintWords Go.Proofs.YtdopeneehminaaaW.PrintLast Go.Proofs.YtdopeneehminaaaW.PrintMore Go.Proofs.Ytdopeneehminaaa.Fnv Go.Proofs.Ytdopeneehminaaa.PGraphPlain Go.Proofs.Ytdopeneehminaaa.GraphMemGraphPlain Go.Proofs.Ytdopeneehminaaa.GraphAtGraphPlain Go.Proofs.Ytdopeneehminaaa.GraphSetGraphPlain Go.Proofs.Ytdopeneehminaaa.GraphAddGraphPlain Go.Proofs.Ytdopeneehminaaa.NumGraphPlain Go.Proofs.Ytdopeneehminaaa.GraphWiGraphPlain Go.Proofs.Ytdopeneehminaaa.GraphRunsGraphPlain Go.Proofs.Ytdopeneehminaaa.GraphNewGraphPlain
set_option linter.unusedVariables false
theorem mul_one (x : Int) (h0 : -549755813888 ≤ x) (h1 : x ≤ 549755813888) : mulV x 65536 = x := by
  unfold mulV mulDivV
  rw [clampV_id (a := x) (by omega) (by omega), clampV_id (a := 65536) (by omega) (by omega), if_neg (by omega)]
  have ha : absV 65536 = 65536 := rfl
  have hx : absV x ≤ 549755813888 := absV_le h0 h1
  have hx0 := absV_nn x
  have hneg : negV x 65536 65536 = decide (x < 0) := by unfold negV; rfl
  have q1 : ¬ (1099511627776 < absV x) := by omega
  unfold roundV
  rw [ha, hneg, if_neg (show ¬ (65536 ≤ absV x * 65536 / 18446744073709551616) from by omega), Int.mul_ediv_cancel _ (by decide), Int.mul_emod_left]
  simp only [if_neg q1]
  by_cases h : x < 0
  · rw [if_pos (decide_eq_true h), if_neg (show ¬ ((65536 : Int) - 0 < 0) from by omega)]
    unfold absV
    rw [if_pos h, clampV_id (by omega) (by omega)]; omega
  · rw [if_neg (by simpa using h), if_neg (show ¬ ((65536 : Int) - 0 ≤ 0) from by omega)]
    unfold absV
    rw [if_neg h, clampV_id (by omega) (by omega)]
theorem mul_zero (x : Int) : mulV x 0 = 0 := by
  unfold mulV mulDivV
  rw [clampV_id (a := 0) (by omega) (by omega), clampV_id (a := 65536) (by omega) (by omega), if_neg (by omega)]
  have ha : absV 65536 = 65536 := rfl
  have h0 : absV 0 = 0 := rfl
  unfold roundV
  rw [ha, h0, Int.mul_zero, if_neg (by decide)]
  cases negV (clampV x) 0 65536 <;> decide
theorem add_plain (x y : Int) (h0 : -100000000 ≤ x) (h1 : x ≤ 100000000) (h2 : -100000000 ≤ y) (h3 : y ≤ 100000000) : addV x y = x + y := by
  unfold addV
  rw [clampV_id (a := x) (by omega) (by omega), clampV_id (a := y) (by omega) (by omega), clampV_id (by omega) (by omega)]
theorem turn_plain (x y : Int) (h0 : -100000000 ≤ x) (h1 : x ≤ 100000000) (h2 : -100000000 ≤ y) (h3 : y ≤ 100000000) : turnV x y 0 = (x, y) := by
  unfold turnV
  rw [cos_zero, sin_zero, mul_one x (by omega) (by omega), mul_one y (by omega) (by omega), mul_zero, mul_zero, add_plain 0 y (by omega) (by omega) h2 h3]
  have : subV x 0 = x := by unfold subV; rw [clampV_id (a := x) (by omega) (by omega), clampV_id (a := 0) (by omega) (by omega), clampV_id (by omega) (by omega)]; omega
  rw [this, Int.zero_add]
/-- A place without a turn, with size One. -/
def pp (x y : Int) : Pl := ⟨x, y, 0, 65536⟩
theorem wi_plain (a b x y : Int) (h0 : -1000000 ≤ a) (h1 : a ≤ 1000000) (h2 : -1000000 ≤ b) (h3 : b ≤ 1000000) (h4 : -1000000 ≤ x) (h5 : x ≤ 1000000) (h6 : -1000000 ≤ y) (h7 : y ≤ 1000000) : wiV (pp a b) (pp x y) = pp (a + x) (b + y) := by
  unfold wiV pp
  simp only
  rw [mul_one x (by omega) (by omega), mul_one y (by omega) (by omega), turn_plain x y (by omega) (by omega) (by omega) (by omega), add_plain a x (by omega) (by omega) (by omega) (by omega), add_plain b y (by omega) (by omega) (by omega) (by omega), and_turn]
  rw [show mulV 65536 65536 = 65536 from mul_one 65536 (by omega) (by omega), show wrap64 (0 + 0) % 65536 = 0 from by unfold wrap64; decide]
abbrev Two := Int × Int
def twoAt (l : List Two) (i : Nat) : Two := l.getD i (0, 0)
/-- A scene of plain places; ats: where things are. -/
structure Plain (i : Nat) (ats : List Two) (V : Nat → Pl) (s : GS) : Prop where
  sane : Sane V (fun j => j) s
  len : s.up.length = i
  lat : ats.length = i
  val : ∀ j, j < i → V j = pp (twoAt ats j).1 (twoAt ats j).2
  bnd : ∀ j, j < i → -(1000 * (j + 1 : Int)) ≤ (twoAt ats j).1 ∧ (twoAt ats j).1 ≤ 1000 * (j + 1 : Int) ∧ -(1000 * (j + 1 : Int)) ≤ (twoAt ats j).2 ∧ (twoAt ats j).2 ≤ 1000 * (j + 1 : Int)
theorem Plain.nil (n : Int) : Plain 0 [] (fun _ => pl0) ⟨[], [], [], [], n⟩ :=
  ⟨⟨rfl, rfl, rfl, by simp, fun i h => by simp at h, fun i h => by simp at h, fun i h => by simp at h, fun i h => by simp at h, fun i h => by simp at h⟩, rfl, rfl, fun j h => by omega, fun j h => by omega⟩
theorem rd_append (up : List Int) (u : Int) (j : Nat) : rd (up ++ [u]) j = if j < up.length then rd up j else if j = up.length then u else 0 := by
  unfold rd
  rw [Int.toNat_natCast, List.getD_eq_getElem?_getD, List.getElem?_append]
  by_cases h : j < up.length
  · rw [if_pos h, if_pos h, List.getD_eq_getElem?_getD]
  · rw [if_neg h, if_neg h]
    by_cases e : j = up.length
    · subst e; simp
    · rw [if_neg e, List.getElem?_eq_none (by simp; omega)]; rfl
theorem getD_append {α : Type} (l : List α) (a d : α) (j : Nat) : (l ++ [a]).getD j d = if j < l.length then l.getD j d else if j = l.length then a else d := by
  rw [List.getD_eq_getElem?_getD, List.getElem?_append]
  by_cases h : j < l.length
  · rw [if_pos h, if_pos h, List.getD_eq_getElem?_getD]
  · rw [if_neg h, if_neg h]
    by_cases e : j = l.length
    · subst e; simp
    · rw [if_neg e, List.getElem?_eq_none (by simp; omega)]; rfl
/-- What a thing more leaves right. -/
theorem Sane.add {V : Nat → Pl} {up : List Int} {own : List Pl} {kn : List Bool} {wh : List Pl} {n : Int} (h : Sane V (fun j => j) ⟨up, own, kn, wh, n⟩) (hl : up.length < 100) (u : Int) (p q : Pl) (h0 : -1 ≤ u) (h1 : u < up.length) :
    Sane (fun j => if j = up.length then (if 0 ≤ u then wiV (V u.toNat) { p with a := Go.bits .and .i64 p.a 65535 } else { p with a := Go.bits .and .i64 p.a 65535 }) else V j) (fun j => j) ⟨up ++ [u], own ++ [p], kn ++ [false], wh ++ [q], n⟩ := by
  have l1 : own.length = up.length := h.l1
  have l2 : kn.length = up.length := h.l2
  have l3 : wh.length = up.length := h.l3
  have hown : ∀ i, ownP ⟨up ++ [u], own ++ [p], kn ++ [false], wh ++ [q], n⟩ i = if i < up.length then ownP ⟨up, own, kn, wh, n⟩ i else if i = up.length then { p with a := Go.bits .and .i64 p.a 65535 } else ownP ⟨up, own, kn, wh, n⟩ i := fun i => by
    have e : plAt (own ++ [p]) i = if i < up.length then plAt own i else if i = up.length then p else plAt own i := by
      unfold plAt
      rw [getD_append, l1]
      split
      · rfl
      · split
        · rfl
        · rw [List.getD_eq_getElem?_getD, List.getElem?_eq_none (by omega)]; rfl
    show ({ plAt (own ++ [p]) i with a := Go.bits .and .i64 (plAt (own ++ [p]) i).a 65535 } : Pl) = _
    rw [e]
    split
    · rfl
    · split <;> rfl
  have hk : ∀ i, at? (kn ++ [false]) i → i < up.length ∧ at? kn i := fun i hi => by
    have : (kn ++ [false]).getD i false = true := hi
    rw [getD_append, l2] at this
    by_cases c : i < up.length
    · rw [if_pos c] at this; exact ⟨c, this⟩
    · rw [if_neg c] at this
      split at this <;> cases this
  refine ⟨by simp [l1], by simp [l2], by simp [l3], by simp; omega, fun i hi => ?_, fun i hi h2 => ?_, fun i hi => ?_, fun i hi h2 => ?_, fun i hi h2 h3 => ?_⟩
  · have hi' : i < up.length + 1 := by simpa using hi
    show -1 ≤ rd (up ++ [u]) i ∧ rd (up ++ [u]) i < ((up ++ [u]).length : Nat)
    rw [rd_append, List.length_append]
    by_cases c : i < up.length
    · have : -1 ≤ rd up i ∧ rd up i < up.length := h.up0 i c
      rw [if_pos c]; simp; omega
    · rw [if_neg c, if_pos (by omega)]; simp; omega
  · have hi' : i < up.length + 1 := by simpa using hi
    have h2' : 0 ≤ rd (up ++ [u]) i := h2
    show (rd (up ++ [u]) i).toNat < i
    rw [rd_append] at h2' ⊢
    by_cases c : i < up.length
    · rw [if_pos c] at h2' ⊢; exact h.rk i c h2'
    · rw [if_neg c, if_pos (by omega)] at h2' ⊢; omega
  · have hi' : i < up.length + 1 := by simpa using hi
    rw [hown]
    show (if i = up.length then _ else V i) = if 0 ≤ rd (up ++ [u]) i then wiV (if (rd (up ++ [u]) i).toNat = up.length then _ else V (rd (up ++ [u]) i).toNat) _ else _
    rw [rd_append]
    by_cases c : i < up.length
    · have hv : V i = if 0 ≤ rd up i then wiV (V (rd up i).toNat) (ownP ⟨up, own, kn, wh, n⟩ i) else ownP ⟨up, own, kn, wh, n⟩ i := h.v i c
      have hu : rd up i < up.length := (h.up0 i c).2
      rw [if_pos c, if_pos c, if_neg (by omega), hv]
      by_cases d : 0 ≤ rd up i
      · rw [if_pos d, if_pos d, if_neg (by omega)]
      · rw [if_neg d, if_neg d]
    · have ei : i = up.length := by omega
      simp only [if_neg c, if_pos ei]
      by_cases d : 0 ≤ u
      · rw [if_pos d, if_pos d, if_neg (show ¬ u.toNat = up.length from by omega)]
      · rw [if_neg d, if_neg d]
  · obtain ⟨c, hk2⟩ := hk i h2
    show plAt (wh ++ [q]) i = if i = up.length then _ else V i
    rw [if_neg (by omega)]
    have := h.known i c hk2
    rw [← this]
    unfold plAt
    rw [getD_append, l3, if_pos c]
  · obtain ⟨c, hk2⟩ := hk i h2
    have h3' : 0 ≤ rd (up ++ [u]) i := h3
    show (kn ++ [false]).getD (rd (up ++ [u]) i).toNat false = true
    rw [rd_append, if_pos c] at h3' ⊢
    have hu : rd up i < up.length := (h.up0 i c).2
    rw [getD_append, l2, if_pos (by omega)]
    exact h.above i c hk2 h3'
/-- A plain thing more, and where it is. -/
theorem Plain.step {i : Nat} {ats : List Two} {V : Nat → Pl} {up : List Int} {own : List Pl} {kn : List Bool} {wh : List Pl} {n : Int} (h : Plain i ats V ⟨up, own, kn, wh, n⟩) (hi : i < 20) (u x y : Int) (h0 : -1 ≤ u) (h1 : u < i) (hx : -1000 ≤ x ∧ x ≤ 1000) (hy : -1000 ≤ y ∧ y ≤ 1000) :
    ∃ s' V', Ev (fun k => atF k ⟨up ++ [u], own ++ [pp x y], kn ++ [false], wh ++ [pl0], n⟩ i) (pp (if 0 ≤ u then x + (twoAt ats u.toNat).1 else x) (if 0 ≤ u then y + (twoAt ats u.toNat).2 else y), s') ∧
      Plain (i + 1) (ats ++ [(if 0 ≤ u then x + (twoAt ats u.toNat).1 else x, if 0 ≤ u then y + (twoAt ats u.toNat).2 else y)]) V' s' ∧ s'.up = up ++ [u] ∧ s'.own = own ++ [pp x y] ∧ s'.kn.length = kn.length + 1 ∧ s'.wh.length = wh.length + 1 := by
  have hl : up.length = i := h.len
  have hs := Sane.add h.sane (by omega) u (pp x y) pl0 h0 (by omega)
  have hp : ({ pp x y with a := Go.bits .and .i64 (pp x y).a 65535 } : Pl) = pp x y := by unfold pp; simp only; rw [and_turn]; rfl
  rw [hp] at hs
  generalize hV : (fun j => if j = up.length then (if 0 ≤ u then wiV (V u.toNat) (pp x y) else pp x y) else V j) = V' at hs
  obtain ⟨s', e, hs', ha⟩ := at_ev V' (fun j => j) (i + 1) _ i (Nat.lt_succ_self i) hs (by simp; omega)
  have hv : V' i = pp (if 0 ≤ u then x + (twoAt ats u.toNat).1 else x) (if 0 ≤ u then y + (twoAt ats u.toNat).2 else y) := by
    rw [← hV]; simp only
    rw [if_pos hl.symm]
    by_cases c : 0 ≤ u
    · have b := h.bnd u.toNat (by omega)
      rw [if_pos c, if_pos c, if_pos c, h.val u.toNat (by omega), wi_plain _ _ _ _ (by omega) (by omega) (by omega) (by omega) (by omega) (by omega) (by omega) (by omega), Int.add_comm, Int.add_comm (twoAt ats u.toNat).2]
    · rw [if_neg c, if_neg c, if_neg c]
  rw [hv] at e
  have hup : s'.up = up ++ [u] := ha.up
  have hat : ∀ j, j < i → twoAt (ats ++ [(if 0 ≤ u then x + (twoAt ats u.toNat).1 else x, if 0 ≤ u then y + (twoAt ats u.toNat).2 else y)]) j = twoAt ats j := fun j hj => by
    unfold twoAt; rw [getD_append, if_pos (by rw [h.lat]; exact hj)]
  have hat' : twoAt (ats ++ [(if 0 ≤ u then x + (twoAt ats u.toNat).1 else x, if 0 ≤ u then y + (twoAt ats u.toNat).2 else y)]) i = (if 0 ≤ u then x + (twoAt ats u.toNat).1 else x, if 0 ≤ u then y + (twoAt ats u.toNat).2 else y) := by
    rw [twoAt, getD_append, if_neg (by rw [h.lat]; omega), if_pos h.lat.symm]
  refine ⟨s', V', e, ⟨hs', by rw [hup]; simp [hl], by simp [h.lat], fun j hj => ?_, fun j hj => ?_⟩, hup, ha.own, ?_, ?_⟩
  · by_cases c : j < i
    · rw [hat j c, ← h.val j c, ← hV]; simp only; rw [if_neg (by omega)]
    · obtain rfl : j = i := by omega
      rw [hat', hv]
  · by_cases c : j < i
    · rw [hat j c]; exact h.bnd j c
    · obtain rfl : j = i := by omega
      rw [hat']
      by_cases c : 0 ≤ u
      · have b := h.bnd u.toNat (by omega)
        simp only [if_pos c]; omega
      · simp only [if_neg c]; omega
  · have := hs'.l2
    rw [hup] at this
    have h2 : kn.length = up.length := h.sane.l2
    rw [this]; simp [h2]
  · have := hs'.l3
    rw [hup] at this
    have h2 : wh.length = up.length := h.sane.l3
    rw [this]; simp [h2]
end Go.Proofs.Ytdopeneehminaaa.GraphPlainLawGraphPlain
