/- What the law BonesPlay computes is true, whatever the skeleton, the keys and the time. Under no condition. -/
import Derived.Test.YtfallkiaojefnaaFaultBonesPlay
import Derived.Test.YtfallkiaojefnaaQUnitBonesPlay
import Derived.Test.YtfallkiaojefnaaOpen
namespace Go.Proofs.Ytfallkiaojefnaa.PureBonesPlay
open Go.RowKit Go.Proofs.YtfallkiaojefnaaW.PrintWords Go.Proofs.YtfallkiaojefnaaW.PrintLast Go.Proofs.YtfallkiaojefnaaW.PrintMore Go.Proofs.Ytfallkiaojefnaa.PBonesPlay Go.Proofs.Ytfallkiaojefnaa.NumBonesPlay Go.Proofs.Ytfallkiaojefnaa.SrcBonesPlay Go.Proofs.Ytfallkiaojefnaa.SkelBonesPlay Go.Proofs.Ytfallkiaojefnaa.FaultBonesPlay Go.Proofs.Ytfallkiaojefnaa.QUnitBonesPlay
set_option linter.unusedVariables false

abbrev Key := S45
abbrev rdK := rd_T45
theorem rdK_get (L : List Key) (i : Nat) (h : i < L.length) : rdK L i = L[i] := by simp [rdK, rd_T45, h]
theorem dropK (L : List Key) (i : Nat) (h : i < L.length) : L.drop i = rdK L i :: L.drop (i + 1) := by rw [List.drop_eq_getElem_cons h, rdK_get L i h]

/-! ### bones.Blend -/
noncomputable def mixQ (a b : Qt) (t : Int) : Int × Int × Int × Int := qblendV a.f0 a.f1 a.f2 a.f3 b.f0 b.f1 b.f2 b.f3 t
noncomputable def mixes (A B : List Qt) (t : Int) (n : Nat) : List Qt := (List.range n).map fun (i : Nat) => ⟨(mixQ (rdQ A i) (rdQ B i) t).1, (mixQ (rdQ A i) (rdQ B i) t).2.1, (mixQ (rdQ A i) (rdQ B i) t).2.2.1, (mixQ (rdQ A i) (rdQ B i) t).2.2.2⟩
theorem mixes_len (A B : List Qt) (t : Int) (n : Nat) : (mixes A B t n).length = n := by simp [mixes]
theorem mixes_succ (A B : List Qt) (t : Int) (n : Nat) : mixes A B t (n + 1) = mixes A B t n ++ [⟨(mixQ (rdQ A n) (rdQ B n) t).1, (mixQ (rdQ A n) (rdQ B n) t).2.1, (mixQ (rdQ A n) (rdQ B n) t).2.2.1, (mixQ (rdQ A n) (rdQ B n) t).2.2.2⟩] := by simp [mixes, List.range_succ]
theorem mixes_rd (A B : List Qt) (t : Int) (n i : Nat) (h : i < n) : rdQ (mixes A B t n) i = ⟨(mixQ (rdQ A i) (rdQ B i) t).1, (mixQ (rdQ A i) (rdQ B i) t).2.1, (mixQ (rdQ A i) (rdQ B i) t).2.2.1, (mixQ (rdQ A i) (rdQ B i) t).2.2.2⟩ := by
  rw [rdQ_get _ _ (by rw [mixes_len]; exact h)]
  simp [mixes]

theorem blend_l0 (A B : List Qt) (t : Int) (n : Nat) (hn : n ≤ 40) (hA : A.length = n) (hB : B.length = n) : ∀ d i : Nat, i + d = n → Ev (fun k => bones_Blend.l0 k A B t (mixes A B t i) n i) (mixes A B t n, 0) := by
  intro d
  induction d with
  | zero =>
    intro i hi
    obtain rfl : i = n := by omega
    exact Ev.step (f := fun _ => some (mixes A B t i, 0)) (fun k => by rw [bones_Blend.l0, if_neg (by omega)]) (Ev.now _)
  | succ d ih =>
    intro i hi
    have h2 := ih (i + 1) (by omega)
    rw [show (((i + 1 : Nat) : Int)) = (i : Int) + 1 by omega, mixes_succ] at h2
    have w : wrap64 ((i : Int) + 1) = i + 1 := wrap_in (by omega) (by omega)
    have hl := mixes_len A B t i
    refine Ev.step (fun k => by rw [bones_Blend.l0, if_pos (by omega), if_pos (by omega), if_pos (by omega), if_pos (by omega)]) ?_
    refine Ev.bind (qblend_ev _ _ _ _ _ _ _ _ _) ?_
    simp only [if_pos (show (mixes A B t i).length < 4398046511104 by omega), w]
    exact h2
theorem fit_len {L : List Bn} {P : List Qt} (h : fitV L P = 0) : P.length = L.length ∧ L.length ≤ 40 := by
  unfold fitV at h
  by_cases c : checkV L = 0
  · rw [if_pos c] at h
    by_cases d : (P.length : Int) = L.length
    · refine ⟨by omega, ?_⟩
      unfold checkV at c
      by_cases e : (L.length : Int) > 40
      · rw [if_pos e] at c; omega
      · omega
    · rw [if_neg d] at h; omega
  · rw [if_neg c] at h; exact absurd h c
theorem blend_ev (L : List Bn) (A B : List Qt) (t : Int) (hA : fitV L A = 0) (hB : fitV L B = 0) (ht : 0 ≤ t ∧ t ≤ 65536) : Ev (fun k => bones_Blend.f k L A B t) (mixes A B t L.length, 0) := by
  unfold bones_Blend.f
  have fa := fitting_ev L A
  have fb := fitting_ev L B
  rw [hA] at fa
  rw [hB] at fb
  refine Ev.bind fa ?_
  simp only [if_true]
  refine Ev.bind fb ?_
  simp only [if_true, if_neg (show ¬ t < 0 by omega)]
  refine Ev.step (fun k => by rw [bones_Blend.j0, if_neg (by simp; omega)]) ?_
  exact blend_l0 A B t L.length (fit_len hA).2 (fit_len hA).1 (fit_len hB).1 L.length 0 (by omega)

/-! ### keys -/
def keyV (L : List Bn) (last : Int) (k : Key) : Int := if fitV L k.f1 = 0 then (if k.f0 ≤ last ∨ k.f0 > 131072000 then 9 else 0) else fitV L k.f1
def firstK (L : List Bn) : Int → List Key → Int
  | _, [] => 0
  | last, k :: ks => if keyV L last k = 0 then firstK L k.f0 ks else keyV L last k
theorem keyV0 {L : List Bn} {last : Int} {k : Key} (h : keyV L last k = 0) : fitV L k.f1 = 0 ∧ last < k.f0 ∧ k.f0 ≤ 131072000 := by
  unfold keyV at h
  by_cases c : fitV L k.f1 = 0
  · rw [if_pos c] at h
    by_cases d : k.f0 ≤ last ∨ k.f0 > 131072000
    · rw [if_pos d] at h; omega
    · exact ⟨c, by omega, by omega⟩
  · rw [if_neg c] at h; exact absurd h c
theorem firstK_ok {L : List Bn} : ∀ (K : List Key) (last : Int), firstK L last K = 0 → ∀ i : Nat, i < K.length → (fitV L (rdK K i).f1 = 0 ∧ last < (rdK K i).f0 ∧ (rdK K i).f0 ≤ 131072000) ∧ ∀ j : Nat, i < j → j < K.length → (rdK K i).f0 < (rdK K j).f0 := by
  intro K
  induction K with
  | nil => intro last _ i hi; exact absurd hi (by simp)
  | cons k ks ih =>
    intro last h i hi
    unfold firstK at h
    by_cases c : keyV L last k = 0
    · rw [if_pos c] at h
      obtain ⟨k1, k2, k3⟩ := keyV0 c
      have hc : ∀ j : Nat, rdK (k :: ks) ((j + 1 : Nat) : Int) = rdK ks j := by
        intro j
        unfold rdK rd_T45
        rw [Int.toNat_natCast, Int.toNat_natCast, List.getD_cons_succ]
      cases i with
      | zero =>
        refine ⟨⟨k1, k2, k3⟩, fun j hj hl => ?_⟩
        obtain ⟨j, rfl⟩ : ∃ m, j = m + 1 := ⟨j - 1, by omega⟩
        rw [hc]
        exact ((ih _ h j (by simpa using hl)).1).2.1
      | succ i =>
        rw [hc]
        have hi' : i < ks.length := by simpa using hi
        obtain ⟨⟨g1, g2, g3⟩, g4⟩ := ih _ h i hi'
        refine ⟨⟨g1, by omega, g3⟩, fun j hj hl => ?_⟩
        obtain ⟨j, rfl⟩ : ∃ m, j = m + 1 := ⟨j - 1, by omega⟩
        rw [hc]
        exact g4 j (by omega) (by simpa using hl)
    · rw [if_neg c] at h; exact absurd h c

/-! ### bones.Play -/
theorem play_l0 (L : List Bn) (K : List Key) (at' : Int) (hK : K.length ≤ 2000) (R : List Qt × Int) : ∀ n i : Nat, i + n = K.length → ∀ last : Int, (i = 0 ∧ last = -1) ∨ (0 < i ∧ last = (rdK K ((i - 1 : Nat) : Int)).f0 ∧ 0 ≤ last) →
    (if firstK L last (K.drop i) = 0 then Ev (fun k => bones_Play.l1 k L K at' K K.length 0) R else R = ([], firstK L last (K.drop i))) → Ev (fun k => bones_Play.l0 k L K at' K K.length i) R := by
  intro n
  induction n with
  | zero =>
    intro i hi last _ h
    rw [List.drop_eq_nil_of_le (by omega), show firstK L last [] = 0 from rfl, if_pos rfl] at h
    exact Ev.step (fun k => by rw [bones_Play.l0, if_neg (by omega)]) h
  | succ n ih =>
    intro i hi last hlast h
    rw [dropK K i (by omega)] at h
    unfold firstK at h
    have w : wrap64 ((i : Int) + 1) = ((i + 1 : Nat) : Int) := by rw [wrap_in (by omega) (by omega)]; omega
    have h2 := ih (i + 1) (by omega) (rdK K i).f0
    have hrk : rd_T45 K (i : Int) = rdK K i := rfl
    refine Ev.step (fun k => by rw [bones_Play.l0, if_pos (by omega), if_pos (by omega), if_pos (by omega), w, hrk]) ?_
    refine Ev.bind (fitting_ev L _) ?_
    unfold keyV at h
    by_cases c : fitV L (rdK K i).f1 = 0
    · simp only [if_pos c] at h ⊢
      have h9 : ∀ z : Prop, (z → ((rdK K i).f0 ≤ last ∨ (rdK K i).f0 > 131072000)) → z → R = ([], 9) := by
        intro z hz hz'
        rw [if_pos (hz hz')] at h
        simpa using h
      by_cases c1 : (rdK K i).f0 < 0
      · simp only [if_pos c1]
        rw [h9 _ (fun _ => by rcases hlast with ⟨_, e⟩ | ⟨_, _, e⟩ <;> omega) c1]
        exact Ev.now _
      · simp only [if_neg c1]
        by_cases c2 : (rdK K i).f0 > 131072000
        · simp only [if_pos c2]
          rw [h9 _ (fun _ => .inr c2) c2]
          exact Ev.now _
        · simp only [if_neg c2]
          by_cases c3 : (i : Int) > 0
          · have w2 : wrap64 ((i : Int) - 1) = ((i - 1 : Nat) : Int) := by rw [wrap_in (by omega) (by omega)]; omega
            have hl' : last = (rdK K ((i - 1 : Nat) : Int)).f0 := by rcases hlast with ⟨e, _⟩ | ⟨_, e, _⟩; omega; exact e
            have hrk2 : rd_T45 K ((i - 1 : Nat) : Int) = rdK K ((i - 1 : Nat) : Int) := rfl
            simp only [if_pos c3, w2, if_pos (show (0 : Int) ≤ ((i - 1 : Nat) : Int) by omega), if_pos (show ((i - 1 : Nat) : Int) < (K.length : Int) by omega), hrk2, ← hl']
            by_cases c4 : (rdK K i).f0 ≤ last
            · simp only [if_pos c4]
              rw [h9 _ (fun _ => .inl c4) c4]
              exact Ev.now _
            · simp only [if_neg c4]
              rw [if_neg (c := (rdK K i).f0 ≤ last ∨ (rdK K i).f0 > 131072000) (by omega), if_pos rfl] at h
              exact h2 (.inr ⟨by omega, by simp, by omega⟩) h
          · simp only [if_neg c3]
            have hl' : last = -1 := by rcases hlast with ⟨_, e⟩ | ⟨e, _⟩ <;> omega
            rw [if_neg (c := (rdK K i).f0 ≤ last ∨ (rdK K i).f0 > 131072000) (by omega), if_pos rfl] at h
            exact h2 (.inr ⟨by omega, by simp, by omega⟩) h
    · simp only [if_neg c] at h ⊢
      rw [h]
      exact Ev.now _

theorem md_range (p q : Int) (hp : 0 < p) (hq : p < q) (hm : q ≤ 131072000) : 0 ≤ mulDivV p 65536 q ∧ mulDivV p 65536 q ≤ 65536 := by
  unfold mulDivV
  have c1 : clampV 65536 = 65536 := by decide +kernel
  have a1 : absV 65536 = 65536 := by decide +kernel
  have ap : absV p = p := by unfold absV; rw [if_neg (by omega)]
  have aq : absV q = q := by unfold absV; rw [if_neg (by omega)]
  rw [c1, clampV_id (a := p) (by omega) (by omega), clampV_id (a := q) (by omega) (by omega), if_neg (by omega), a1, ap, aq]
  have hneg : negV p 65536 q = false := by
    unfold negV
    rw [if_neg (by omega), if_neg (by omega)]
    exact decide_eq_false (by omega)
  rw [hneg]
  unfold roundV
  have hd : 0 ≤ p * 65536 / q ∧ p * 65536 / q ≤ 65535 := by
    refine ⟨Int.ediv_nonneg (by omega) (by omega), ?_⟩
    have : p * 65536 / q < 65536 := by
      rw [Int.ediv_lt_iff_lt_mul (by omega)]
      omega
    omega
  simp only [if_neg (show ¬ q ≤ p * 65536 / 18446744073709551616 by omega), if_neg (show ¬ 1099511627776 < p * 65536 / q by omega), Bool.false_eq_true, if_false]
  split
  · rw [clampV_id (by omega) (by omega)]; omega
  · rw [clampV_id (by omega) (by omega)]; omega

/-- What the law takes at the key i. -/
def timeV (K : List Key) (at' : Int) (i : Nat) : Int := mulDivV (wrap64 (at' - (rdK K i).f0)) 65536 (wrap64 ((rdK K ((i + 1 : Nat) : Int)).f0 - (rdK K i).f0))
def isAt (K : List Key) (at' : Int) (i : Nat) : Prop := i < K.length ∧ (i = 0 ∨ (rdK K i).f0 ≤ at') ∧ (i + 1 = K.length ∨ (i + 1 < K.length ∧ at' < (rdK K ((i + 1 : Nat) : Int)).f0))
def moves (K : List Key) (at' : Int) (i : Nat) : Prop := i + 1 < K.length ∧ at' > (rdK K i).f0
noncomputable def played (L : List Bn) (K : List Key) (at' : Int) (i : Nat) : List Qt :=
  open Classical in if moves K at' i then mixes (rdK K i).f1 (rdK K ((i + 1 : Nat) : Int)).f1 (timeV K at' i) L.length else mixes (rdK K i).f1 (rdK K i).f1 0 L.length

theorem time_ok {L : List Bn} {K : List Key} {at' : Int} {i : Nat} (hK : firstK L (-1) K = 0) (hi : isAt K at' i) (hm : moves K at' i) : 0 ≤ timeV K at' i ∧ timeV K at' i ≤ 65536 := by
  obtain ⟨h1, h2, h3⟩ := hi
  obtain ⟨m1, m2⟩ := hm
  have a := firstK_ok K (-1) hK i (by omega)
  have b := firstK_ok K (-1) hK (i + 1) m1
  have h4 : at' < (rdK K ((i + 1 : Nat) : Int)).f0 := by rcases h3 with h3 | h3; omega; exact h3.2
  unfold timeV
  rw [wrap_in (by omega) (by omega), wrap_in (by omega) (by omega)]
  exact md_range _ _ (by omega) (by omega) (by omega)

theorem play_l1 (L : List Bn) (K : List Key) (at' : Int) (hn : 1 ≤ K.length) (hl : K.length ≤ 2000) (hK : firstK L (-1) K = 0) (s : Nat) (hs : isAt K at' s) : ∀ n i : Nat, i + n = K.length → (∀ j : Nat, j < i → (rdK K j).f0 < at') →
    Ev (fun k => bones_Play.l1 k L K at' K K.length i) (played L K at' s, 0) := by
  have hok := firstK_ok K (-1) hK
  have hs' := hs
  obtain ⟨s1, s2, s3⟩ := hs
  have still : ¬ moves K at' s → Ev (fun k => bones_Blend.f k L (rdK K s).f1 (rdK K s).f1 0) (played L K at' s, 0) := by
    intro hm
    unfold played
    rw [if_neg hm]
    exact blend_ev L _ _ 0 (hok s s1).1.1 (hok s s1).1.1 (by omega)
  intro n
  induction n with
  | zero =>
    intro i hi hb
    have e : s + 1 = K.length := by
      rcases s3 with s3 | ⟨s3, s4⟩
      · exact s3
      · have := hb (s + 1) (by omega); omega
    have w : wrap64 ((K.length : Int) - 1) = ((s : Nat) : Int) := by rw [wrap_in (by omega) (by omega)]; omega
    have hrk : rd_T45 K (s : Int) = rdK K s := rfl
    refine Ev.step (fun k => by rw [bones_Play.l1, if_neg (by omega), w, if_pos (by omega), if_pos (by omega), hrk]) ?_
    refine Ev.bind (still (fun h => by have := h.1; omega)) ?_
    exact Ev.now _
  | succ n ih =>
    intro i hi hb
    have w : wrap64 ((i : Int) + 1) = ((i + 1 : Nat) : Int) := by rw [wrap_in (by omega) (by omega)]; omega
    have hrk : rd_T45 K (i : Int) = rdK K i := rfl
    by_cases c : at' ≤ (rdK K i).f0
    · have hj : ∀ z : Bool, (z = true ↔ (i = 0 ∨ at' = (rdK K i).f0)) → Ev (fun k => bones_Play.j3 k L K at' i z (rdK K i).f0 (rdK K i).f1) (played L K at' s, 0) := by
        intro z hz
        cases z
        · have hno : ¬ (i = 0 ∨ at' = (rdK K i).f0) := fun h => by have := hz.2 h; simp at this
          have hb1 := hb (i - 1) (by omega)
          have hsi : s + 1 = i := by
            rcases Nat.lt_trichotomy (s + 1) i with q | q | q
            · rcases s3 with s3 | ⟨_, s4⟩
              · omega
              · have := hb (s + 1) (by omega); omega
            · exact q
            · rcases s2 with s2 | s2
              · omega
              · rcases Nat.lt_or_ge i s with q2 | q2
                · have := (hok i (by omega)).2 s q2 s1; omega
                · obtain rfl : i = s := by omega
                  omega
          have hm : moves K at' s := ⟨by omega, by rw [show s = i - 1 by omega]; exact hb1⟩
          have ht := time_ok hK hs' hm
          have hpl : played L K at' s = mixes (rdK K s).f1 (rdK K i).f1 (timeV K at' s) L.length := by unfold played; rw [if_pos hm, hsi]
          have w2 : wrap64 ((i : Int) - 1) = ((s : Nat) : Int) := by rw [wrap_in (by omega) (by omega)]; omega
          have hrk2 : rd_T45 K (s : Int) = rdK K s := rfl
          have ht' : timeV K at' s = mulDivV (wrap64 (at' - (rdK K s).f0)) 65536 (wrap64 ((rdK K i).f0 - (rdK K s).f0)) := by unfold timeV; rw [hsi]
          refine Ev.step (fun k => by rw [bones_Play.j3, if_neg (by simp), w2, if_pos (by omega), if_pos (by omega), hrk2]) ?_
          refine Ev.bind (mulDiv_ev _ _ _) ?_
          rw [← ht', hpl]
          exact Ev.bind (blend_ev L _ _ _ (hok s s1).1.1 (hok i (by omega)).1.1 ht) (Ev.now _)
        · have hyes := hz.1 rfl
          have hsi : s = i := by
            rcases Nat.lt_trichotomy s i with q | q | q
            · rcases hyes with h0 | h0
              · omega
              · rcases s3 with s3 | ⟨s3, s4⟩
                · omega
                · rcases Nat.lt_or_ge (s + 1) i with q2 | q2
                  · have := (hok (s + 1) (by omega)).2 i q2 (by omega); omega
                  · obtain rfl : s + 1 = i := by omega
                    omega
            · exact q
            · rcases s2 with s2 | s2
              · omega
              · have := (hok i (by omega)).2 s q s1; omega
          have hm : ¬ moves K at' s := by rintro ⟨_, m2⟩; rw [hsi] at m2; omega
          refine Ev.step (fun k => by rw [bones_Play.j3, if_pos rfl]) ?_
          rw [← hsi]
          exact Ev.bind (still hm) (Ev.now _)
      refine Ev.step (f := fun k => if (i : Int) = 0 then bones_Play.j3 k L K at' i true (rdK K i).f0 (rdK K i).f1 else bones_Play.j3 k L K at' i (at' == (rdK K i).f0) (rdK K i).f0 (rdK K i).f1) (fun k => by rw [bones_Play.l1, if_pos (by omega), if_pos (by omega), if_pos (by omega), hrk, if_pos c]) ?_
      by_cases i0 : (i : Int) = 0
      · simp only [if_pos i0]; exact hj true (by simp; omega)
      · simp only [if_neg i0]; exact hj _ (by rw [beq_iff_eq]; omega)
    · have h2 := ih (i + 1) (by omega) (fun j hj => by
        rcases Nat.lt_or_ge j i with q | q
        · exact hb j q
        · obtain rfl : j = i := by omega
          omega)
      exact Ev.step (fun k => by rw [bones_Play.l1, if_pos (by omega), if_pos (by omega), if_pos (by omega), hrk, if_neg c, w]) h2

def startV (K : List Key) : Int := if (K.length : Int) < 1 ∨ (K.length : Int) > 2000 then 2 else 0
def wantK (L : List Bn) (e last : Int) (K : List Key) : Int := if e = 0 then firstK L last K else e
theorem play_j0 (L : List Bn) (K : List Key) (at' : Int) (R : List Qt × Int) (z : Bool) (hz : z = true ↔ ((K.length : Int) < 1 ∨ (K.length : Int) > 2000)) (h : if z = true then R = ([], 2) else Ev (fun k => bones_Play.l0 k L K at' K K.length 0) R) : Ev (fun k => bones_Play.j0 k L K at' z) R := by
  cases z
  · exact Ev.step (fun k => by rw [bones_Play.j0, if_neg (by simp)]) (by simpa using h)
  · simp only [if_true] at h
    subst h
    exact Ev.step (f := fun _ => some ([], 2)) (fun k => by rw [bones_Play.j0, if_pos rfl]) (Ev.now _)
theorem play_ev (L : List Bn) (K : List Key) (at' : Int) : ∃ q, Ev (fun k => bones_Play.f k L K at') (q, wantK L (startV K) (-1) K) ∧ (wantK L (startV K) (-1) K ≠ 0 → q = []) ∧ (wantK L (startV K) (-1) K = 0 → (1 ≤ K.length ∧ K.length ≤ 2000) ∧ firstK L (-1) K = 0 ∧ ∀ s, isAt K at' s → q = played L K at' s) := by
  have go : ∀ R : List Qt × Int, (if (K.length : Int) < 1 ∨ (K.length : Int) > 2000 then R = ([], 2) else Ev (fun k => bones_Play.l0 k L K at' K K.length 0) R) → Ev (fun k => bones_Play.f k L K at') R := by
    intro R h
    unfold bones_Play.f
    by_cases c : (K.length : Int) < 1
    · simp only [if_pos c]
      refine play_j0 L K at' R true (by simp; omega) ?_
      rw [if_pos rfl]; rwa [if_pos (.inl c)] at h
    · simp only [if_neg c]
      by_cases d : (K.length : Int) > 2000
      · refine play_j0 L K at' R _ (by rw [decide_eq_true_eq]; omega) ?_
        rw [if_pos (decide_eq_true d)]; rwa [if_pos (.inr d)] at h
      · refine play_j0 L K at' R _ (by rw [decide_eq_true_eq]; omega) ?_
        rw [if_neg (by simpa using d)]; rwa [if_neg (by omega)] at h
  by_cases c : (K.length : Int) < 1 ∨ (K.length : Int) > 2000
  · have hs : startV K = 2 := by unfold startV; rw [if_pos c]
    have hw : wantK L (startV K) (-1) K = 2 := by unfold wantK; rw [hs, if_neg (by omega)]
    rw [hw]
    exact ⟨[], go _ (by rw [if_pos c]), fun _ => rfl, fun h => by omega⟩
  · have hs : startV K = 0 := by unfold startV; rw [if_neg c]
    have hw : wantK L (startV K) (-1) K = firstK L (-1) K := by unfold wantK; rw [hs, if_pos rfl]
    rw [hw]
    by_cases f0 : firstK L (-1) K = 0
    · -- the key at which the time stands
      have ex : ∀ n i : Nat, i + 1 + n = K.length → (i = 0 ∨ (rdK K i).f0 ≤ at') → ∃ s, isAt K at' s := by
        intro n
        induction n with
        | zero => intro i hi h; exact ⟨i, by omega, h, .inl (by omega)⟩
        | succ n ih =>
          intro i hi h
          by_cases g : (rdK K ((i + 1 : Nat) : Int)).f0 ≤ at'
          · exact ih (i + 1) (by omega) (.inr g)
          · exact ⟨i, by omega, h, .inr ⟨by omega, by omega⟩⟩
      obtain ⟨s, hs0⟩ := ex (K.length - 1) 0 (by omega) (.inl rfl)
      have main : ∀ s, isAt K at' s → Ev (fun k => bones_Play.f k L K at') (played L K at' s, 0) := by
        intro s hs
        refine go _ ?_
        rw [if_neg c]
        refine play_l0 L K at' (by omega) _ K.length 0 (by omega) (-1) (.inl ⟨rfl, rfl⟩) ?_
        rw [List.drop_zero, if_pos f0]
        exact play_l1 L K at' (by omega) (by omega) f0 s hs K.length 0 (by omega) (fun j hj => by omega)
      rw [f0]
      refine ⟨played L K at' s, main s hs0, fun h => absurd rfl h, fun _ => ⟨by omega, rfl, fun s' hs' => ?_⟩⟩
      have := ev_uniq (main s hs0) (main s' hs')
      exact congrArg Prod.fst this
    · refine ⟨[], go _ ?_, fun _ => rfl, fun h => absurd h f0⟩
      rw [if_neg c]
      refine play_l0 L K at' (by omega) _ K.length 0 (by omega) (-1) (.inl ⟨rfl, rfl⟩) ?_
      rw [List.drop_zero, if_neg f0]

/-! ### The law -/
theorem eq_self4 (a b c d : Int) : (!(a == a) || (!(b == b) || (!(c == c) || !(d == d)))) = false := by simp
theorem same_l2 (A B : List Qt) (t : Int) (n : Nat) (hn : n ≤ 40) (hA : A.length = n) (hB : B.length = n) : ∀ d i : Nat, i + d = n → Ev (fun k => tourlaw5_BonesPlay.l2 k (mixes A B t n) A B t n i) true := by
  intro d
  induction d with
  | zero => intro i hi; exact Ev.step (f := fun _ => some true) (fun k => by rw [tourlaw5_BonesPlay.l2, if_neg (by omega)]) (Ev.now _)
  | succ d ih =>
    intro i hi
    have h2 := ih (i + 1) (by omega)
    rw [show (((i + 1 : Nat) : Int)) = (i : Int) + 1 by omega] at h2
    have w : wrap64 ((i : Int) + 1) = i + 1 := wrap_in (by omega) (by omega)
    have hl := mixes_len A B t n
    have hr : rd_T37 (mixes A B t n) (i : Int) = _ := mixes_rd A B t n i (by omega)
    refine Ev.step (fun k => by rw [tourlaw5_BonesPlay.l2, if_pos (by omega), if_pos (by omega), if_pos (by omega), if_pos (by omega), if_pos (by omega), w, hr]) ?_
    refine Ev.bind (qblend_ev _ _ _ _ _ _ _ _ _) ?_
    show Ev (fun k => if (!((mixQ (rdQ A i) (rdQ B i) t).1 == (mixQ (rdQ A i) (rdQ B i) t).1) || (!((mixQ (rdQ A i) (rdQ B i) t).2.1 == (mixQ (rdQ A i) (rdQ B i) t).2.1) || (!((mixQ (rdQ A i) (rdQ B i) t).2.2.1 == (mixQ (rdQ A i) (rdQ B i) t).2.2.1) || (!((mixQ (rdQ A i) (rdQ B i) t).2.2.2 == (mixQ (rdQ A i) (rdQ B i) t).2.2.2))))) = true then none else tourlaw5_BonesPlay.l2 k (mixes A B t n) A B t n (i + 1)) true
    simp only [eq_self4, Bool.false_eq_true, if_false]
    exact h2
theorem same_l1002 (A B : List Qt) (t : Int) (n : Nat) (hn : n ≤ 40) (hA : A.length = n) (hB : B.length = n) : ∀ d i : Nat, i + d = n → Ev (fun k => tourlaw5_BonesPlay.l1002 k (mixes A B t n) A B t n i) true := by
  intro d
  induction d with
  | zero => intro i hi; exact Ev.step (f := fun _ => some true) (fun k => by rw [tourlaw5_BonesPlay.l1002, if_neg (by omega)]) (Ev.now _)
  | succ d ih =>
    intro i hi
    have h2 := ih (i + 1) (by omega)
    rw [show (((i + 1 : Nat) : Int)) = (i : Int) + 1 by omega] at h2
    have w : wrap64 ((i : Int) + 1) = i + 1 := wrap_in (by omega) (by omega)
    have hl := mixes_len A B t n
    have hr : rd_T37 (mixes A B t n) (i : Int) = _ := mixes_rd A B t n i (by omega)
    refine Ev.step (fun k => by rw [tourlaw5_BonesPlay.l1002, if_pos (by omega), if_pos (by omega), if_pos (by omega), if_pos (by omega), if_pos (by omega), w, hr]) ?_
    refine Ev.bind (qblend_ev _ _ _ _ _ _ _ _ _) ?_
    show Ev (fun k => if (!((mixQ (rdQ A i) (rdQ B i) t).1 == (mixQ (rdQ A i) (rdQ B i) t).1) || (!((mixQ (rdQ A i) (rdQ B i) t).2.1 == (mixQ (rdQ A i) (rdQ B i) t).2.1) || (!((mixQ (rdQ A i) (rdQ B i) t).2.2.1 == (mixQ (rdQ A i) (rdQ B i) t).2.2.1) || (!((mixQ (rdQ A i) (rdQ B i) t).2.2.2 == (mixQ (rdQ A i) (rdQ B i) t).2.2.2))))) = true then none else tourlaw5_BonesPlay.l1002 k (mixes A B t n) A B t n (i + 1)) true
    simp only [eq_self4, Bool.false_eq_true, if_false]
    exact h2

theorem law_j5 (L : List Bn) (K : List Key) (at' : Int) (hl : K.length ≤ 2000) (f0 : firstK L (-1) K = 0) (s : Nat) (hs : isAt K at' s) : Ev (fun k => tourlaw5_BonesPlay.j5 k L K at' (played L K at' s) 0 s) true := by
  have hok := firstK_ok K (-1) f0
  have hs' := hs
  obtain ⟨s1, s2, s3⟩ := hs
  have fl := fit_len (hok s s1).1.1
  have w : wrap64 ((s : Int) + 1) = ((s + 1 : Nat) : Int) := by rw [wrap_in (by omega) (by omega)]; omega
  have hrk : rd_T45 K (s : Int) = rdK K s := rfl
  have hj : ∀ z : Bool, (z = true ↔ moves K at' s) → Ev (fun k => tourlaw5_BonesPlay.j6 k L K at' (played L K at' s) 0 s (rdK K s).f1 (rdK K s).f1 0 z) true := by
    intro z hz
    cases z
    · have hm : ¬ moves K at' s := fun h => by have := hz.2 h; simp at this
      have hp : played L K at' s = mixes (rdK K s).f1 (rdK K s).f1 0 L.length := by unfold played; rw [if_neg hm]
      rw [hp]
      have hml := mixes_len (rdK K s).f1 (rdK K s).f1 0 L.length
      refine Ev.step (fun k => by rw [tourlaw5_BonesPlay.j6, if_neg (by simp), if_pos rfl, if_pos (by rw [hml]), hml]) ?_
      exact same_l1002 _ _ _ L.length fl.2 fl.1 fl.1 L.length 0 (by omega)
    · have hm := hz.1 rfl
      have hp : played L K at' s = mixes (rdK K s).f1 (rdK K ((s + 1 : Nat) : Int)).f1 (timeV K at' s) L.length := by unfold played; rw [if_pos hm]
      have fl2 := fit_len (hok (s + 1) hm.1).1.1
      have hrk2 : rd_T45 K ((s + 1 : Nat) : Int) = rdK K ((s + 1 : Nat) : Int) := rfl
      have hml := mixes_len (rdK K s).f1 (rdK K ((s + 1 : Nat) : Int)).f1 (timeV K at' s) L.length
      have m1 := hm.1
      rw [hp]
      refine Ev.step (fun k => by rw [tourlaw5_BonesPlay.j6, if_pos rfl, w, if_pos (by omega), if_pos (by omega), if_pos (by omega), if_pos (by omega), hrk, hrk2]) ?_
      refine Ev.bind (mulDiv_ev _ _ _) ?_
      simp only [if_true, hml]
      exact same_l2 _ _ _ L.length fl.2 fl.1 fl2.1 L.length 0 (by omega)
  refine Ev.step (f := fun k => if ((s + 1 : Nat) : Int) < (K.length : Int) then tourlaw5_BonesPlay.j6 k L K at' (played L K at' s) 0 s (rdK K s).f1 (rdK K s).f1 0 (decide (at' > (rdK K s).f0)) else tourlaw5_BonesPlay.j6 k L K at' (played L K at' s) 0 s (rdK K s).f1 (rdK K s).f1 0 false) (fun k => by rw [tourlaw5_BonesPlay.j5, if_pos (by omega), if_pos (by omega), w, hrk]) ?_
  by_cases c : ((s + 1 : Nat) : Int) < (K.length : Int)
  · simp only [if_pos c]
    exact hj _ (by rw [decide_eq_true_eq]; unfold moves; constructor; exact fun h => ⟨by omega, h⟩; exact fun h => h.2)
  · simp only [if_neg c]
    exact hj false (by simp; intro h; have := h.1; omega)

theorem law_l1 (L : List Bn) (K : List Key) (at' : Int) (hn : 1 ≤ K.length) (hl : K.length ≤ 2000) (f0 : firstK L (-1) K = 0) (q : List Qt) (hq : ∀ s, isAt K at' s → q = played L K at' s) : ∀ n i : Nat, i + 1 + n = K.length → (i = 0 ∨ (rdK K i).f0 ≤ at') → Ev (fun k => tourlaw5_BonesPlay.l1 k L K at' q 0 i) true := by
  have w0 : wrap64 ((K.length : Int) - 1) = K.length - 1 := wrap_in (by omega) (by omega)
  intro n
  induction n with
  | zero =>
    intro i hi h
    have hs : isAt K at' i := ⟨by omega, h, .inl (by omega)⟩
    rw [hq i hs]
    exact Ev.step (fun k => by rw [tourlaw5_BonesPlay.l1, w0, if_neg (by omega)]) (law_j5 L K at' hl f0 i hs)
  | succ n ih =>
    intro i hi h
    have w : wrap64 ((i : Int) + 1) = ((i + 1 : Nat) : Int) := by rw [wrap_in (by omega) (by omega)]; omega
    have hrk : rd_T45 K ((i + 1 : Nat) : Int) = rdK K ((i + 1 : Nat) : Int) := rfl
    by_cases c : (rdK K ((i + 1 : Nat) : Int)).f0 ≤ at'
    · exact Ev.step (fun k => by rw [tourlaw5_BonesPlay.l1, w0, if_pos (by omega), w, if_pos (by omega), if_pos (by omega), hrk, if_pos c]) (ih (i + 1) (by omega) (.inr c))
    · have hs : isAt K at' i := ⟨by omega, h, .inr ⟨by omega, by omega⟩⟩
      rw [hq i hs]
      exact Ev.step (fun k => by rw [tourlaw5_BonesPlay.l1, w0, if_pos (by omega), w, if_pos (by omega), if_pos (by omega), hrk, if_neg c]) (law_j5 L K at' hl f0 i hs)

theorem law_l0 (L : List Bn) (K : List Key) (hK : K.length ≤ 9223372036854775807) (at' : Int) : ∀ n i : Nat, i + n = K.length → ∀ e last : Int, wantK L e last (K.drop i) = wantK L (startV K) (-1) K → Ev (fun k => tourlaw5_BonesPlay.l0 k L K at' e last K K.length i) true := by
  obtain ⟨q, hq, hbad, hgood⟩ := play_ev L K at'
  intro n
  induction n with
  | zero =>
    intro i hi e last he
    rw [List.drop_eq_nil_of_le (by omega)] at he
    have he' : e = wantK L (startV K) (-1) K := by
      rw [← he]; unfold wantK firstK
      by_cases c : e = 0
      · rw [if_pos c, c]
      · rw [if_neg c]
    refine Ev.step (fun k => by rw [tourlaw5_BonesPlay.l0, if_neg (by omega)]) ?_
    refine Ev.bind hq ?_
    rw [he']
    by_cases c : wantK L (startV K) (-1) K = 0
    · simp only [if_pos c]
      obtain ⟨g1, g2, g3⟩ := hgood c
      rw [c]
      exact law_l1 L K at' g1.1 g1.2 g2 q g3 (K.length - 1) 0 (by omega) (.inl rfl)
    · simp only [if_neg c, if_true]
      rw [hbad c]
      exact Ev.now _
  | succ n ih =>
    intro i hi e last he
    rw [dropK K i (by omega)] at he
    have w : wrap64 ((i : Int) + 1) = ((i + 1 : Nat) : Int) := by rw [wrap_in (by omega) (by omega)]; omega
    have hrk : rd_T45 K (i : Int) = rdK K i := rfl
    refine Ev.step (fun k => by rw [tourlaw5_BonesPlay.l0, if_pos (by omega), if_pos (by omega), if_pos (by omega), w, hrk]) ?_
    have h2 := ih (i + 1) (by omega)
    generalize wantK L (startV K) (-1) K = W at he h2
    by_cases c : e = 0
    · simp only [if_pos c]
      have hf := fault_ev L [(rdK K i).f1] (by simp)
      rw [fitV_eq] at hf
      refine Ev.bind hf ?_
      unfold wantK at he
      rw [if_pos c] at he
      unfold firstK keyV at he
      by_cases f : fitV L (rdK K i).f1 = 0
      · simp only [if_pos f] at he ⊢
        by_cases g : (rdK K i).f0 ≤ last
        · simp only [if_pos g]
          rw [if_pos (c := (rdK K i).f0 ≤ last ∨ (rdK K i).f0 > 131072000) (.inl g), if_neg (by omega)] at he
          exact h2 9 _ (by unfold wantK; rw [if_neg (by omega)]; exact he)
        · simp only [if_neg g]
          by_cases g2 : (rdK K i).f0 > 131072000
          · simp only [if_pos g2]
            rw [if_pos (c := (rdK K i).f0 ≤ last ∨ (rdK K i).f0 > 131072000) (.inr g2), if_neg (by omega)] at he
            exact h2 9 _ (by unfold wantK; rw [if_neg (by omega)]; exact he)
          · simp only [if_neg g2]
            rw [if_neg (c := (rdK K i).f0 ≤ last ∨ (rdK K i).f0 > 131072000) (by omega), if_pos rfl] at he
            exact h2 _ _ (by unfold wantK; (first | rw [if_pos f] | rw [if_pos rfl]); exact he)
      · simp only [if_neg f] at he ⊢
        exact h2 _ _ (by unfold wantK; rw [if_neg f]; exact he)
    · simp only [if_neg c]
      unfold wantK at he
      rw [if_neg c] at he
      exact h2 e last (by unfold wantK; rw [if_neg c]; exact he)

theorem first_ev : Ev (fun k => bones_Play.f k [(⟨(-1), (⟨0, 0, 0⟩ : V3)⟩ : Bn)] [(⟨0, [one]⟩ : Key)] 5) ([one], 0) := Ev.of (fun k => bones_Play.mono _ _ _ k) (k := 200) (by kernel_rfl)

theorem pure (L : List Bn) (K : List Key) (hK : K.length ≤ 9223372036854775807) (at' : Int) : ∃ k, tourlaw5_BonesPlay.f k L K at' = some true := by
  refine Ev.rounds ?_
  unfold tourlaw5_BonesPlay.f
  simp only [Option.bind_some]
  refine Ev.bind (rest_ev [(⟨(-1), (⟨0, 0, 0⟩ : V3)⟩ : Bn)] (by simp)) ?_
  refine Ev.bind first_ev ?_
  simp only [if_true]
  have hj : ∀ z : Bool, (z = true ↔ ((K.length : Int) < 1 ∨ (K.length : Int) > 2000)) → Ev (fun k => tourlaw5_BonesPlay.j1 k L K at' 0 z) true := by
    intro z hz
    have fin : ∀ e, e = startV K → Ev (fun k => tourlaw5_BonesPlay.j2 k L K at' e) true := by
      rintro e rfl
      refine Ev.step (fun k => by rw [tourlaw5_BonesPlay.j2]) ?_
      exact law_l0 L K hK at' K.length 0 (by omega) _ _ (by rw [List.drop_zero])
    cases z
    · exact Ev.step (fun k => by rw [tourlaw5_BonesPlay.j1, if_neg (by simp)]) (fin 0 (by unfold startV; rw [if_neg (fun h => by have := hz.2 h; simp at this)]))
    · exact Ev.step (fun k => by rw [tourlaw5_BonesPlay.j1, if_pos rfl]) (fin 2 (by unfold startV; rw [if_pos (hz.1 rfl)]))
  refine Ev.step (f := fun k => if (K.length : Int) < 1 then tourlaw5_BonesPlay.j1 k L K at' 0 true else tourlaw5_BonesPlay.j1 k L K at' 0 (decide ((K.length : Int) > 2000))) (fun k => by rw [tourlaw5_BonesPlay.j0, if_neg (by simp)]) ?_
  by_cases c : (K.length : Int) < 1
  · simp only [if_pos c]; exact hj true (by simp; omega)
  · simp only [if_neg c]; exact hj _ (by rw [decide_eq_true_eq]; omega)

theorem quat_heap : Kd.Heap k37 := Kd.heap_iso _ (Kd.heap_pair (Kd.heap_int .i64) (Kd.heap_pair (Kd.heap_int .i64) (Kd.heap_pair (Kd.heap_int .i64) (Kd.heap_int .i64))))
theorem key_heap : Kd.Heap k45 := Kd.heap_iso _ (Kd.heap_pair (Kd.heap_int .i64) (Kd.heap_slice 37 quat_heap))

theorem walk (A0 : Option Addr) (c0 : Nat) (l : List Bn) {W : World} (hr : Kd.C k35 W A0 l.length l) (hc : l.length ≤ c0) {p : Prop} (_ : p) (A1 : Option Addr) (c1 : Nat) (K : List Key) (hr1 : Kd.C k45 W A1 K.length K) (hc1 : K.length ≤ c1) {q : Prop} (ok : K.length ≤ 9223372036854775807 ∧ q) (at' : Int) (_ : (Lit.int .i64 at').wf = true) :
    Calls Try.prog 4 #[.slice A0 l.length c0, .slice A1 K.length c1, .int .i64 at'] W fun e w' => e = .returned (.bool true) ∧ Below W.heap.size W w' := by
  obtain ⟨k, hk⟩ := pure l K ok.1 at'
  exact tourlaw5_BonesPlay.calls k _ _ l (fun k => k < W.heap.size) _ _ K at' true W hr hc ⟨A1, c1, rfl, hc1, Kd.C_F key_heap hr1⟩ hk
end Go.Proofs.Ytfallkiaojefnaa.PureBonesPlay
