/- What the law BonesLong computes is true, whatever the numbers. Under no condition. -/
import Derived.Test.YtfallkiaojefnaaQTurnBonesLong
namespace Go.Proofs.Ytfallkiaojefnaa.Pure
open Go.RowKit Go.Proofs.YtfallkiaojefnaaW.PrintWords Go.Proofs.YtfallkiaojefnaaW.PrintLast Go.Proofs.YtfallkiaojefnaaW.PrintMore Go.Proofs.Ytfallkiaojefnaa.Ext Go.Proofs.Ytfallkiaojefnaa.PBonesLong Go.Proofs.Ytfallkiaojefnaa.NumBonesLong Go.Proofs.Ytfallkiaojefnaa.SrcBonesLong Go.Proofs.Ytfallkiaojefnaa.SkelBonesLong Go.Proofs.Ytfallkiaojefnaa.QUnitBonesLong Go.Proofs.Ytfallkiaojefnaa.QExactBonesLong Go.Proofs.Ytfallkiaojefnaa.QNormBonesLong Go.Proofs.Ytfallkiaojefnaa.QTrigBonesLong Go.Proofs.Ytfallkiaojefnaa.QPoseBonesLong Go.Proofs.Ytfallkiaojefnaa.QTurnBonesLong
set_option linter.unusedVariables false
abbrev GoodQ := Go.Proofs.Ytfallkiaojefnaa.QPoseBonesLong.Good
abbrev Pl := S39
abbrev rdP := rd_T39
theorem rdP_get (L : List Pl) (i : Nat) (h : i < L.length) : rdP L i = L[i] := by simp [rdP, rd_T39, h]
theorem rdP_old (L : List Pl) (p : Pl) (i : Nat) (h : i < L.length) : rdP (L ++ [p]) i = rdP L i := by
  rw [rdP_get _ _ (by simp; omega), rdP_get _ _ h, List.getElem_append_left h]
theorem rdP_new (L : List Pl) (p : Pl) : rdP (L ++ [p]) (L.length : Nat) = p := by
  rw [rdP_get _ _ (by simp)]; simp
theorem good_ok {q : Qt} (h : GoodQ q) : okQt q := by
  obtain ⟨⟨h0, h1, h2, h3⟩, _⟩ := h
  intro x hx
  unfold wide
  unfold parts at hx
  simp only [List.mem_cons, List.not_mem_nil, or_false] at hx
  rcases hx with rfl | rfl | rfl | rfl <;> omega
theorem good_fit {L : List Bn} {P : List Qt} (hS : okS L) (hL : L.length ≤ 5) (hP : P.length = L.length) (hg : ∀ q ∈ P, GoodQ q) : fitV L P = 0 := by
  unfold fitV
  rw [if_pos (okS_check hS hL), if_pos (by omega), if_pos fun q hq => good_ok (hg q hq)]

/-! ### Places -/
/-- d is v, turned by what is about unit. -/
def Turned (v : V3) (d0 d1 d2 : Int) : Prop := ((-10000000 ≤ d0 ∧ d0 ≤ 10000000) ∧ (-10000000 ≤ d1 ∧ d1 ≤ 10000000) ∧ -10000000 ≤ d2 ∧ d2 ≤ 10000000) ∧ ∃ N E0 E1 E2 e0 e1 e2 : Int, (4294836200 ≤ N ∧ N ≤ 4295098390) ∧
  (4294967296 * d0 = E0 + e0 ∧ 4294967296 * d1 = E1 + e1 ∧ 4294967296 * d2 = E2 + e2) ∧ ((-K ≤ e0 ∧ e0 ≤ K) ∧ (-K ≤ e1 ∧ e1 ≤ K) ∧ -K ≤ e2 ∧ e2 ≤ K) ∧
  E0 * E0 + E1 * E1 + E2 * E2 = (N * N) * (v.f0 * v.f0 + v.f1 * v.f1 + v.f2 * v.f2)
def at3 (b : Int) (v : V3) : Prop := (-b ≤ v.f0 ∧ v.f0 ≤ b) ∧ (-b ≤ v.f1 ∧ v.f1 ≤ b) ∧ -b ≤ v.f2 ∧ v.f2 ≤ b
def PlOk (L : List Bn) (out : List Pl) (j : Nat) : Prop := Un (rdP out j).f1 ∧ at3 (1000000 + j * 10000000) (rdP out j).f0 ∧
  (0 ≤ (rdB L j).f0 → Turned (rdB L j).f1 ((rdP out j).f0.f0 - (rdP out (rdB L j).f0).f0.f0) ((rdP out j).f0.f1 - (rdP out (rdB L j).f0).f0.f1) ((rdP out j).f0.f2 - (rdP out (rdB L j).f0).f0.f2))
theorem ok_more {L : List Bn} (hS : okS L) {out : List Pl} {p : Pl} {i : Nat} (hi : i < L.length) (ho : out.length = i) (h : ∀ j : Nat, j < i → PlOk L out j) (h1 : Un p.f1) (h2 : at3 (1000000 + i * 10000000) p.f0)
    (h3 : 0 ≤ (rdB L i).f0 → Turned (rdB L i).f1 (p.f0.f0 - (rdP out (rdB L i).f0).f0.f0) (p.f0.f1 - (rdP out (rdB L i).f0).f0.f1) (p.f0.f2 - (rdP out (rdB L i).f0).f0.f2)) : ∀ j : Nat, j < i + 1 → PlOk L (out ++ [p]) j := by
  have up : ∀ j : Nat, j ≤ i → 0 ≤ (rdB L j).f0 → rdP (out ++ [p]) (rdB L j).f0 = rdP out (rdB L j).f0 := by
    intro j hj h0
    have hb := (okS_rd hS j (by omega)).1
    obtain ⟨u, hu⟩ := Int.eq_ofNat_of_zero_le h0
    rw [hu]
    exact rdP_old out p u (by omega)
  intro j hj
  by_cases c : j = i
  · subst c
    have e : rdP (out ++ [p]) (j : Nat) = p := by rw [← ho]; exact rdP_new out p
    refine ⟨by rw [e]; exact h1, by rw [e]; exact h2, fun h0 => ?_⟩
    rw [e, up j (by omega) h0]
    exact h3 h0
  · have e : rdP (out ++ [p]) (j : Nat) = rdP out j := rdP_old out p j (by omega)
    obtain ⟨g1, g2, g3⟩ := h j (by omega)
    refine ⟨by rw [e]; exact g1, by rw [e]; exact g2, fun h0 => ?_⟩
    rw [e, up j (by omega) h0]
    exact g3 h0
theorem places_l0 {L : List Bn} (hS : okS L) (hL : L.length ≤ 5) (P : List Qt) (hP : P.length = L.length) : ∀ d i : Nat, i + d = L.length → ∀ out : List Pl, out.length = i → (∀ j : Nat, j < i → PlOk L out j) →
    ∃ R, Ev (fun k => bones_Places.l0 k P out L L.length i) (R, 0) ∧ R.length = L.length ∧ ∀ j : Nat, j < L.length → PlOk L R j := by
  intro d
  induction d with
  | zero =>
    intro i hi out ho h
    refine ⟨out, Ev.step (f := fun _ => some (out, 0)) (fun k => by rw [bones_Places.l0, if_neg (by omega)]) (Ev.now _), by omega, fun j hj => h j (by omega)⟩
  | succ d ih =>
    intro i hi out ho h
    have w : wrap64 ((i : Int) + 1) = ((i + 1 : Nat) : Int) := by rw [wrap_in (by omega) (by omega)]; omega
    have hb := okS_rd hS i (by omega)
    unfold okB at hb
    have hr : rd_T35 L (i : Int) = rdB L i := rfl
    obtain ⟨o, ho1, ho2⟩ := un_unit (rdQ P i).f0 (rdQ P i).f1 (rdQ P i).f2 (rdQ P i).f3
    have first : ∀ R, Ev (fun k => if (rdB L i).f0 ≥ 0 then (if 0 ≤ (rdB L i).f0 then (if (rdB L i).f0 < (out.length : Int) then ((quat_Turn.f k ((rdP out (rdB L i).f0).f1.f0) ((rdP out (rdB L i).f0).f1.f1) ((rdP out (rdB L i).f0).f1.f2) ((rdP out (rdB L i).f0).f1.f3) ((rdB L i).f1.f0) ((rdB L i).f1.f1) ((rdB L i).f1.f2)).bind fun bt231 => (bones_Places.l1 k P out L L.length i 0 ((rdB L i).f1.f0) ((rdB L i).f1.f1) ((rdB L i).f1.f2) o.f0 o.f1 o.f2 o.f3 ((rdP out (rdB L i).f0).f0.f0) ((rdP out (rdB L i).f0).f0.f1) ((rdP out (rdB L i).f0).f0.f2) ((rdP out (rdB L i).f0).f1.f0) ((rdP out (rdB L i).f0).f1.f1) ((rdP out (rdB L i).f0).f1.f2) ((rdP out (rdB L i).f0).f1.f3) bt231.1 bt231.2.1 bt231.2.2)) else none) else none) else (if out.length < 2513169434916 then (bones_Places.l0 k P (out ++ [(⟨(⟨(rdB L i).f1.f0, (rdB L i).f1.f1, (rdB L i).f1.f2⟩ : V3), (⟨o.f0, o.f1, o.f2, o.f3⟩ : Qt)⟩ : Pl)]) L L.length (wrap64 ((i : Int) + 1))) else none)) R →
        Ev (fun k => bones_Places.l0 k P out L L.length i) R := by
      intro R hR
      refine Ev.step (fun k => by rw [bones_Places.l0, if_pos (by omega), if_pos (by omega), if_pos (by omega), if_pos (by omega), hr]) ?_
      exact Ev.bind ho1 hR
    by_cases hu : (rdB L i).f0 ≥ 0
    · obtain ⟨u, hu'⟩ := Int.eq_ofNat_of_zero_le hu
      have hui : u < i := by omega
      obtain ⟨g1, g2, _⟩ := h u hui
      unfold at3 at g2
      obtain ⟨d0, d1, d2, E0, E1, E2, e0, e1, e2, hev, hd, hE1, hE2, hE3⟩ := turn_rel (rdP out u).f1 g1 (rdB L i).f1.f0 (rdB L i).f1.f1 (rdB L i).f1.f2 (by omega) (by omega) (by omega)
      have hm := qmul_ev (rdP out u).f1.f0 (rdP out u).f1.f1 (rdP out u).f1.f2 (rdP out u).f1.f3 o.f0 o.f1 o.f2 o.f3
      revert hm
      generalize (addV (addV (addV (addV 0 (mulV (rdP out u).f1.f0 o.f0)) _) _) _, _) = m
      intro hm
      obtain ⟨q, hq, uq⟩ := un_unit m.1 m.2.1 m.2.2.1 m.2.2.2
      have a0 : addV (rdP out u).f0.f0 d0 = (rdP out u).f0.f0 + d0 := add_small (by omega) (by omega)
      have a1 : addV (rdP out u).f0.f1 d1 = (rdP out u).f0.f1 + d1 := add_small (by omega) (by omega)
      have a2 : addV (rdP out u).f0.f2 d2 = (rdP out u).f0.f2 + d2 := add_small (by omega) (by omega)
      obtain ⟨R, hR, hRl, hRo⟩ := ih (i + 1) (by omega) (out ++ [⟨⟨(rdP out u).f0.f0 + d0, (rdP out u).f0.f1 + d1, (rdP out u).f0.f2 + d2⟩, ⟨q.f0, q.f1, q.f2, q.f3⟩⟩]) (by simp [ho])
        (ok_more hS (by omega) ho h uq (by unfold at3; simp only; omega) (fun _ => by
          rw [hu']
          simp only
          rw [show (rdP out (u : Int)).f0.f0 + d0 - (rdP out (u : Int)).f0.f0 = d0 from by omega, show (rdP out (u : Int)).f0.f1 + d1 - (rdP out (u : Int)).f0.f1 = d1 from by omega, show (rdP out (u : Int)).f0.f2 + d2 - (rdP out (u : Int)).f0.f2 = d2 from by omega]
          exact ⟨hd, _, E0, E1, E2, e0, e1, e2, g1, hE1, hE2, hE3⟩))
      refine ⟨R, first _ ?_, hRl, hRo⟩
      rw [hu']
      simp only [if_pos (show (u : Int) ≥ 0 by omega), if_pos (show (u : Int) < (out.length : Int) by omega)]
      refine Ev.bind hev ?_
      refine Ev.step (fun k => by rw [bones_Places.l1, if_pos (by omega)]) ?_
      simp only [add_eq, Option.bind_some, if_true, w1, a0]
      refine Ev.step (fun k => by rw [bones_Places.l1, if_pos (by omega)]) ?_
      simp only [add_eq, Option.bind_some, if_neg n10, if_true, w2, a1]
      refine Ev.step (fun k => by rw [bones_Places.l1, if_pos (by omega)]) ?_
      simp only [add_eq, Option.bind_some, if_neg n20, if_neg n21, if_true, w3, a2]
      refine Ev.step (fun k => by rw [bones_Places.l1, if_neg (by omega)]) ?_
      refine Ev.bind hm (Ev.bind hq ?_)
      simp only [if_pos (show out.length < 2513169434916 by omega), w]
      exact hR
    · obtain ⟨R, hR, hRl, hRo⟩ := ih (i + 1) (by omega) (out ++ [⟨⟨(rdB L i).f1.f0, (rdB L i).f1.f1, (rdB L i).f1.f2⟩, ⟨o.f0, o.f1, o.f2, o.f3⟩⟩]) (by simp [ho])
        (ok_more hS (by omega) ho h ho2 (by unfold at3; simp only; omega) (fun h0 => absurd h0 hu))
      refine ⟨R, first _ ?_, hRl, hRo⟩
      simp only [if_neg hu, if_pos (show out.length < 2513169434916 by omega), w]
      exact hR
theorem places_ev {L : List Bn} (hS : okS L) (hL : L.length ≤ 5) (P : List Qt) (hP : P.length = L.length) (hf : fitV L P = 0) : ∃ R, Ev (fun k => bones_Places.f k L P) (R, 0) ∧ R.length = L.length ∧ ∀ j : Nat, j < L.length → PlOk L R j := by
  obtain ⟨R, h, hR⟩ := places_l0 hS hL P hP L.length 0 (by omega) [] rfl (fun j hj => by omega)
  refine ⟨R, ?_, hR⟩
  unfold bones_Places.f
  have := fitting_ev L P
  rw [hf] at this
  refine Ev.bind this ?_
  simp only [if_true]
  exact h

/-! ### The law -/
theorem stands_ev : Ev (fun k => tourkeep5_stands.f k) true := Ev.of (fun k => tourkeep5_stands.mono k) (k := 200) (by decide +kernel)
theorem law_l0 {L : List Bn} (hS : okS L) (hL : L.length ≤ 5) (R : List Pl) (hR : R.length = L.length) (ok : ∀ j : Nat, j < L.length → PlOk L R j) : ∀ d i : Nat, i + d = L.length → Ev (fun k => tourkeep5_BonesLong.l0 k R L L.length i) true := by
  intro d
  induction d with
  | zero => intro i hi; exact Ev.step (f := fun _ => some true) (fun k => by rw [tourkeep5_BonesLong.l0, if_neg (by omega)]) (Ev.now _)
  | succ d ih =>
    intro i hi
    have h2 := ih (i + 1) (by omega)
    have w : wrap64 ((i : Int) + 1) = ((i + 1 : Nat) : Int) := by rw [wrap_in (by omega) (by omega)]; omega
    have hb := okS_rd hS i (by omega)
    unfold okB at hb
    have hr : rd_T35 L (i : Int) = rdB L i := rfl
    obtain ⟨_, _, hk⟩ := ok i (by omega)
    have hrp : ∀ x : Int, rd_T39 R x = rdP R x := fun x => rfl
    by_cases c : (rdB L i).f0 < 0
    · exact Ev.step (fun k => by rw [tourkeep5_BonesLong.l0, if_pos (by omega), if_pos (by omega), if_pos (by omega), hr, if_pos c, w]) h2
    · obtain ⟨hd, N, E0, E1, E2, e0, e1, e2, hN, ⟨g0, g1, g2⟩, ⟨b0, b1, b2⟩, hE⟩ := hk (by omega)
      obtain ⟨u, hu⟩ := Int.eq_ofNat_of_zero_le (show 0 ≤ (rdB L i).f0 by omega)
      rw [hu] at hd g0 g1 g2
      generalize hd0 : (rdP R (i : Int)).f0.f0 - (rdP R (u : Int)).f0.f0 = d0 at *
      generalize hd1 : (rdP R (i : Int)).f0.f1 - (rdP R (u : Int)).f0.f1 = d1 at *
      generalize hd2 : (rdP R (i : Int)).f0.f2 - (rdP R (u : Int)).f0.f2 = d2 at *
      obtain ⟨F, hF, F0, FB, F1, F2⟩ := far_ev d0 d1 d2 (by omega) (by omega) (by omega)
      obtain ⟨a, ha, a0, aB, a1, a2⟩ := far_ev (rdB L i).f1.f0 (rdB L i).f1.f1 (rdB L i).f1.f2 (by omega) (by omega) (by omega)
      have m0 := mul_bd (a := (rdB L i).f1.f0) (b := (rdB L i).f1.f0) (A := 655360) (B := 655360) (by omega) (by omega)
      have m1 := mul_bd (a := (rdB L i).f1.f1) (b := (rdB L i).f1.f1) (A := 655360) (B := 655360) (by omega) (by omega)
      have m2 := mul_bd (a := (rdB L i).f1.f2) (b := (rdB L i).f1.f2) (A := 655360) (B := 655360) (by omega) (by omega)
      have al : a ≤ 1300000 := sq_le' (by omega) (by omega)
      have near := far_near N _ _ _ d0 d1 d2 E0 E1 E2 e0 e1 e2 a F hN ⟨a0, al⟩ F0 a1 a2 F1 F2 g0 g1 g2 b0 b1 b2 hE
      refine Ev.step (fun k => by rw [tourkeep5_BonesLong.l0, if_pos (by omega), if_pos (by omega), if_pos (by omega), hr, if_neg c, hu]) ?_
      refine Ev.step (fun k => by rw [tourkeep5_BonesLong.l1, if_pos (by omega), if_pos (by omega), if_pos (by omega), if_pos rfl, if_pos (by omega), if_pos (by omega), hrp, hrp, hd0, w1, wrap_in (x := d0) (by omega) (by omega)]) ?_
      refine Ev.step (fun k => by rw [tourkeep5_BonesLong.l1, if_pos (by omega), if_pos (by omega), if_pos (by omega), if_neg (by omega), if_pos rfl, if_pos (by omega), if_pos (by omega), hrp, hrp, hd1, w2, wrap_in (x := d1) (by omega) (by omega)]) ?_
      refine Ev.step (fun k => by rw [tourkeep5_BonesLong.l1, if_pos (by omega), if_pos (by omega), if_pos (by omega), if_neg (by omega), if_neg (by omega), if_pos rfl, if_pos (by omega), if_pos (by omega), hrp, hrp, hd2, w3, wrap_in (x := d2) (by omega) (by omega)]) ?_
      refine Ev.step (fun k => by rw [tourkeep5_BonesLong.l1, if_neg (by omega)]) ?_
      refine Ev.bind hF (Ev.bind ha ?_)
      simp only [wrap_in (x := F - a) (by omega) (by omega), wrap_in (x := a - F) (by omega) (by omega), if_neg (show ¬ F - a > 400 by omega), if_neg (show ¬ a - F > 400 by omega), w]
      exact h2

theorem BonesLong : tourkeep5_BonesLong.Pure := by
  intro l0 l1 h0 _ _ h1 _ _
  refine Ev.rounds ?_
  obtain ⟨L, hev, hS, hL⟩ := skel_ev l0 (by omega)
  obtain ⟨P, pev, gP, lP⟩ := pose_ev l1 (by omega) L.length (by omega)
  obtain ⟨R, rev, lR, okR⟩ := places_ev hS hL P lP (good_fit hS hL lP gP)
  unfold tourkeep5_BonesLong.f
  refine Ev.bind stands_ev ?_
  simp only [if_true]
  refine Ev.bind hev (Ev.bind pev (Ev.bind rev ?_))
  simp only [if_true, lR]
  refine Ev.step (fun k => by rw [tourkeep5_BonesLong.j0, if_neg (by simp)]) ?_
  exact law_l0 hS hL R lR okR L.length 0 (by omega)
end Go.Proofs.Ytfallkiaojefnaa.Pure
