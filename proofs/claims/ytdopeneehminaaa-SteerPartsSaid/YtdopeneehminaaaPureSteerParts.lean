/- What the printed law SteerParts computes is true, whatever the movers. Under no condition. -/
import Derived.Test.YtdopeneehminaaaSteerApartSteerParts
import Derived.Test.YtdopeneehminaaaSteerRefSteerParts
namespace Go.Proofs.Ytdopeneehminaaa.PureSteerParts
open Go.RowKit Go.Proofs.YtdopeneehminaaaW.PrintWords Go.Proofs.YtdopeneehminaaaW.PrintLast Go.Proofs.YtdopeneehminaaaW.PrintMore Go.Proofs.Ytdopeneehminaaa.PSteerParts Go.Proofs.Ytdopeneehminaaa.NumSteerParts Go.Proofs.Ytdopeneehminaaa.SteerSteerParts Go.Proofs.Ytdopeneehminaaa.SteerRefSteerParts Go.Proofs.Ytdopeneehminaaa.SteerApartSteerParts
set_option linter.unusedVariables false

theorem law_l2 (l : List S29) (near : Int) (hn : 0 ≤ near ∧ near ≤ 1099511627776) (hl : l.length ≤ 64) (acc : List S29) (i : Nat) (m : S29) (R : Bool) (d : Nat) : ∀ (j : Nat) (v : Int × Int), j + d = l.length →
    Ev (fun k => if (i : Int) < acc.length then (tourref5_Steered.f k m.f0.f0 m.f0.f1 m.f1.f0 m.f1.f1 m.f2 m.f3 (wishFrom l near i m d j v).1 (wishFrom l near i m d j v).2).bind fun bt => if ((!((at_ acc i).f0.f0 == bt.1) || (!((at_ acc i).f0.f1 == bt.2.1))) || ((!((at_ acc i).f1.f0 == bt.2.2.1) || (!((at_ acc i).f1.f1 == bt.2.2.2.1))) || (!((at_ acc i).f2 == bt.2.2.2.2.1) || (!((at_ acc i).f3 == bt.2.2.2.2.2))))) = true then some false else tourlaw5_SteerParts.l1 k l near acc l l.length (wrap64 ((i : Int) + 1)) else none) R →
    Ev (fun k => tourlaw5_SteerParts.l2 k l near acc i l l.length i l l.length j m.f0.f0 m.f0.f1 m.f1.f0 m.f1.f1 m.f2 m.f3 v.1 v.2) R := by
  induction d with
  | zero =>
    intro j v hj h
    refine Ev.step (fun k => ?_) h
    simp only [tourlaw5_SteerParts.l2, rd_at]
    rw [if_neg (by omega), if_pos (by omega)]
    rfl
  | succ d ih =>
    intro j v hj h
    have hlen := len_le (subV m.f0.f0 (at_ l j).f0.f0) (subV m.f0.f1 (at_ l j).f0.f1)
    have w1 : wrap64 ((j : Int) + 1) = ((j + 1 : Nat) : Int) := by rw [wrap_in (by omega) (by omega)]; omega
    have hnext := ih (j + 1) (pushV near i m j (at_ l j) v) (by omega) h
    have hno : pushV near i m j (at_ l j) v = v → Ev (fun k => tourlaw5_SteerParts.j8 k l near acc i l l.length i l l.length j false m.f0.f0 m.f0.f1 m.f1.f0 m.f1.f1 m.f2 m.f3 v.1 v.2 (subV m.f0.f0 (at_ l j).f0.f0) (subV m.f0.f1 (at_ l j).f0.f1)) R := by
      intro e
      rw [e] at hnext
      refine Ev.step (fun k => ?_) hnext
      simp only [tourlaw5_SteerParts.j8]
      rw [if_neg (by simp), w1]
    have hs : ∀ k, tourlaw5_SteerParts.l2 (k + 1) l near acc i l l.length i l l.length j m.f0.f0 m.f0.f1 m.f1.f0 m.f1.f1 m.f2 m.f3 v.1 v.2 =
        if (j : Int) = i then tourlaw5_SteerParts.j8 k l near acc i l l.length i l l.length j false m.f0.f0 m.f0.f1 m.f1.f0 m.f1.f1 m.f2 m.f3 v.1 v.2 (subV m.f0.f0 (at_ l j).f0.f0) (subV m.f0.f1 (at_ l j).f0.f1)
        else (vec_Len.f k (subV m.f0.f0 (at_ l j).f0.f0) (subV m.f0.f1 (at_ l j).f0.f1)).bind fun t => if t > 0 then (vec_Len.f k (subV m.f0.f0 (at_ l j).f0.f0) (subV m.f0.f1 (at_ l j).f0.f1)).bind fun t' => tourlaw5_SteerParts.j8 k l near acc i l l.length i l l.length j (decide (t' < near)) m.f0.f0 m.f0.f1 m.f1.f0 m.f1.f1 m.f2 m.f3 v.1 v.2 (subV m.f0.f0 (at_ l j).f0.f0) (subV m.f0.f1 (at_ l j).f0.f1)
        else tourlaw5_SteerParts.j8 k l near acc i l l.length i l l.length j false m.f0.f0 m.f0.f1 m.f1.f0 m.f1.f1 m.f2 m.f3 v.1 v.2 (subV m.f0.f0 (at_ l j).f0.f0) (subV m.f0.f1 (at_ l j).f0.f1) := by
      intro k
      simp only [tourlaw5_SteerParts.l2, rd_at, vsub_eq, Option.bind_some]
      rw [if_pos (by omega), if_pos (by omega), if_pos (by omega)]
    refine Ev.step hs ?_
    by_cases h1 : (j : Int) = i
    · simp only [if_pos h1]
      exact hno (by unfold pushV; rw [if_neg (fun h => h.1 (by omega))])
    · simp only [if_neg h1]
      refine Ev.bind (len_ev _ _) ?_
      by_cases h2 : lenV (subV m.f0.f0 (at_ l j).f0.f0) (subV m.f0.f1 (at_ l j).f0.f1) > 0
      · simp only [if_pos h2]
        refine Ev.bind (len_ev _ _) ?_
        by_cases h3 : lenV (subV m.f0.f0 (at_ l j).f0.f0) (subV m.f0.f1 (at_ l j).f0.f1) < near
        · simp only [decide_eq_true h3]
          have e : pushV near i m j (at_ l j) v = (addV v.1 (mulV (unitV (subV m.f0.f0 (at_ l j).f0.f0) (subV m.f0.f1 (at_ l j).f0.f1)).1 (mulDivV m.f2 (near - lenV (subV m.f0.f0 (at_ l j).f0.f0) (subV m.f0.f1 (at_ l j).f0.f1)) near)),
            addV v.2 (mulV (unitV (subV m.f0.f0 (at_ l j).f0.f0) (subV m.f0.f1 (at_ l j).f0.f1)).2 (mulDivV m.f2 (near - lenV (subV m.f0.f0 (at_ l j).f0.f0) (subV m.f0.f1 (at_ l j).f0.f1)) near))) := by
            unfold pushV; rw [if_pos ⟨by omega, h2, h3⟩]
          rw [e] at hnext
          have he := len_ev (subV m.f0.f0 (at_ l j).f0.f0) (subV m.f0.f1 (at_ l j).f0.f1)
          generalize lenV (subV m.f0.f0 (at_ l j).f0.f0) (subV m.f0.f1 (at_ l j).f0.f1) = t at *
          have hs2 : ∀ k, tourlaw5_SteerParts.j8 (k + 1) l near acc i l l.length i l l.length j true m.f0.f0 m.f0.f1 m.f1.f0 m.f1.f1 m.f2 m.f3 v.1 v.2 (subV m.f0.f0 (at_ l j).f0.f0) (subV m.f0.f1 (at_ l j).f0.f1) =
              (vec_Unit.f k (subV m.f0.f0 (at_ l j).f0.f0) (subV m.f0.f1 (at_ l j).f0.f1)).bind fun a => (vec_Len.f k (subV m.f0.f0 (at_ l j).f0.f0) (subV m.f0.f1 (at_ l j).f0.f1)).bind fun t' => (fix_MulDiv.f k m.f2 (wrap64 (near - t')) near).bind fun b => (vec_Scale.f k a.1 a.2 b).bind fun c => tourlaw5_SteerParts.l2 k l near acc i l l.length i l l.length ((j + 1 : Nat) : Int) m.f0.f0 m.f0.f1 m.f1.f0 m.f1.f1 m.f2 m.f3 (addV v.1 c.1) (addV v.2 c.2) := by
            intro k
            simp only [tourlaw5_SteerParts.j8, vadd_eq, Option.bind_some]
            rw [if_pos trivial, w1]
          refine Ev.step hs2 (Ev.bind (unit_ev _ _) (Ev.bind he ?_))
          rw [wrap_in (x := near - t) (by omega) (by omega)]
          exact Ev.bind (mulDiv_ev _ _ _) (Ev.bind (scale_ev _ _ _) hnext)
        · simp only [decide_eq_false h3]
          exact hno (by unfold pushV; rw [if_neg (fun h => h3 h.2.2)])
      · simp only [if_neg h2]
        exact hno (by unfold pushV; rw [if_neg (fun h => h2 h.2.1)])

theorem outs_at (l : List S29) (near : Int) (i : Nat) (h : i < l.length) : at_ (outs l near) i = outV l near i := by
  unfold at_ outs
  rw [List.getD_eq_getElem?_getD, List.getElem?_map, List.getElem?_range h]
  rfl

theorem law_l1 (l : List S29) (near : Int) (hn : 0 ≤ near ∧ near ≤ 1099511627776) (hl : l.length ≤ 64) (d : Nat) : ∀ i : Nat, i + d = l.length →
    Ev (fun k => tourlaw5_SteerParts.l1 k l near (outs l near) l l.length i) true := by
  induction d with
  | zero =>
    intro i hi
    refine Ev.step (f := fun _ => some _) (fun k => ?_) (Ev.now _)
    simp only [tourlaw5_SteerParts.l1]
    rw [if_neg (by omega)]
  | succ d ih =>
    intro i hi
    have w1 : wrap64 ((i : Int) + 1) = ((i + 1 : Nat) : Int) := by rw [wrap_in (by omega) (by omega)]; omega
    have hol : (outs l near).length = l.length := by unfold outs; simp
    have h2 := law_l2 l near hn hl (outs l near) i (at_ l i) true l.length 0 ((at_ l i).f1.f0, (at_ l i).f1.f1) (by omega) (by
      simp only [if_pos (show (i : Int) < (outs l near).length by omega), w1, outs_at l near i (by omega)]
      refine Ev.bind (steered_ev _ _ _ _ _ _ _ _) ?_
      have h := ih (i + 1) (by omega)
      unfold outV
      simp only [beq_self_eq_true, Bool.not_true, Bool.or_self, Bool.false_eq_true, if_false]
      exact h)
    refine Ev.step (fun k => ?_) h2
    simp only [tourlaw5_SteerParts.l1, rd_at]
    rw [if_pos (by omega), if_pos (by omega), if_pos (by omega)]
    rfl

theorem law_j4 (l : List S29) (near e : Int) (he : e = (apartV l near).2) : Ev (fun k => tourlaw5_SteerParts.j4 k l near e) true := by
  have hs : ∀ k, tourlaw5_SteerParts.j4 (k + 1) l near e = (steer_Apart.f k l near).bind fun bt => if e = 0 then (if bt.2 = 0 then tourlaw5_SteerParts.j5 k l near bt.1 ((bt.1.length : Int) != (l.length : Int)) else tourlaw5_SteerParts.j5 k l near bt.1 true) else (if bt.2 = e then some ((bt.1.length : Int) == 0) else some false) := by
    intro k; simp only [tourlaw5_SteerParts.j4]
  refine Ev.step hs (Ev.bind (apart_ev l near) ?_)
  rw [← he]
  by_cases h : e = 0
  · simp only [if_pos h]
    unfold apartV at he ⊢
    by_cases hl : l.length ≤ 64
    · rw [if_pos hl] at he ⊢
      by_cases hf : faultsFrom l 0 = 0
      · rw [if_pos hf] at he ⊢
        by_cases hn : 0 ≤ near ∧ near ≤ 1099511627776
        · rw [if_pos hn]
          have hol : (outs l near).length = l.length := by unfold outs; simp
          refine Ev.step (fun k => ?_) (law_l1 l near hn hl l.length 0 (by omega))
          simp only [tourlaw5_SteerParts.j5, hol]
          rw [if_neg (by simp)]
          rfl
        · rw [if_neg hn] at he; simp at he; omega
      · rw [if_neg hf] at he; exact absurd (he.symm.trans h) hf
    · rw [if_neg hl] at he; simp at he; omega
  · simp only [if_neg h, if_true]
    have hnil : (apartV l near).1 = [] := by
      unfold apartV at he ⊢
      split <;> (try split) <;> (try split) <;> first | rfl | (exfalso; simp_all)
    rw [hnil]
    exact Ev.now _

theorem law_l0 (l : List S29) (near : Int) (hl : l.length ≤ 9223372036854775807) (d : Nat) : ∀ (i : Nat) (e : Int), i + d = l.length → (if l.length ≤ 64 then (if e = 0 then faultsFrom l i = faultsFrom l 0 else e = faultsFrom l 0) else e = 2) →
    Ev (fun k => tourlaw5_SteerParts.l0 k l near e l l.length i) true := by
  induction d with
  | zero =>
    intro i e hi he
    have hend := faultsFrom_end l i (by omega)
    rw [hend] at he
    have hj3 : ∀ b, Ev (fun k => tourlaw5_SteerParts.j4 k l near (if b = true then 1 else e)) true → Ev (fun k => tourlaw5_SteerParts.j3 k l near e b) true := by
      intro b h
      refine Ev.step (fun k => ?_) h
      simp only [tourlaw5_SteerParts.j3]
      cases b <;> simp
    refine Ev.step (f := fun k => tourlaw5_SteerParts.j3 k l near e (if e = 0 then (if near < 0 then true else decide (near > 1099511627776)) else false)) (fun k => ?_) (hj3 _ (law_j4 _ _ _ ?_))
    · simp only [tourlaw5_SteerParts.l0]
      rw [if_neg (by omega)]
      split
      · split <;> rfl
      · rfl
    · unfold apartV
      by_cases hl6 : l.length ≤ 64
      · rw [if_pos hl6] at he ⊢
        by_cases h0 : e = 0
        · rw [if_pos h0] at he ⊢
          rw [if_pos he.symm]
          by_cases hn : 0 ≤ near ∧ near ≤ 1099511627776
          · have eb : (if near < 0 then true else decide (near > 1099511627776)) = false := by rw [if_neg (by omega)]; exact decide_eq_false (by omega)
            rw [if_pos hn, eb]
            simpa using h0
          · have eb : (if near < 0 then true else decide (near > 1099511627776)) = true := by
              split
              · rfl
              · exact decide_eq_true (by omega)
            rw [if_neg hn, eb]
            rfl
        · rw [if_neg h0] at he ⊢
          simp only [Bool.false_eq_true, if_false]
          rw [if_neg (by rw [← he]; exact h0)]
          exact he
      · rw [if_neg hl6] at he ⊢
        have h0 : e ≠ 0 := by omega
        rw [if_neg h0]
        simp only [Bool.false_eq_true, if_false]
        omega
  | succ d ih =>
    intro i e hi he
    have w1 : wrap64 ((i : Int) + 1) = ((i + 1 : Nat) : Int) := by rw [wrap_in (by omega) (by omega)]; omega
    have hs : ∀ k, tourlaw5_SteerParts.l0 (k + 1) l near e l l.length i = if e = 0 then (tourref5_MoverFault.f k (at_ l i).f0.f0 (at_ l i).f0.f1 (at_ l i).f1.f0 (at_ l i).f1.f1 (at_ l i).f2 (at_ l i).f3).bind fun t => tourlaw5_SteerParts.l0 k l near t l l.length ((i + 1 : Nat) : Int) else tourlaw5_SteerParts.l0 k l near e l l.length ((i + 1 : Nat) : Int) := by
      intro k
      simp only [tourlaw5_SteerParts.l0, rd_at]
      rw [if_pos (by omega), if_pos (by omega), if_pos (by omega), w1]
    refine Ev.step hs ?_
    by_cases h0 : e = 0
    · simp only [if_pos h0]
      refine Ev.bind (moverFault_ev _ _ _ _ _ _) (ih (i + 1) _ (by omega) ?_)
      change if l.length ≤ 64 then (if faultOf (at_ l i) = 0 then faultsFrom l (i + 1) = faultsFrom l 0 else faultOf (at_ l i) = faultsFrom l 0) else faultOf (at_ l i) = 2
      by_cases hl6 : l.length ≤ 64
      · rw [if_pos hl6] at he ⊢
        rw [if_pos h0, faultsFrom_step l i (by omega)] at he
        split
        · rw [if_pos (by assumption)] at he; exact he
        · rw [if_neg (by assumption)] at he; exact he
      · rw [if_neg hl6] at he
        omega
    · simp only [if_neg h0]
      refine ih (i + 1) e (by omega) ?_
      rw [if_neg h0] at he ⊢
      exact he

theorem pure (l : List S29) (near : Int) (hl : l.length ≤ 9223372036854775807) : ∃ k, tourlaw5_SteerParts.f k l near = some true := by
  refine Ev.rounds ?_
  unfold tourlaw5_SteerParts.f
  refine Ev.bind (apart_ev _ _) ?_
  have h1 : apartV [⟨⟨0, 0⟩, ⟨0, 0⟩, 0, 0⟩] 1 = (outs [⟨⟨0, 0⟩, ⟨0, 0⟩, 0, 0⟩] 1, 0) := by
    unfold apartV
    rw [if_pos (by simp), if_pos (by
      rw [faultsFrom_step _ _ (by simp), faultsFrom_end _ _ (by simp)]
      simp [at_, faultOf, faultV, clampV]), if_pos (by omega)]
  rw [h1]
  have h2 : (outs [⟨⟨0, 0⟩, ⟨0, 0⟩, 0, 0⟩] 1).length = 1 := by unfold outs; simp
  simp only [h2, if_true]
  refine Ev.step (f := fun k => tourlaw5_SteerParts.j1 k l near (if (l.length : Int) > 64 then 2 else 0)) (fun k => ?_) (Ev.step (f := fun k => tourlaw5_SteerParts.l0 k l near (if (l.length : Int) > 64 then 2 else 0) l l.length 0) (fun k => ?_) (law_l0 l near hl l.length 0 _ (by omega) ?_))
  · simp only [tourlaw5_SteerParts.j0]
    rw [if_neg (by simp)]
    split <;> rfl
  · simp only [tourlaw5_SteerParts.j1]
  · by_cases h : l.length ≤ 64
    · have e0 : (if (l.length : Int) > 64 then (2 : Int) else 0) = 0 := if_neg (by omega)
      rw [if_pos h, e0, if_pos rfl]
    · rw [if_neg h, if_pos (by omega)]

theorem walk (A0 : Option Addr) (c0 : Nat) (l : List S29) {W : World} (hr : Kd.C k29 W A0 l.length l) (hc : l.length ≤ c0) {p : S29 → Prop} (ok : l.length ≤ 9223372036854775807 ∧ ∀ x ∈ l, p x) (near : Int) (_ : (Lit.int .i64 near).wf = true) :
    Calls Try.prog 3 #[.slice A0 l.length c0, .int .i64 near] W fun e w' => e = .returned (.bool true) ∧ Below W.heap.size W w' := by
  obtain ⟨k, hk⟩ := pure l near ok.1
  exact tourlaw5_SteerParts.calls k _ _ l near true W hr hc hk
end Go.Proofs.Ytdopeneehminaaa.PureSteerParts
