/- steer.Apart, over what the print wrote of a law. Under no condition but what stands at each. -/
import Derived.Test.YtdopeneehminaaaSteerSteerThere
namespace Go.Proofs.Ytdopeneehminaaa.SteerApartSteerThere
open Go.RowKit Go.Proofs.YtdopeneehminaaaW.PrintWords Go.Proofs.YtdopeneehminaaaW.PrintLast Go.Proofs.YtdopeneehminaaaW.PrintMore Go.Proofs.Ytdopeneehminaaa.PSteerThere Go.Proofs.Ytdopeneehminaaa.NumSteerThere Go.Proofs.Ytdopeneehminaaa.SteerSteerThere
set_option linter.unusedVariables false

def at_ (l : List S29) (i : Nat) : S29 := l.getD i z29
theorem rd_at (l : List S29) (i : Nat) : rd_T29 l (i : Int) = at_ l i := by unfold rd_T29 at_; rw [Int.toNat_natCast]

def faultOf (m : S29) : Int := faultV m.f0.f0 m.f0.f1 m.f1.f0 m.f1.f1 m.f2 m.f3
/-- What is wrong with the first mover with which something is wrong. -/
def faultsFrom (l : List S29) (n : Nat) : Int := match (l.drop n).find? (fun m => faultOf m != 0) with | some m => faultOf m | none => 0
theorem faultsFrom_end (l : List S29) (n : Nat) (h : l.length ≤ n) : faultsFrom l n = 0 := by unfold faultsFrom; rw [List.drop_eq_nil_of_le h]; rfl
theorem faultsFrom_step (l : List S29) (n : Nat) (h : n < l.length) : faultsFrom l n = if faultOf (at_ l n) = 0 then faultsFrom l (n + 1) else faultOf (at_ l n) := by
  have e : at_ l n = l[n] := by unfold at_; rw [List.getD_eq_getElem?_getD, List.getElem?_eq_getElem h]; rfl
  unfold faultsFrom
  rw [List.drop_eq_getElem_cons h, e]
  by_cases h0 : faultOf l[n] = 0
  · rw [if_pos h0, List.find?_cons_of_neg (by simp [h0])]
  · rw [if_neg h0, List.find?_cons_of_pos (by simp [h0])]

/-- What a mover's wish becomes by another thing. -/
noncomputable def pushV (near : Int) (i : Nat) (m : S29) (j : Nat) (o : S29) (v : Int × Int) : Int × Int :=
  if j ≠ i ∧ 0 < lenV (subV m.f0.f0 o.f0.f0) (subV m.f0.f1 o.f0.f1) ∧ lenV (subV m.f0.f0 o.f0.f0) (subV m.f0.f1 o.f0.f1) < near then
    (addV v.1 (mulV (unitV (subV m.f0.f0 o.f0.f0) (subV m.f0.f1 o.f0.f1)).1 (mulDivV m.f2 (near - lenV (subV m.f0.f0 o.f0.f0) (subV m.f0.f1 o.f0.f1)) near)),
     addV v.2 (mulV (unitV (subV m.f0.f0 o.f0.f0) (subV m.f0.f1 o.f0.f1)).2 (mulDivV m.f2 (near - lenV (subV m.f0.f0 o.f0.f0) (subV m.f0.f1 o.f0.f1)) near)))
  else v
noncomputable def wishFrom (l : List S29) (near : Int) (i : Nat) (m : S29) : Nat → Nat → Int × Int → Int × Int
  | 0, _, v => v
  | d + 1, j, v => wishFrom l near i m d (j + 1) (pushV near i m j (at_ l j) v)
noncomputable def outV (l : List S29) (near : Int) (i : Nat) : S29 :=
  let m := at_ l i
  let w := wishFrom l near i m l.length 0 (m.f1.f0, m.f1.f1)
  let t := towardV m.f0.f0 m.f0.f1 m.f1.f0 m.f1.f1 m.f2 m.f3 w.1 w.2
  ⟨⟨t.1, t.2.1⟩, ⟨t.2.2.1, t.2.2.2.1⟩, t.2.2.2.2.1, t.2.2.2.2.2⟩
noncomputable def outs (l : List S29) (near : Int) : List S29 := (List.range l.length).map (outV l near)

theorem len_le (x y : Int) : 0 ≤ lenV x y ∧ lenV x y ≤ 1099511627776 := by
  obtain ⟨r, h, h0, _⟩ := lenV_eq x y
  have := clampV_le r
  rw [h]
  refine ⟨?_, this.2⟩
  unfold clampV; split <;> (try split) <;> omega

theorem apart_l2 (l : List S29) (near : Int) (hn : 0 ≤ near ∧ near ≤ 1099511627776) (hl : l.length ≤ 64) (acc : List S29) (i : Nat) (m : S29) (R : List S29 × Int) (d : Nat) : ∀ (j : Nat) (v : Int × Int), j + d = l.length →
    Ev (fun k => (steer_toward.f k m.f0.f0 m.f0.f1 m.f1.f0 m.f1.f1 m.f2 m.f3 (wishFrom l near i m d j v).1 (wishFrom l near i m d j v).2).bind fun bt => if acc.length < 2932031007402 then steer_Apart.l1 k l near (acc ++ [⟨⟨bt.1, bt.2.1⟩, ⟨bt.2.2.1, bt.2.2.2.1⟩, bt.2.2.2.2.1, bt.2.2.2.2.2⟩]) l l.length (wrap64 ((i : Int) + 1)) else none) R →
    Ev (fun k => steer_Apart.l2 k l near acc i l l.length i l l.length j m.f0.f0 m.f0.f1 m.f1.f0 m.f1.f1 m.f2 m.f3 v.1 v.2) R := by
  induction d with
  | zero =>
    intro j v hj h
    refine Ev.step (fun k => ?_) h
    simp only [steer_Apart.l2]
    rw [if_neg (by omega)]
    rfl
  | succ d ih =>
    intro j v hj h
    have hlen := len_le (subV m.f0.f0 (at_ l j).f0.f0) (subV m.f0.f1 (at_ l j).f0.f1)
    have w1 : wrap64 ((j : Int) + 1) = ((j + 1 : Nat) : Int) := by rw [wrap_in (by omega) (by omega)]; omega
    have hnext := ih (j + 1) (pushV near i m j (at_ l j) v) (by omega) h
    refine Ev.step (f := fun k => (vec_Len.f k (subV m.f0.f0 (at_ l j).f0.f0) (subV m.f0.f1 (at_ l j).f0.f1)).bind fun t => if (j : Int) = i then steer_Apart.j4 k l near acc i t l l.length i l l.length j false m.f0.f0 m.f0.f1 m.f1.f0 m.f1.f1 m.f2 m.f3 v.1 v.2 (subV m.f0.f0 (at_ l j).f0.f0) (subV m.f0.f1 (at_ l j).f0.f1)
        else if t > 0 then steer_Apart.j4 k l near acc i t l l.length i l l.length j (decide (t < near)) m.f0.f0 m.f0.f1 m.f1.f0 m.f1.f1 m.f2 m.f3 v.1 v.2 (subV m.f0.f0 (at_ l j).f0.f0) (subV m.f0.f1 (at_ l j).f0.f1)
        else steer_Apart.j4 k l near acc i t l l.length i l l.length j false m.f0.f0 m.f0.f1 m.f1.f0 m.f1.f1 m.f2 m.f3 v.1 v.2 (subV m.f0.f0 (at_ l j).f0.f0) (subV m.f0.f1 (at_ l j).f0.f1)) (fun k => ?_) (Ev.bind (len_ev _ _) ?_)
    · simp only [steer_Apart.l2, rd_at, vsub_eq, Option.bind_some]
      rw [if_pos (by omega), if_pos (by omega), if_pos (by omega)]
    · have hno : pushV near i m j (at_ l j) v = v → ∀ t, Ev (fun k => steer_Apart.j4 k l near acc i t l l.length i l l.length j false m.f0.f0 m.f0.f1 m.f1.f0 m.f1.f1 m.f2 m.f3 v.1 v.2 (subV m.f0.f0 (at_ l j).f0.f0) (subV m.f0.f1 (at_ l j).f0.f1)) R := by
        intro e t
        rw [e] at hnext
        refine Ev.step (fun k => ?_) hnext
        simp only [steer_Apart.j4]
        rw [if_neg (by simp), w1]
      by_cases h1 : (j : Int) = i
      · simp only [if_pos h1]
        exact hno (by unfold pushV; rw [if_neg (fun h => h.1 (by omega))]) _
      · simp only [if_neg h1]
        by_cases h2 : lenV (subV m.f0.f0 (at_ l j).f0.f0) (subV m.f0.f1 (at_ l j).f0.f1) > 0
        · simp only [if_pos h2]
          by_cases h3 : lenV (subV m.f0.f0 (at_ l j).f0.f0) (subV m.f0.f1 (at_ l j).f0.f1) < near
          · simp only [decide_eq_true h3]
            have e : pushV near i m j (at_ l j) v = (addV v.1 (mulV (unitV (subV m.f0.f0 (at_ l j).f0.f0) (subV m.f0.f1 (at_ l j).f0.f1)).1 (mulDivV m.f2 (near - lenV (subV m.f0.f0 (at_ l j).f0.f0) (subV m.f0.f1 (at_ l j).f0.f1)) near)),
              addV v.2 (mulV (unitV (subV m.f0.f0 (at_ l j).f0.f0) (subV m.f0.f1 (at_ l j).f0.f1)).2 (mulDivV m.f2 (near - lenV (subV m.f0.f0 (at_ l j).f0.f0) (subV m.f0.f1 (at_ l j).f0.f1)) near))) := by
              unfold pushV; rw [if_pos ⟨by omega, h2, h3⟩]
            rw [e] at hnext
            generalize lenV (subV m.f0.f0 (at_ l j).f0.f0) (subV m.f0.f1 (at_ l j).f0.f1) = t at *
            have hs : ∀ k, steer_Apart.j4 (k + 1) l near acc i t l l.length i l l.length j true m.f0.f0 m.f0.f1 m.f1.f0 m.f1.f1 m.f2 m.f3 v.1 v.2 (subV m.f0.f0 (at_ l j).f0.f0) (subV m.f0.f1 (at_ l j).f0.f1) =
                (vec_Unit.f k (subV m.f0.f0 (at_ l j).f0.f0) (subV m.f0.f1 (at_ l j).f0.f1)).bind fun a => (fix_MulDiv.f k m.f2 (near - t) near).bind fun b => (vec_Scale.f k a.1 a.2 b).bind fun c => steer_Apart.l2 k l near acc i l l.length i l l.length ((j + 1 : Nat) : Int) m.f0.f0 m.f0.f1 m.f1.f0 m.f1.f1 m.f2 m.f3 (addV v.1 c.1) (addV v.2 c.2) := by
              intro k
              simp only [steer_Apart.j4, vadd_eq, Option.bind_some]
              rw [if_pos trivial, w1, wrap_in (x := near - t) (by omega) (by omega)]
            exact Ev.step hs (Ev.bind (unit_ev _ _) (Ev.bind (mulDiv_ev _ _ _) (Ev.bind (scale_ev _ _ _) hnext)))
          · simp only [decide_eq_false h3]
            exact hno (by unfold pushV; rw [if_neg (fun h => h3 h.2.2)]) _
        · simp only [if_neg h2]
          exact hno (by unfold pushV; rw [if_neg (fun h => h2 h.2.1)]) _

theorem apart_l1 (l : List S29) (near : Int) (hn : 0 ≤ near ∧ near ≤ 1099511627776) (hl : l.length ≤ 64) (d : Nat) : ∀ i : Nat, i + d = l.length →
    Ev (fun k => steer_Apart.l1 k l near ((List.range i).map (outV l near)) l l.length i) (outs l near, 0) := by
  induction d with
  | zero =>
    intro i hi
    refine Ev.step (f := fun _ => some _) (fun k => ?_) (Ev.now _)
    simp only [steer_Apart.l1]
    rw [if_neg (by omega)]
    unfold outs
    rw [show i = l.length by omega]
  | succ d ih =>
    intro i hi
    have w1 : wrap64 ((i : Int) + 1) = ((i + 1 : Nat) : Int) := by rw [wrap_in (by omega) (by omega)]; omega
    have h2 := apart_l2 l near hn hl ((List.range i).map (outV l near)) i (at_ l i) (outs l near, 0) l.length 0 ((at_ l i).f1.f0, (at_ l i).f1.f1) (by omega) (by
      refine Ev.bind (toward_ev _ _ _ _ _ _ _ _) ?_
      have h := ih (i + 1) (by omega)
      rw [List.range_succ, List.map_append] at h
      simp only [if_pos (show ((List.range i).map (outV l near)).length < 2932031007402 by simp; omega), w1]
      exact h)
    refine Ev.step (fun k => ?_) h2
    simp only [steer_Apart.l1, rd_at]
    rw [if_pos (by omega), if_pos (by omega), if_pos (by omega)]
    rfl

theorem apart_l0 (l : List S29) (near : Int) (hl : l.length ≤ 64) (R : List S29 × Int) (d : Nat) : ∀ i : Nat, i + d = l.length →
    (faultsFrom l i ≠ 0 → R = ([], faultsFrom l i)) → (faultsFrom l i = 0 → Ev (fun k => steer_Apart.j1 k l near (if near < 0 then true else decide (near > 1099511627776))) R) →
    Ev (fun k => steer_Apart.l0 k l near l l.length i) R := by
  induction d with
  | zero =>
    intro i hi h1 h2
    refine Ev.step (fun k => ?_) (h2 (faultsFrom_end l i (by omega)))
    simp only [steer_Apart.l0]
    rw [if_neg (by omega)]
    split <;> rfl
  | succ d ih =>
    intro i hi h1 h2
    have w1 : wrap64 ((i : Int) + 1) = ((i + 1 : Nat) : Int) := by rw [wrap_in (by omega) (by omega)]; omega
    rw [faultsFrom_step l i (by omega)] at h1 h2
    have hs : ∀ k, steer_Apart.l0 (k + 1) l near l l.length i = (steer_Check.f k (at_ l i).f0.f0 (at_ l i).f0.f1 (at_ l i).f1.f0 (at_ l i).f1.f1 (at_ l i).f2 (at_ l i).f3).bind fun t => if t = 0 then steer_Apart.l0 k l near l l.length ((i + 1 : Nat) : Int) else some ([], t) := by
      intro k
      simp only [steer_Apart.l0, rd_at]
      rw [if_pos (by omega), if_pos (by omega), if_pos (by omega), w1]
    refine Ev.step hs (Ev.bind (check_ev _ _ _ _ _ _) ?_)
    change Ev (fun n => if faultOf (at_ l i) = 0 then _ else some ([], faultOf (at_ l i))) R
    by_cases h : faultOf (at_ l i) = 0
    · simp only [if_pos h] at *
      exact ih (i + 1) (by omega) h1 h2
    · simp only [if_neg h] at *
      rw [h1 h]
      exact Ev.now _

/-- What Apart answers. -/
noncomputable def apartV (l : List S29) (near : Int) : List S29 × Int :=
  if l.length ≤ 64 then (if faultsFrom l 0 = 0 then (if 0 ≤ near ∧ near ≤ 1099511627776 then (outs l near, 0) else ([], 1)) else ([], faultsFrom l 0)) else ([], 2)
theorem apart_ev (l : List S29) (near : Int) : Ev (fun k => steer_Apart.f k l near) (apartV l near) := by
  unfold steer_Apart.f apartV
  by_cases hl : l.length ≤ 64
  · rw [if_pos hl]
    simp only [if_neg (show ¬ ((l.length : Int) > 64) by omega)]
    refine apart_l0 l near hl _ l.length 0 (by omega) (fun h => by rw [if_neg h]) (fun h => ?_)
    rw [if_pos h]
    by_cases hn : 0 ≤ near ∧ near ≤ 1099511627776
    · rw [if_pos hn]
      refine Ev.step (fun k => ?_) (apart_l1 l near hn hl l.length 0 (by omega))
      rw [if_neg (by omega), decide_eq_false (by omega)]
      simp [steer_Apart.j1]
    · rw [if_neg hn]
      refine Ev.step (f := fun _ => some _) (fun k => ?_) (Ev.now _)
      have e : (if near < 0 then true else decide (near > 1099511627776)) = true := by
        split
        · rfl
        · exact decide_eq_true (by omega)
      rw [e]
      simp [steer_Apart.j1]
  · rw [if_neg hl]
    simp only [if_pos (show (l.length : Int) > 64 by omega)]
    exact Ev.now _
end Go.Proofs.Ytdopeneehminaaa.SteerApartSteerThere
