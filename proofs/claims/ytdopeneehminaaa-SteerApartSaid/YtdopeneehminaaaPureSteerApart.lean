/- What the printed law SteerApart computes is true, whatever the numbers. Under no condition. -/
import Derived.Test.YtdopeneehminaaaSteerKeepSteerApart
namespace Go.Proofs.Ytdopeneehminaaa.Pure
open Go.RowKit Go.Proofs.YtdopeneehminaaaW.PrintWords Go.Proofs.YtdopeneehminaaaW.PrintLast Go.Proofs.YtdopeneehminaaaW.PrintMore Go.Proofs.Ytdopeneehminaaa.PSteerApart Go.Proofs.Ytdopeneehminaaa.NumSteerApart Go.Proofs.Ytdopeneehminaaa.SteerSteerApart Go.Proofs.Ytdopeneehminaaa.SteerApartSteerApart Go.Proofs.Ytdopeneehminaaa.SteerKeepSteerApart
set_option linter.unusedVariables false

theorem two_right (a b : S29) (ha : faultOf a = 0) (hb : faultOf b = 0) (near : Int) (h0 : 0 ≤ near) (h1 : near ≤ 1099511627776) : apartV [a, b] near = ([outV [a, b] near 0, outV [a, b] near 1], 0) := by
  unfold apartV
  rw [if_pos (by simp), if_pos (by
    rw [faultsFrom_step _ _ (by simp), faultsFrom_step _ _ (by simp), faultsFrom_end _ _ (by simp)]
    simp [at_, ha, hb]), if_pos ⟨h0, h1⟩]
  rfl

theorem same_out (a b : S29) (near : Int) : outV [a, b] near 0 = outV [b, a] near 1 := by
  unfold outV
  simp only [List.length_cons, List.length_nil, wishFrom, at_, List.getD_cons_zero, List.getD_cons_succ]
  have e1 : ∀ o v, pushV near 0 a 0 o v = v := fun o v => by unfold pushV; rw [if_neg (fun h => h.1 rfl)]
  have e2 : ∀ o v, pushV near 1 a 1 o v = v := fun o v => by unfold pushV; rw [if_neg (fun h => h.1 rfl)]
  have e3 : ∀ v, pushV near 0 a 1 b v = pushV near 1 a 0 b v := fun v => by unfold pushV; simp
  simp only [Nat.zero_add, e1, e2, e3]

theorem SteerApart : tourkeep5_SteerApart.Pure := by
  intro x y u v fast turn near _ _ _ _ _ _ _
  refine Ev.rounds ?_
  unfold tourkeep5_SteerApart.f
  refine Ev.bind seeks_true ?_
  have hn := Int.emod_nonneg near (by omega : (19660800 : Int) ≠ 0)
  have hn1 := Int.emod_lt_of_pos near (by omega : (0 : Int) < 19660800)
  simp only [if_true, mover_eq, Option.bind_some, below_eq near 19660800 (by omega) (by omega)]
  have ha := mover_right x y u v fast turn
  have hb := mover_right u v x y turn fast
  have eta : ∀ m : S29, (⟨⟨m.f0.f0, m.f0.f1⟩, ⟨m.f1.f0, m.f1.f1⟩, m.f2, m.f3⟩ : S29) = m := fun _ => rfl
  simp only [eta]
  generalize moverV x y u v fast turn = a at *
  generalize moverV u v x y turn fast = b at *
  generalize near % 19660800 = n at *
  refine Ev.bind (apart_ev _ _) (Ev.bind (apart_ev _ _) ?_)
  rw [two_right a b ha hb n hn (by omega), two_right b a hb ha n hn (by omega), same_out a b, same_out b a]
  refine ev_some fun k => ?_
  simp [rd_T29]
end Go.Proofs.Ytdopeneehminaaa.Pure
