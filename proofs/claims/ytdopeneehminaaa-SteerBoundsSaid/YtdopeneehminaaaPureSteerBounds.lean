/- What the law SteerBounds computes is true, whatever the numbers: nothing is faster than it may be, but for 40 units. Under no condition. -/
import Derived.Test.YtdopeneehminaaaSteerKeepSteerBounds
import Derived.Test.YtdopeneehminaaaSteerLenSteerBounds
import Derived.Test.YtdopeneehminaaaSteerMovesSteerBounds
import Derived.Test.YtdopeneehminaaaOpen
namespace Go.Proofs.Ytdopeneehminaaa.PureSteerBounds
open Go.RowKit Go.Proofs.YtdopeneehminaaaW.PrintWords Go.Proofs.YtdopeneehminaaaW.PrintLast Go.Proofs.YtdopeneehminaaaW.PrintMore Go.Proofs.Ytdopeneehminaaa.PSteerBounds Go.Proofs.Ytdopeneehminaaa.NumSteerBounds Go.Proofs.Ytdopeneehminaaa.SteerSteerBounds Go.Proofs.Ytdopeneehminaaa.SteerApartSteerBounds Go.Proofs.Ytdopeneehminaaa.SteerKeepSteerBounds Go.Proofs.Ytdopeneehminaaa.SteerLenSteerBounds Go.Proofs.Ytdopeneehminaaa.SteerMovesSteerBounds
set_option linter.unusedVariables false

abbrev Mv := S29
/-- A thing that moved as it may. -/
def may (x y fast turn : Int) (n : Mv) : Prop := lenV n.f1.f0 n.f1.f1 ≤ fast + 40 ∧ n.f0.f0 = addV x n.f1.f0 ∧ n.f0.f1 = addV y n.f1.f1 ∧ n.f2 = fast ∧ n.f3 = turn
def six (t : Int × Int × Int × Int × Int × Int) : Mv := ⟨⟨t.1, t.2.1⟩, ⟨t.2.2.1, t.2.2.2.1⟩, t.2.2.2.2.1, t.2.2.2.2.2⟩
theorem toward_may (x y u v fast turn a b : Int) (h0 : 0 ≤ fast) (h1 : fast ≤ 1310719) : may x y fast turn (six (towardV x y u v fast turn a b)) :=
  ⟨short_len _ _ _ h0 h1, rfl, rfl, rfl, rfl⟩

theorem law_l0 (x y u v fast turn : Int) (hf : 0 ≤ fast ∧ fast ≤ 1310719) (L : List Mv) (hL : L.length ≤ 100) (hm : ∀ n ∈ L, may x y fast turn n) : ∀ d i : Nat, i + d = L.length → Ev (fun k => tourkeep5_SteerBounds.l0 k L L.length i x y u v fast turn) true := by
  intro d
  induction d with
  | zero => intro i hi; exact Ev.step (f := fun _ => some true) (fun k => by rw [tourkeep5_SteerBounds.l0, if_neg (by omega)]) (Ev.now _)
  | succ d ih =>
    intro i hi
    have h2 := ih (i + 1) (by omega)
    rw [show (((i + 1 : Nat) : Int)) = (i : Int) + 1 by omega] at h2
    have hmem : rd_T29 L i ∈ L := by
      have : rd_T29 L i = L[i]'(by omega) := by simp [rd_T29, show i < L.length by omega]
      rw [this]; exact List.getElem_mem _
    obtain ⟨m1, m2, m3, m4, m5⟩ := hm _ hmem
    refine Ev.step (fun k => by rw [tourkeep5_SteerBounds.l0, if_pos (by omega), if_pos (by omega), if_pos (by omega), wrap_in (x := fast + 40) (by omega) (by omega), wrap_in (x := (i : Int) + 1) (by omega) (by omega)]) ?_
    generalize rd_T29 L i = n at *
    refine Ev.bind (len_ev _ _) ?_
    simp only [if_neg (show ¬ lenV n.f1.f0 n.f1.f1 > fast + 40 by omega), vadd_eq, Option.bind_some, ← m2, ← m3]
    simp only [beq_self_eq_true, Bool.not_true, Bool.or_self, Bool.false_eq_true, if_false, if_pos m4, if_pos m5]
    exact h2

theorem pure (x y u v fast turn a b : Int) : ∃ k, tourkeep5_SteerBounds.f k x y u v fast turn a b = some true := by
  refine Ev.rounds ?_
  unfold tourkeep5_SteerBounds.f
  refine Ev.bind seeks_true ?_
  have ha := Int.emod_nonneg a (by omega : (26214400 : Int) ≠ 0)
  have ha1 := Int.emod_lt_of_pos a (by omega : (0 : Int) < 26214400)
  have hb := Int.emod_nonneg b (by omega : (26214400 : Int) ≠ 0)
  have hb1 := Int.emod_lt_of_pos b (by omega : (0 : Int) < 26214400)
  simp only [if_true, mover_eq, Option.bind_some, below_eq a 26214400 (by omega) (by omega), below_eq b 26214400 (by omega) (by omega)]
  have hr := mover_right x y u v fast turn
  have hf : 0 ≤ (moverV x y u v fast turn).f2 ∧ (moverV x y u v fast turn).f2 ≤ 1310719 := by unfold moverV; simp only; omega
  have eta : ∀ m : Mv, (⟨⟨m.f0.f0, m.f0.f1⟩, ⟨m.f1.f0, m.f1.f1⟩, m.f2, m.f3⟩ : Mv) = m := fun _ => rfl
  generalize moverV x y u v fast turn = m at *
  generalize a % 26214400 = a at *
  generalize b % 26214400 = b at *
  have hr' : faultV m.f0.f0 m.f0.f1 m.f1.f0 m.f1.f1 m.f2 m.f3 = 0 := hr
  refine Ev.bind (seek_ev _ _ _ _ _ _ _ _) (Ev.bind (flee_ev _ _ _ _ _ _ _ _) (Ev.bind (arrive_ev _ _ _ _ _ _ _ _ _) (Ev.bind (apart_ev _ _) ?_)))
  have hap : apartV [m, ⟨⟨a, b⟩, ⟨0, 0⟩, 0, 0⟩] 3276800 = ([outV [m, ⟨⟨a, b⟩, ⟨0, 0⟩, 0, 0⟩] 3276800 0, outV [m, ⟨⟨a, b⟩, ⟨0, 0⟩, 0, 0⟩] 3276800 1], 0) := by
    have h0 : faultOf (⟨⟨a, b⟩, ⟨0, 0⟩, 0, 0⟩ : Mv) = 0 := by
      unfold faultOf faultV
      simp only [clamp_same]
      rw [if_pos ⟨by omega, by omega, by omega, by omega⟩, if_pos ⟨by omega, by omega, by omega, by omega⟩]
    unfold apartV
    rw [if_pos (by simp), if_pos (by
      rw [faultsFrom_step _ _ (by simp), faultsFrom_step _ _ (by simp), faultsFrom_end _ _ (by simp)]
      simp [at_, hr, h0]), if_pos ⟨by omega, by omega⟩]
    rfl
  have eta2 : ([(⟨(⟨m.f0.f0, m.f0.f1⟩ : S27), (⟨m.f1.f0, m.f1.f1⟩ : S27), m.f2, m.f3⟩ : Mv), (⟨(⟨a, b⟩ : S27), (⟨0, 0⟩ : S27), 0, 0⟩ : Mv)] : List Mv) = [m, ⟨⟨a, b⟩, ⟨0, 0⟩, 0, 0⟩] := rfl
  rw [eta2, hap]
  unfold seekV fleeV arriveV
  rw [if_pos hr', if_pos hr', if_pos hr', if_neg (by omega)]
  simp only [seven, if_true]
  refine Ev.step (fun k => by rw [tourkeep5_SteerBounds.j0, if_neg (by simp), if_pos (by simp)]) ?_
  simp only [Option.bind_some]
  refine law_l0 _ _ _ _ _ _ hf _ (by simp) ?_ 4 0 (by simp)
  intro n hn
  rcases List.mem_cons.mp hn with rfl | hn
  · exact toward_may _ _ _ _ _ _ _ _ hf.1 hf.2
  · rcases List.mem_cons.mp hn with rfl | hn
    · exact toward_may _ _ _ _ _ _ _ _ hf.1 hf.2
    · rcases List.mem_cons.mp hn with rfl | hn
      · exact toward_may _ _ _ _ _ _ _ _ hf.1 hf.2
      · obtain rfl := List.mem_singleton.mp hn
        exact toward_may _ _ _ _ _ _ _ _ hf.1 hf.2

theorem walk (x : Int) (_ : (Lit.int .i64 x).wf = true) (y : Int) (_ : (Lit.int .i64 y).wf = true) (u : Int) (_ : (Lit.int .i64 u).wf = true) (v : Int) (_ : (Lit.int .i64 v).wf = true) (fast : Int) (_ : (Lit.int .i64 fast).wf = true) (turn : Int) (_ : (Lit.int .i64 turn).wf = true) (a : S27) {p : Prop} (_ : p) (W : World) :
    Calls Try.prog 7 #[.int .i64 x, .int .i64 y, .int .i64 u, .int .i64 v, .int .i64 fast, .int .i64 turn, .agg #[.int .i64 a.f0, .int .i64 a.f1]] W fun e w' => e = .returned (.bool true) ∧ Below W.heap.size W w' := by
  obtain ⟨k, hk⟩ := pure x y u v fast turn a.f0 a.f1
  exact tourkeep5_SteerBounds.calls k _ _ _ _ _ _ _ _ true W hk
end Go.Proofs.Ytdopeneehminaaa.PureSteerBounds
