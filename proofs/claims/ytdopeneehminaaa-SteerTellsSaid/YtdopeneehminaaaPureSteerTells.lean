/- What the law SteerTells computes is true, whatever the numbers: what seeks, flees and arrives moves as the reference's. Under no condition. -/
import Derived.Test.YtdopeneehminaaaSteerFleeSteerTells
import Derived.Test.YtdopeneehminaaaSteerRefSteerTells
namespace Go.Proofs.Ytdopeneehminaaa.PSteerTells
open Go.RowKit Go.Proofs.YtdopeneehminaaaW.PrintWords Go.Proofs.YtdopeneehminaaaW.PrintLast Go.Proofs.YtdopeneehminaaaW.PrintMore
/-! #### struct type 27 -/
structure S27 where
 f0 : Int
 f1 : Int
def z27 : S27 := ⟨(0 : Int), (0 : Int)⟩
def k27 : Kd S27 := Kd.iso (Kd.pair (Kd.int .i64) (Kd.int .i64)) (fun x : S27 => (x.f0, x.f1))
theorem k27_open {w : World} {x : S27} {cs : List Value} (h : k27.K w x cs) : cs = [.int .i64 x.f0, .int .i64 x.f1] := by
 obtain ⟨_, _, rfl, rfl, rfl⟩ := h
 exact rfl
theorem k27_mk (w : World) (x : S27)  : k27.K w x [.int .i64 x.f0, .int .i64 x.f1] := ⟨[.int .i64 x.f0], [.int .i64 x.f1], rfl, rfl, rfl⟩

/-! #### struct type 29 -/
structure S29 where
 f0 : S27
 f1 : S27
 f2 : Int
 f3 : Int
def z29 : S29 := ⟨z27, z27, (0 : Int), (0 : Int)⟩
def k29 : Kd S29 := Kd.iso (Kd.pair k27 (Kd.pair k27 (Kd.pair (Kd.int .i64) (Kd.int .i64)))) (fun x : S29 => (x.f0, x.f1, x.f2, x.f3))
theorem k29_open {w : World} {x : S29} {cs : List Value} (h : k29.K w x cs) : cs = [.int .i64 x.f0.f0, .int .i64 x.f0.f1, .int .i64 x.f1.f0, .int .i64 x.f1.f1, .int .i64 x.f2, .int .i64 x.f3] := by
 obtain ⟨_, _, rfl, s0, ⟨_, _, rfl, s2, ⟨_, _, rfl, rfl, rfl⟩⟩⟩ := h
 obtain rfl := k27_open s0
 obtain rfl := k27_open s2
 exact rfl
theorem k29_mk (w : World) (x : S29)  : k29.K w x [.int .i64 x.f0.f0, .int .i64 x.f0.f1, .int .i64 x.f1.f0, .int .i64 x.f1.f1, .int .i64 x.f2, .int .i64 x.f3] := ⟨[.int .i64 x.f0.f0, .int .i64 x.f0.f1], [.int .i64 x.f1.f0, .int .i64 x.f1.f1, .int .i64 x.f2, .int .i64 x.f3], rfl, (k27_mk w x.f0 ), ⟨[.int .i64 x.f1.f0, .int .i64 x.f1.f1], [.int .i64 x.f2, .int .i64 x.f3], rfl, (k27_mk w x.f1 ), ⟨[.int .i64 x.f2], [.int .i64 x.f3], rfl, rfl, rfl⟩⟩⟩

end Go.Proofs.Ytdopeneehminaaa.PSteerTells
namespace Go.Proofs.Ytdopeneehminaaa.PureSteerTells
open Go.RowKit Go.Proofs.YtdopeneehminaaaW.PrintWords Go.Proofs.YtdopeneehminaaaW.PrintLast Go.Proofs.YtdopeneehminaaaW.PrintMore Go.Proofs.Ytdopeneehminaaa.PSteerTells Go.Proofs.Ytdopeneehminaaa.NumSteerTells Go.Proofs.Ytdopeneehminaaa.SteerSteerTells Go.Proofs.Ytdopeneehminaaa.SteerFleeSteerTells Go.Proofs.Ytdopeneehminaaa.SteerRefSteerTells
set_option linter.unusedVariables false

theorem first_ev : Ev (fun k => steer_Seek.f k 0 0 0 0 65536 65536 589824 0) (65536, 0, 65536, 0, 65536, 65536, 0) := Ev.of (fun k => steer_Seek.mono _ _ _ _ _ _ _ _ k) (k := 200) (by kernel_rfl)

theorem j3_ev (x y u v fast turn a b slow : Int) (h : faultV x y u v fast turn = 0) (z : Bool) (hz : z = true ↔ (slow < 1 ∨ 1099511627776 < slow)) (A : Int × Int × Int × Int × Int × Int × Int) (hA : A = arriveV x y u v fast turn a b slow) :
    Ev (fun k => tourlaw5_SteerTells.j3 k slow A.2.2.2.2.2.2 z x y u v fast turn A.1 A.2.1 A.2.2.1 A.2.2.2.1 A.2.2.2.2.1 A.2.2.2.2.2.1 0 0 0 0 0 0 (subV a x) (subV b y)) true := by
  unfold arriveV at hA
  rw [if_pos h] at hA
  cases z
  · have hs : ¬ (slow < 1 ∨ 1099511627776 < slow) := fun g => by have := hz.2 g; simp at this
    rw [if_neg hs] at hA
    subst hA
    refine Ev.step (fun k => by rw [tourlaw5_SteerTells.j3, if_neg (by simp)]) ?_
    refine Ev.bind (len_ev _ _) ?_
    unfold paceV
    by_cases hl : lenV (subV a x) (subV b y) < slow
    · simp only [if_pos hl, seven, if_true]
      exact Ev.bind (len_ev _ _) (Ev.bind (mulDiv_ev _ _ _) (Ev.bind (unit_ev _ _) (Ev.bind (scale_ev _ _ _) (Ev.bind (steered_ev _ _ _ _ _ _ _ _) (ev_some fun k => by simp)))))
    · simp only [if_neg hl, seven, if_true]
      exact Ev.bind (unit_ev _ _) (Ev.bind (scale_ev _ _ _) (Ev.bind (steered_ev _ _ _ _ _ _ _ _) (ev_some fun k => by simp)))
  · rw [if_pos (hz.1 rfl)] at hA
    subst hA
    exact Ev.step (f := fun _ => some true) (fun k => by rw [tourlaw5_SteerTells.j3, if_pos rfl]; simp) (Ev.now _)

theorem j2_ev (x y u v fast turn a b slow : Int) (h : faultV x y u v fast turn = 0) (A : Int × Int × Int × Int × Int × Int × Int) (hA : A = arriveV x y u v fast turn a b slow) (z : Bool) (hz : z = false) :
    Ev (fun k => tourlaw5_SteerTells.j2 k slow A.2.2.2.2.2.2 z x y u v fast turn A.1 A.2.1 A.2.2.1 A.2.2.2.1 A.2.2.2.2.1 A.2.2.2.2.2.1 0 0 0 0 0 0 (subV a x) (subV b y)) true := by
  subst hz
  refine Ev.step (fun k => by rw [tourlaw5_SteerTells.j2, if_neg (by simp)]) ?_
  by_cases hs : slow < 1
  · simp only [if_pos hs]; exact j3_ev x y u v fast turn a b slow h true (by simp; omega) A hA
  · simp only [if_neg hs]; exact j3_ev x y u v fast turn a b slow h _ (by rw [decide_eq_true_eq]; omega) A hA

theorem j1_ev (x y u v fast turn a b slow : Int) (S F A : Int × Int × Int × Int × Int × Int × Int) (hS : S = seekV x y u v fast turn a b) (hF : F = fleeV x y u v fast turn a b) (hA : A = arriveV x y u v fast turn a b slow) (z : Bool) (hz : z = false) :
    Ev (fun k => tourlaw5_SteerTells.j1 k slow (faultV x y u v fast turn) S.2.2.2.2.2.2 F.2.2.2.2.2.2 A.2.2.2.2.2.2 z x y u v fast turn a b S.1 S.2.1 S.2.2.1 S.2.2.2.1 S.2.2.2.2.1 S.2.2.2.2.2.1 F.1 F.2.1 F.2.2.1 F.2.2.2.1 F.2.2.2.2.1 F.2.2.2.2.2.1 A.1 A.2.1 A.2.2.1 A.2.2.2.1 A.2.2.2.2.1 A.2.2.2.2.2.1) true := by
  subst hz
  refine Ev.step (fun k => by rw [tourlaw5_SteerTells.j1, if_neg (by simp)]) ?_
  unfold seekV at hS
  unfold fleeV at hF
  by_cases h : faultV x y u v fast turn = 0
  · rw [if_pos h] at hS hF
    have hS7 : S.2.2.2.2.2.2 = 0 := by rw [hS]; rfl
    have hF7 : F.2.2.2.2.2.2 = 0 := by rw [hF]; rfl
    simp only [if_pos h, vsub_eq, Option.bind_some, if_pos hS7, if_pos hF7]
    refine Ev.bind (unit_ev _ _) (Ev.bind (scale_ev _ _ _) (Ev.bind (steered_ev _ _ _ _ _ _ _ _) ?_))
    refine Ev.congr (fun k => by rw [if_neg (by rw [hS]; simp [seven])]) ?_
    refine Ev.bind (unit_ev _ _) (Ev.bind (scale_ev _ _ _) (Ev.bind (steered_ev _ _ _ _ _ _ _ _) ?_))
    exact j2_ev x y u v fast turn a b slow h A hA _ (by rw [hF]; simp [seven])
  · rw [if_neg h] at hS hF
    unfold arriveV at hA
    rw [if_neg h] at hA
    subst hS; subst hF; subst hA
    simp only [if_neg h, if_true]
    exact ev_some fun k => by simp

theorem pure (x y u v fast turn a b slow most : Int) : ∃ k, tourlaw5_SteerTells.f k x y u v fast turn a b slow most = some true := by
  refine Ev.rounds ?_
  unfold tourlaw5_SteerTells.f
  refine Ev.bind first_ev ?_
  simp only [if_true]
  refine Ev.step (fun k => by rw [tourlaw5_SteerTells.j0, if_neg (by decide)]) ?_
  refine Ev.bind (moverFault_ev _ _ _ _ _ _) (Ev.bind (seek_ev _ _ _ _ _ _ _ _) (Ev.bind (flee_ev _ _ _ _ _ _ _ _) (Ev.bind (arrive_ev _ _ _ _ _ _ _ _ _) (Ev.bind (check_ev _ _ _ _ _ _) ?_))))
  simp only [if_true]
  refine Ev.bind (short_ev _ _ _) (Ev.bind (cut_ev _ _ _) ?_)
  exact j1_ev x y u v fast turn a b slow _ _ _ rfl rfl rfl _ (by simp)

theorem walk (m : S29) {p : Prop} (_ : p) (t : S27) {q : Prop} (_ : q) (slow : Int) (_ : (Lit.int .i64 slow).wf = true) (most : Int) (_ : (Lit.int .i64 most).wf = true) (W : World) :
    Calls Try.prog 4 #[.agg #[.int .i64 m.f0.f0, .int .i64 m.f0.f1, .int .i64 m.f1.f0, .int .i64 m.f1.f1, .int .i64 m.f2, .int .i64 m.f3], .agg #[.int .i64 t.f0, .int .i64 t.f1], .int .i64 slow, .int .i64 most] W fun e w' => e = .returned (.bool true) ∧ Below W.heap.size W w' := by
  obtain ⟨k, hk⟩ := pure m.f0.f0 m.f0.f1 m.f1.f0 m.f1.f1 m.f2 m.f3 t.f0 t.f1 slow most
  exact tourlaw5_SteerTells.calls k _ _ _ _ _ _ _ _ _ _ true W hk
end Go.Proofs.Ytdopeneehminaaa.PureSteerTells
