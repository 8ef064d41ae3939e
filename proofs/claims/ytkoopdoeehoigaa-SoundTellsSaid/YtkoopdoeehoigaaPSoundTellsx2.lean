-- Printed by a program: the print with changes of this session (wip/printpatch.py).
import Derived.Test.YtkoopdoeehoigaaPSoundTellsx0
import Derived.Test.YtkoopdoeehoigaaPSoundTellsx1
namespace Go.Proofs.Ytkoopdoeehoigaa.PSoundTells
open Go.Proofs.Ytkoopdoeehoigaa.Fnv Go.Proofs.Ytkoopdoeehoigaa.Ary
open Go.RowKit Go.Proofs.YtkoopdoeehoigaaW.PrintWords Go.Proofs.YtkoopdoeehoigaaW.PrintLast Go.Proofs.YtkoopdoeehoigaaW.PrintMore
attribute [local go_sem] max2_int min2_int max_two min_two max_three min_three max_four min_four   -- for this text's walks alone
set_option linter.unusedVariables false
set_option linter.unusedSimpArgs false

/-! ### sound_heights: function 39 -/
mutual
def sound_heights.l0 : Nat → List Int → Int → Int → List (S29) → Int → Int → Int → List (S26) → Option (List Int × Int)
 | 0, _, _, _, _, _, _, _, _ => none
 | k + 1, x7, x31, x32, x115000, x115001, x117000, x117001, x117002 => if x32 < x31 then (if 0 ≤ x32 then (if x32 < (x7.length : Int) then (sound_heights.l0 k (x7.set (x32 : Int).toNat (-1)) x31 (wrap64 (x32 + 1)) x115000 x115001 x117000 x117001 x117002) else (none)) else (none)) else (if 0 < (x7.length : Int) then (sound_heights.l1 k (x7.set (0 : Int).toNat 0) (([0] : List Int)) x115000 x115001 x117000 x117001 x117002) else (none))
def sound_heights.l1 : Nat → List Int → List Int → List (S29) → Int → Int → Int → List (S26) → Option (List Int × Int)
 | 0, _, _, _, _, _, _, _ => none
 | k + 1, x7, x9, x115000, x115001, x117000, x117001, x117002 => if (x9.length : Int) > 0 then (if 0 ≤ (wrap64 ((x9.length : Int) - 1)) then (if (wrap64 ((x9.length : Int) - 1)) < (x9.length : Int) then (if (wrap64 ((x9.length : Int) - 1)) ≤ (x9.length : Int) then ((some (x9.take ((wrap64 ((x9.length : Int) - 1)) : Int).toNat : List Int)).bind fun y126 => (if 0 ≤ (rd x9 (wrap64 ((x9.length : Int) - 1))) then (if (rd x9 (wrap64 ((x9.length : Int) - 1))) < (x117002.length : Int) then ((sound_Takes.f k x115000 x115001 ((rd_T26 x117002 (rd x9 (wrap64 ((x9.length : Int) - 1)))).f0) ((rd_T26 x117002 (rd x9 (wrap64 ((x9.length : Int) - 1)))).f1)).bind fun bt131 => (if (rd x9 (wrap64 ((x9.length : Int) - 1))) < (x7.length : Int) then (if (rd x7 (rd x9 (wrap64 ((x9.length : Int) - 1)))) < bt131.1 then (sound_heights.j2 k x7 y126 (rd x9 (wrap64 ((x9.length : Int) - 1))) (wrap64 ((wrap64 ((rd x7 (rd x9 (wrap64 ((x9.length : Int) - 1)))) - bt131.1)) + bt131.2)) true x115000 x115001 x117000 x117001 x117002 ((rd_T26 x117002 (rd x9 (wrap64 ((x9.length : Int) - 1)))).f0) ((rd_T26 x117002 (rd x9 (wrap64 ((x9.length : Int) - 1)))).f1)) else (sound_heights.j2 k x7 y126 (rd x9 (wrap64 ((x9.length : Int) - 1))) (wrap64 ((wrap64 ((rd x7 (rd x9 (wrap64 ((x9.length : Int) - 1)))) - bt131.1)) + bt131.2)) (decide ((wrap64 ((wrap64 ((rd x7 (rd x9 (wrap64 ((x9.length : Int) - 1)))) - bt131.1)) + bt131.2)) > 256)) x115000 x115001 x117000 x117001 x117002 ((rd_T26 x117002 (rd x9 (wrap64 ((x9.length : Int) - 1)))).f0) ((rd_T26 x117002 (rd x9 (wrap64 ((x9.length : Int) - 1)))).f1))) else (none))) else (none)) else (none))) else (none)) else (none)) else (none)) else (some (x7, 0))
def sound_heights.j2 : Nat → List Int → List Int → Int → Int → Bool → List (S29) → Int → Int → Int → List (S26) → Int → Int → Option (List Int × Int)
 | 0, _, _, _, _, _, _, _, _, _, _, _, _ => none
 | k + 1, x7, x9, x10, x14, x84, x115000, x115001, x117000, x117001, x117002, x131000, x131001 => if x84 = true then (some (([] : List Int), 7)) else ((sound_ways.f x10 x131000 x131001).bind fun t135 => (sound_heights.l2 k x7 x9 x14 t135 (t135.length : Int) 0 x115000 x115001 x117000 x117001 x117002))
def sound_heights.l2 : Nat → List Int → List Int → Int → List Int → Int → Int → List (S29) → Int → Int → Int → List (S26) → Option (List Int × Int)
 | 0, _, _, _, _, _, _, _, _, _, _, _ => none
 | k + 1, x7, x9, x14, x87, x88, x89, x115000, x115001, x117000, x117001, x117002 => if x89 < x88 then (if 0 ≤ x89 then (if x89 < (x87.length : Int) then (if (rd x87 x89) = (x117002.length : Int) then (some (([] : List Int), 7)) else (if 0 ≤ (rd x87 x89) then (if (rd x87 x89) < (x7.length : Int) then (if (rd x7 (rd x87 x89)) ≥ 0 then (sound_heights.j4 k x7 x9 x14 (rd x87 x89) x87 x88 x89 ((rd x7 (rd x87 x89)) != x14) x115000 x115001 x117000 x117001 x117002) else (sound_heights.j4 k x7 x9 x14 (rd x87 x89) x87 x88 x89 false x115000 x115001 x117000 x117001 x117002)) else (none)) else (none))) else (none)) else (none)) else (sound_heights.l1 k x7 x9 x115000 x115001 x117000 x117001 x117002)
def sound_heights.j4 : Nat → List Int → List Int → Int → Int → List Int → Int → Int → Bool → List (S29) → Int → Int → Int → List (S26) → Option (List Int × Int)
 | 0, _, _, _, _, _, _, _, _, _, _, _, _, _ => none
 | k + 1, x7, x9, x14, x16, x87, x88, x89, x110, x115000, x115001, x117000, x117001, x117002 => if x110 = true then (some (([] : List Int), 7)) else (if 0 ≤ x16 then (if x16 < (x7.length : Int) then (if (rd x7 x16) < 0 then (if x9.length < 17592186044416 then (sound_heights.l2 k (x7.set (x16 : Int).toNat x14) (x9 ++ [x16]) x14 x87 x88 (wrap64 (x89 + 1)) x115000 x115001 x117000 x117001 x117002) else (none)) else (sound_heights.l2 k x7 x9 x14 x87 x88 (wrap64 (x89 + 1)) x115000 x115001 x117000 x117001 x117002)) else (none)) else (none))
end
def sound_heights.f (k : Nat) (l0_0 : List (S29)) (a0_1 : Int) (a1 : Int) : Option (List Int × Int) := if 0 ≤ a1 then (if a1 < (l0_0.length : Int) then (if (((rd_T29 l0_0 a1).f2).length : Int) = 0 then (some (([] : List Int), 7)) else (if 0 ≤ (((rd_T29 l0_0 a1).f2).length : Int) then (if ((((rd_T29 l0_0 a1).f2).length : Int) : Int).toNat ≤ 35184372088832 then ((some (List.replicate ((((rd_T29 l0_0 a1).f2).length : Int) : Int).toNat 0 : List Int)).bind fun y117 => (sound_heights.l0 k y117 (y117.length : Int) 0 l0_0 a0_1 ((rd_T29 l0_0 a1).f0) ((rd_T29 l0_0 a1).f1) ((rd_T29 l0_0 a1).f2))) else (none)) else (none))) else (none)) else (none)
theorem sound_heights.mono_l : ∀ k, (∀ y0 y1 y2 y3 y4 y5 y6 y7, LeO (sound_heights.l0 k y0 y1 y2 y3 y4 y5 y6 y7) (sound_heights.l0 (k + 1) y0 y1 y2 y3 y4 y5 y6 y7)) ∧ (∀ y0 y1 y2 y3 y4 y5 y6, LeO (sound_heights.l1 k y0 y1 y2 y3 y4 y5 y6) (sound_heights.l1 (k + 1) y0 y1 y2 y3 y4 y5 y6)) ∧ (∀ y0 y1 y2 y3 y4 y5 y6 y7 y8 y9 y10 y11, LeO (sound_heights.j2 k y0 y1 y2 y3 y4 y5 y6 y7 y8 y9 y10 y11) (sound_heights.j2 (k + 1) y0 y1 y2 y3 y4 y5 y6 y7 y8 y9 y10 y11)) ∧ (∀ y0 y1 y2 y3 y4 y5 y6 y7 y8 y9 y10, LeO (sound_heights.l2 k y0 y1 y2 y3 y4 y5 y6 y7 y8 y9 y10) (sound_heights.l2 (k + 1) y0 y1 y2 y3 y4 y5 y6 y7 y8 y9 y10)) ∧ (∀ y0 y1 y2 y3 y4 y5 y6 y7 y8 y9 y10 y11 y12, LeO (sound_heights.j4 k y0 y1 y2 y3 y4 y5 y6 y7 y8 y9 y10 y11 y12) (sound_heights.j4 (k + 1) y0 y1 y2 y3 y4 y5 y6 y7 y8 y9 y10 y11 y12))
 | 0 => ⟨fun _ _ _ _ _ _ _ _ r h => by simp [sound_heights.l0] at h, fun _ _ _ _ _ _ _ r h => by simp [sound_heights.l1] at h, fun _ _ _ _ _ _ _ _ _ _ _ _ r h => by simp [sound_heights.j2] at h, fun _ _ _ _ _ _ _ _ _ _ _ r h => by simp [sound_heights.l2] at h, fun _ _ _ _ _ _ _ _ _ _ _ _ _ r h => by simp [sound_heights.j4] at h⟩
 | k + 1 => by
  obtain ⟨ih0, ih1, ih2, ih3, ih4⟩ := sound_heights.mono_l k
  refine ⟨?_, ?_, ?_, ?_, ?_⟩
  ·intro y0 y1 y2 y3 y4 y5 y6 y7
   unfold sound_heights.l0
   repeat' first
   | (with_reducible exact ih0 _ _ _ _ _ _ _ _)
   | (with_reducible exact ih1 _ _ _ _ _ _ _)
   | (with_reducible exact ih2 _ _ _ _ _ _ _ _ _ _ _ _)
   | (with_reducible exact ih3 _ _ _ _ _ _ _ _ _ _ _)
   | (with_reducible exact ih4 _ _ _ _ _ _ _ _ _ _ _ _ _)
   | (with_reducible exact sound_Takes.mono _ _ _ _ _)
   | (with_reducible exact LeO.refl _)
   | (with_reducible exact LeO.none _)
   | (with_reducible refine LeO.ite ?_ ?_)
   | (with_reducible refine LeO.bind ?_ (fun _ => ?_))
   | exact ih0 _ _ _ _ _ _ _ _
   | exact ih1 _ _ _ _ _ _ _
   | exact ih2 _ _ _ _ _ _ _ _ _ _ _ _
   | exact ih3 _ _ _ _ _ _ _ _ _ _ _
   | exact ih4 _ _ _ _ _ _ _ _ _ _ _ _ _
   | exact sound_Takes.mono _ _ _ _ _
   | exact LeO.none _
   | refine LeO.ite ?_ ?_
   | refine LeO.bind ?_ (fun _ => ?_)
  ·intro y0 y1 y2 y3 y4 y5 y6
   unfold sound_heights.l1
   repeat' first
   | (with_reducible exact ih0 _ _ _ _ _ _ _ _)
   | (with_reducible exact ih1 _ _ _ _ _ _ _)
   | (with_reducible exact ih2 _ _ _ _ _ _ _ _ _ _ _ _)
   | (with_reducible exact ih3 _ _ _ _ _ _ _ _ _ _ _)
   | (with_reducible exact ih4 _ _ _ _ _ _ _ _ _ _ _ _ _)
   | (with_reducible exact sound_Takes.mono _ _ _ _ _)
   | (with_reducible exact LeO.refl _)
   | (with_reducible exact LeO.none _)
   | (with_reducible refine LeO.ite ?_ ?_)
   | (with_reducible refine LeO.bind ?_ (fun _ => ?_))
   | exact ih0 _ _ _ _ _ _ _ _
   | exact ih1 _ _ _ _ _ _ _
   | exact ih2 _ _ _ _ _ _ _ _ _ _ _ _
   | exact ih3 _ _ _ _ _ _ _ _ _ _ _
   | exact ih4 _ _ _ _ _ _ _ _ _ _ _ _ _
   | exact sound_Takes.mono _ _ _ _ _
   | exact LeO.none _
   | refine LeO.ite ?_ ?_
   | refine LeO.bind ?_ (fun _ => ?_)
  ·intro y0 y1 y2 y3 y4 y5 y6 y7 y8 y9 y10 y11
   unfold sound_heights.j2
   repeat' first
   | (with_reducible exact ih0 _ _ _ _ _ _ _ _)
   | (with_reducible exact ih1 _ _ _ _ _ _ _)
   | (with_reducible exact ih2 _ _ _ _ _ _ _ _ _ _ _ _)
   | (with_reducible exact ih3 _ _ _ _ _ _ _ _ _ _ _)
   | (with_reducible exact ih4 _ _ _ _ _ _ _ _ _ _ _ _ _)
   | (with_reducible exact sound_Takes.mono _ _ _ _ _)
   | (with_reducible exact LeO.refl _)
   | (with_reducible exact LeO.none _)
   | (with_reducible refine LeO.ite ?_ ?_)
   | (with_reducible refine LeO.bind ?_ (fun _ => ?_))
   | exact ih0 _ _ _ _ _ _ _ _
   | exact ih1 _ _ _ _ _ _ _
   | exact ih2 _ _ _ _ _ _ _ _ _ _ _ _
   | exact ih3 _ _ _ _ _ _ _ _ _ _ _
   | exact ih4 _ _ _ _ _ _ _ _ _ _ _ _ _
   | exact sound_Takes.mono _ _ _ _ _
   | exact LeO.none _
   | refine LeO.ite ?_ ?_
   | refine LeO.bind ?_ (fun _ => ?_)
  ·intro y0 y1 y2 y3 y4 y5 y6 y7 y8 y9 y10
   unfold sound_heights.l2
   repeat' first
   | (with_reducible exact ih0 _ _ _ _ _ _ _ _)
   | (with_reducible exact ih1 _ _ _ _ _ _ _)
   | (with_reducible exact ih2 _ _ _ _ _ _ _ _ _ _ _ _)
   | (with_reducible exact ih3 _ _ _ _ _ _ _ _ _ _ _)
   | (with_reducible exact ih4 _ _ _ _ _ _ _ _ _ _ _ _ _)
   | (with_reducible exact sound_Takes.mono _ _ _ _ _)
   | (with_reducible exact LeO.refl _)
   | (with_reducible exact LeO.none _)
   | (with_reducible refine LeO.ite ?_ ?_)
   | (with_reducible refine LeO.bind ?_ (fun _ => ?_))
   | exact ih0 _ _ _ _ _ _ _ _
   | exact ih1 _ _ _ _ _ _ _
   | exact ih2 _ _ _ _ _ _ _ _ _ _ _ _
   | exact ih3 _ _ _ _ _ _ _ _ _ _ _
   | exact ih4 _ _ _ _ _ _ _ _ _ _ _ _ _
   | exact sound_Takes.mono _ _ _ _ _
   | exact LeO.none _
   | refine LeO.ite ?_ ?_
   | refine LeO.bind ?_ (fun _ => ?_)
  ·intro y0 y1 y2 y3 y4 y5 y6 y7 y8 y9 y10 y11 y12
   unfold sound_heights.j4
   repeat' first
   | (with_reducible exact ih0 _ _ _ _ _ _ _ _)
   | (with_reducible exact ih1 _ _ _ _ _ _ _)
   | (with_reducible exact ih2 _ _ _ _ _ _ _ _ _ _ _ _)
   | (with_reducible exact ih3 _ _ _ _ _ _ _ _ _ _ _)
   | (with_reducible exact ih4 _ _ _ _ _ _ _ _ _ _ _ _ _)
   | (with_reducible exact sound_Takes.mono _ _ _ _ _)
   | (with_reducible exact LeO.refl _)
   | (with_reducible exact LeO.none _)
   | (with_reducible refine LeO.ite ?_ ?_)
   | (with_reducible refine LeO.bind ?_ (fun _ => ?_))
   | exact ih0 _ _ _ _ _ _ _ _
   | exact ih1 _ _ _ _ _ _ _
   | exact ih2 _ _ _ _ _ _ _ _ _ _ _ _
   | exact ih3 _ _ _ _ _ _ _ _ _ _ _
   | exact ih4 _ _ _ _ _ _ _ _ _ _ _ _ _
   | exact sound_Takes.mono _ _ _ _ _
   | exact LeO.none _
   | refine LeO.ite ?_ ?_
   | refine LeO.bind ?_ (fun _ => ?_)
theorem sound_heights.mono : ∀ a0 a1 a2 k, LeO (sound_heights.f k a0 a1 a2) (sound_heights.f (k + 1) a0 a1 a2) := by
 intro a0 a1 a2 k
 obtain ⟨ih0, ih1, ih2, ih3, ih4⟩ := sound_heights.mono_l k
 unfold sound_heights.f
 repeat' first
   | (with_reducible exact ih0 _ _ _ _ _ _ _ _)
   | (with_reducible exact ih1 _ _ _ _ _ _ _)
   | (with_reducible exact ih2 _ _ _ _ _ _ _ _ _ _ _ _)
   | (with_reducible exact ih3 _ _ _ _ _ _ _ _ _ _ _)
   | (with_reducible exact ih4 _ _ _ _ _ _ _ _ _ _ _ _ _)
   | (with_reducible exact sound_Takes.mono _ _ _ _ _)
   | (with_reducible exact LeO.refl _)
   | (with_reducible exact LeO.none _)
   | (with_reducible refine LeO.ite ?_ ?_)
   | (with_reducible refine LeO.bind ?_ (fun _ => ?_))
   | exact ih0 _ _ _ _ _ _ _ _
   | exact ih1 _ _ _ _ _ _ _
   | exact ih2 _ _ _ _ _ _ _ _ _ _ _ _
   | exact ih3 _ _ _ _ _ _ _ _ _ _ _
   | exact ih4 _ _ _ _ _ _ _ _ _ _ _ _ _
   | exact sound_Takes.mono _ _ _ _ _
   | exact LeO.none _
   | refine LeO.ite ?_ ?_
   | refine LeO.bind ?_ (fun _ => ?_)
set_option maxHeartbeats 8000000 in
set_option maxRecDepth 100000 in
theorem sound_heights.calls (k : Nat) (A0_0 : Option Addr) (c0_0 : Nat) (l0_0 : List (S29)) (a0_1 : Int) (a1 : Int) (r1 : List Int) (r2 : Int) (w : World) (hr0_0 : Kd.C k29 w A0_0 l0_0.length l0_0) (hc0_0 : l0_0.length ≤ c0_0) (h : sound_heights.f k l0_0 a0_1 a1 = some (r1, r2)) :
  Calls Try.prog 39 #[.agg #[.slice A0_0 l0_0.length c0_0, .int .i64 a0_1], .int .i64 a1] w fun e w' => ∃ v0_ : Value, e = .returned (.tuple #[v0_, .int .i64 r2]) ∧ Kd.R (Kd.int .i64) 3 w' w.heap.size (fun _ => True) v0_ r1 ∧ Below w.heap.size w w' := by
 have hu24 := Try.underlying24
 have hu29 := Try.underlying29
 have hu26 := Try.underlying26
 have HR0_0 := Aside0.mk hr0_0
 have HC0_0 := Aside0.mk hc0_0
 clear hr0_0 hc0_0
 have HB := Aside0.mk (Below.refl w.heap.size w)
 have H : (if 0 ≤ a1 then (if a1 < (l0_0.length : Int) then (if (((rd_T29 l0_0 a1).f2).length : Int) = 0 then (some (([] : List Int), 7)) else (if 0 ≤ (((rd_T29 l0_0 a1).f2).length : Int) then (if ((((rd_T29 l0_0 a1).f2).length : Int) : Int).toNat ≤ 35184372088832 then ((some (List.replicate ((((rd_T29 l0_0 a1).f2).length : Int) : Int).toNat 0 : List Int)).bind fun y117 => (sound_heights.l0 k y117 (y117.length : Int) 0 l0_0 a0_1 ((rd_T29 l0_0 a1).f0) ((rd_T29 l0_0 a1).f1) ((rd_T29 l0_0 a1).f2))) else (none)) else (none))) else (none)) else (none)) = some (r1, r2) := h
 clear h
 by_cases c3 : 0 ≤ a1
 ·rw [if_pos c3] at H
  have c3b0 : decide (0 ≤ a1) = true := decide_eq_true c3
  clear c3
  by_cases c4 : a1 < (l0_0.length : Int)
  ·rw [if_pos c4] at H
   have c4b0 : decide (a1 < (l0_0.length : Int)) = true := decide_eq_true c4
   clear c4
   by_cases c5 : (((rd_T29 l0_0 a1).f2).length : Int) = 0
   ·rw [if_pos c5] at H
    have c5b0 : ((((rd_T29 l0_0 a1).f2).length : Int) == 0) = true := beq_iff_eq.mpr c5
    have c5b1 : ((((rd_T29 l0_0 a1).f2).length : Int) != 0) = false := bne_eq_false_iff_eq.mpr c5
    clear c5
    simp only [Option.some.injEq, Prod.mk.injEq] at H
    obtain ⟨rfl, rfl⟩ := H
    go_enter Try.func39, Try.ntmps39
    go_wp2_with (first | ((with_reducible refine gate_dst (N := 2) rfl ?_); refine box_event ?hg (N := 2) ?hd (cs := #[.slice A0_0 l0_0.length c0_0, .int .i64 a0_1]) (t := 24) ?hr ?_; (case hd => rfl); (case hg => rfl); (case hr => first | (go_simp; done) | (go_simp; rfl)); intro gb114 hg w6 hbox hb; have n0_ := Aside0.mk (below_step (by repeat (first | (with_reducible first | exact HB.out | apply below_alloc | apply pw_below_drewN | apply below_drew1) | exact HB.out)) hb); have n1_ := Aside0.mk (hbox); have n2_ := Aside0.mk ((by rw [hg]; exact (below_size (by repeat (first | (with_reducible first | exact HB.out | apply below_alloc | apply pw_below_drewN | apply below_drew1) | exact HB.out))) : w.heap.size ≤ gb114)); have n3_ := Aside0.mk ((by rw [hg]; exact (below_size (by repeat (first | (with_reducible first | exact HB.out | apply below_alloc | apply pw_below_drewN | apply below_drew1) | exact HB.out))) : w.heap.size ≤ gb114)); clear HB; have HB := n0_; have BK114 := n1_; have GW114 := n2_; have GE114 := n3_; clear n0_ n1_ n2_ n3_; clear hb hbox hg; obtain ⟨hcz7_0, hcz7_1⟩ := blk2 BK114.out; obtain ⟨hfz7_0, hfz7_1⟩ := frz2 BK114.out; have p115 : 0 ≤ (a1 : Int) := of_decide_eq_true (by first | (with_reducible assumption) | assumption); have q115 : a1 < (l0_0.length : Int) := of_decide_eq_true (by first | (with_reducible assumption) | assumption); obtain ⟨ad115, A115_2, c115_2, e115, hx115_0, hx115_1, hx115_2, hl115_2, hi115_2⟩ := at_T29 HR0_0.out a1 p115 q115; cases e115; replace hx115_0 := (HB.out.cell (World.block_lt_of_cell? w _ hx115_0)).trans hx115_0; replace hx115_1 := (HB.out.cell (World.block_lt_of_cell? w _ hx115_1)).trans hx115_1; replace hx115_2 := (HB.out.cell (World.block_lt_of_cell? w _ hx115_2)).trans hx115_2; have HR115_2 := Aside0.mk hi115_2; have HC115_2 := Aside0.mk hl115_2; clear hi115_2 hl115_2; replace p115 := eq_true p115; replace q115 := eq_true q115) | ((with_reducible refine gate_dst (N := 6) rfl ?_); refine box_event ?hg (N := 6) ?hd (cs := #[.int .i64 0, .int .i64 0, .slice none 0 0]) (t := 29) ?hr ?_; (case hd => rfl); (case hg => rfl); (case hr => first | (go_simp; done) | (go_simp; rfl)); intro gb116 hg w8 hbox hb; have n0_ := Aside0.mk (bb hb BK114.out); have n1_ := Aside0.mk (below_step (by repeat (first | (with_reducible first | exact HB.out | apply below_alloc | apply pw_below_drewN | apply below_drew1 | refine below_set ?_ GE114.out) | exact HB.out)) hb); have n2_ := Aside0.mk (hbox); have n3_ := Aside0.mk ((by rw [hg]; exact (below_size (by repeat (first | (with_reducible first | exact HB.out | apply below_alloc | apply pw_below_drewN | apply below_drew1 | refine below_set ?_ GE114.out) | exact HB.out))) : w.heap.size ≤ gb116)); have n4_ := Aside0.mk ((by rw [hg]; exact (below_size (by repeat (first | (with_reducible first | exact HB.out | apply below_alloc | apply pw_below_drewN | apply below_drew1 | refine below_set ?_ GE114.out) | exact HB.out))) : w.heap.size ≤ gb116)); have n5_ := Aside0.mk (nl hg BK114.out); have n6_ := Aside0.mk (ng hg BK114.out); clear BK114; clear HB; have BK114 := n0_; have HB := n1_; have BK116 := n2_; have GW116 := n3_; have GE116 := n4_; have NB114_116 := n5_; have NB116_114 := n6_; clear n0_ n1_ n2_ n3_ n4_ n5_ n6_; clear hb hbox hg; have hnb9 := NB116_114.out; have hnc9 := NB114_116.out; have hcz10_0 : w8.cell? ⟨gb116, 0, none⟩ = some (.int .i64 0) := (blk_cell BK116.out 0).trans rfl; have hcz10_1 : w8.cell? ⟨gb116, 1, none⟩ = some (.int .i64 0) := (blk_cell BK116.out 1).trans rfl; have hcz10_2 : w8.cell? ⟨gb116, 2, none⟩ = some (.slice none 0 0) := (blk_cell BK116.out 2).trans rfl; have hfz10_0 := blk_frozen BK116.out 0; have hfz10_1 := blk_frozen BK116.out 1; have hfz10_2 := blk_frozen BK116.out 2))
    go_ret2
    exact ⟨_, by first | rfl | (simp [errW_none, errW_some] <;> rfl) | (simp [*, errW_none, errW_some] <;> rfl), by first | exact Kd.R_nil _ _ _ _ _ | exact Kd.N_nil _ _ _ _ _ | exact Kd.V_nil _ _ _ _ _ | exact Kd.Q_nil _ _ _ _ _ | exact Kd.S_nil _ _ _ _ _, by repeat (first | (with_reducible first | exact HB.out | apply below_alloc | apply pw_below_drewN | apply below_drew1 | refine below_set ?_ GE114.out | refine below_set ?_ GE116.out) | exact HB.out)⟩
   ·rw [if_neg c5] at H
    have c5b0 : ((((rd_T29 l0_0 a1).f2).length : Int) == 0) = false := beq_eq_false_iff_ne.mpr c5
    have c5b1 : ((((rd_T29 l0_0 a1).f2).length : Int) != 0) = true := bne_iff_ne.mpr c5
    have c5b2 : ¬ (((rd_T29 l0_0 a1).f2) = []) := fun h_ => c5 (by rw [h_]; rfl)
    by_cases c11 : 0 ≤ (((rd_T29 l0_0 a1).f2).length : Int)
    ·rw [if_pos c11] at H
     have c11b0 := eq_true c11
     have c11b1 : decide (0 ≤ (((rd_T29 l0_0 a1).f2).length : Int)) = true := decide_eq_true c11
     clear c11
     by_cases c12 : ((((rd_T29 l0_0 a1).f2).length : Int) : Int).toNat ≤ 35184372088832
     ·rw [if_pos c12] at H
      have c12b0 := eq_true c12
      have c12b1 : decide (((((rd_T29 l0_0 a1).f2).length : Int) : Int).toNat ≤ 35184372088832) = true := decide_eq_true c12
      clear c12
      obtain ⟨y117, hy117⟩ : ∃ y_ : List Int, y_ = (List.replicate ((((rd_T29 l0_0 a1).f2).length : Int) : Int).toNat 0) := ⟨_, rfl⟩
      replace H : (sound_heights.l0 k y117 (y117.length : Int) 0 l0_0 a0_1 ((rd_T29 l0_0 a1).f0) ((rd_T29 l0_0 a1).f1) ((rd_T29 l0_0 a1).f2)) = some (r1, r2) := by first | (rw [hy117]; with_reducible exact H) | (have H2_ := (Option.bind_some _ _).symm.trans H; rw [hy117]; with_reducible exact H2_) | (have H2_ := (Option.bind_some _ _).symm.trans H; with_reducible exact H2_) | with_reducible exact H | (rw [hy117]; exact H) | exact H
      have Ny117 := Aside0.mk hy117
      clear hy117
      have H' := Aside0.mk H
      clear H
      go_enter Try.func39, Try.ntmps39
      go_wp2_with (first | ((with_reducible refine gate_dst (N := 2) rfl ?_); refine box_event ?hg (N := 2) ?hd (cs := #[.slice A0_0 l0_0.length c0_0, .int .i64 a0_1]) (t := 24) ?hr ?_; (case hd => rfl); (case hg => rfl); (case hr => first | (go_simp; done) | (go_simp; rfl)); intro gb114 hg w13 hbox hb; have n0_ := Aside0.mk (below_step (by repeat (first | (with_reducible first | exact HB.out | apply below_alloc | apply pw_below_drewN | apply below_drew1) | exact HB.out)) hb); have n1_ := Aside0.mk (hbox); have n2_ := Aside0.mk ((by rw [hg]; exact (below_size (by repeat (first | (with_reducible first | exact HB.out | apply below_alloc | apply pw_below_drewN | apply below_drew1) | exact HB.out))) : w.heap.size ≤ gb114)); have n3_ := Aside0.mk ((by rw [hg]; exact (below_size (by repeat (first | (with_reducible first | exact HB.out | apply below_alloc | apply pw_below_drewN | apply below_drew1) | exact HB.out))) : w.heap.size ≤ gb114)); clear HB; have HB := n0_; have BK114 := n1_; have GW114 := n2_; have GE114 := n3_; clear n0_ n1_ n2_ n3_; clear hb hbox hg; obtain ⟨hcz14_0, hcz14_1⟩ := blk2 BK114.out; obtain ⟨hfz14_0, hfz14_1⟩ := frz2 BK114.out; have p115 : 0 ≤ (a1 : Int) := of_decide_eq_true (by first | (with_reducible assumption) | assumption); have q115 : a1 < (l0_0.length : Int) := of_decide_eq_true (by first | (with_reducible assumption) | assumption); obtain ⟨ad115, A115_2, c115_2, e115, hx115_0, hx115_1, hx115_2, hl115_2, hi115_2⟩ := at_T29 HR0_0.out a1 p115 q115; cases e115; replace hx115_0 := (HB.out.cell (World.block_lt_of_cell? w _ hx115_0)).trans hx115_0; replace hx115_1 := (HB.out.cell (World.block_lt_of_cell? w _ hx115_1)).trans hx115_1; replace hx115_2 := (HB.out.cell (World.block_lt_of_cell? w _ hx115_2)).trans hx115_2; have HR115_2 := Aside0.mk hi115_2; have HC115_2 := Aside0.mk hl115_2; clear hi115_2 hl115_2; replace p115 := eq_true p115; replace q115 := eq_true q115) | ((with_reducible refine gate_dst (N := 6) rfl ?_); refine box_event ?hg (N := 6) ?hd (cs := #[.int .i64 0, .int .i64 0, .slice none 0 0]) (t := 29) ?hr ?_; (case hd => rfl); (case hg => rfl); (case hr => first | (go_simp; done) | (go_simp; rfl)); intro gb116 hg w15 hbox hb; have n0_ := Aside0.mk (bb hb BK114.out); have n1_ := Aside0.mk (below_step (by repeat (first | (with_reducible first | exact HB.out | apply below_alloc | apply pw_below_drewN | apply below_drew1 | refine below_set ?_ GE114.out) | exact HB.out)) hb); have n2_ := Aside0.mk (hbox); have n3_ := Aside0.mk ((by rw [hg]; exact (below_size (by repeat (first | (with_reducible first | exact HB.out | apply below_alloc | apply pw_below_drewN | apply below_drew1 | refine below_set ?_ GE114.out) | exact HB.out))) : w.heap.size ≤ gb116)); have n4_ := Aside0.mk ((by rw [hg]; exact (below_size (by repeat (first | (with_reducible first | exact HB.out | apply below_alloc | apply pw_below_drewN | apply below_drew1 | refine below_set ?_ GE114.out) | exact HB.out))) : w.heap.size ≤ gb116)); have n5_ := Aside0.mk (nl hg BK114.out); have n6_ := Aside0.mk (ng hg BK114.out); clear BK114; clear HB; have BK114 := n0_; have HB := n1_; have BK116 := n2_; have GW116 := n3_; have GE116 := n4_; have NB114_116 := n5_; have NB116_114 := n6_; clear n0_ n1_ n2_ n3_ n4_ n5_ n6_; clear hb hbox hg; have hnb16 := NB116_114.out; have hnc16 := NB114_116.out; have hcz17_0 : w15.cell? ⟨gb116, 0, none⟩ = some (.int .i64 0) := (blk_cell BK116.out 0).trans rfl; have hcz17_1 : w15.cell? ⟨gb116, 1, none⟩ = some (.int .i64 0) := (blk_cell BK116.out 1).trans rfl; have hcz17_2 : w15.cell? ⟨gb116, 2, none⟩ = some (.slice none 0 0) := (blk_cell BK116.out 2).trans rfl; have hfz17_0 := blk_frozen BK116.out 0; have hfz17_1 := blk_frozen BK116.out 1; have hfz17_2 := blk_frozen BK116.out 2) | ((with_reducible refine gate_dst (N := 29) rfl ?_); refine Kd.R_make (Kd.int .i64) _ 3 rfl (N := 29) rfl 36 _ _ rfl (((rd_T29 l0_0 a1).f2).length : Int) rfl rfl Try.underlying36 (.int .i64 0) 8 info3 rfl (by decide) (by omega) 0 (ok := fun _ => True) (okp := fun _ => True) rfl (fun _ hk => hk) trivial (of_decide_eq_true (by first | (with_reducible assumption) | assumption)) (Nat.le_trans (Nat.mul_le_mul_right _ (of_decide_eq_true (by first | (with_reducible assumption) | assumption) : (((rd_T29 l0_0 a1).f2).length : Int).toNat ≤ 35184372088832)) (by omega)) (Below.refl _ _) (Nat.le_refl _) ?_; intro v118 w18 ho19 hb hg_ hnew_; clear hg_ hnew_; (first | rw [← Ny117.out] at ho19 | (simp only [Int.reduceToNat] at ho19; rw [← Ny117.out] at ho19)); have n0_ := Aside0.mk (Kd.R_lower ho19 (below_size (by repeat (first | (with_reducible first | exact HB.out | apply below_alloc | apply pw_below_drewN | apply below_drew1 | refine below_set ?_ GE114.out | refine below_set ?_ GE116.out) | exact HB.out)))); have n1_ := Aside0.mk (blk_below (g := gb114) (o := .cells #[.slice (some ad115) l0_0.length c0_0, .int .i64 a0_1] 24 (0, 0)) (by (with_reducible repeat (first | refine blk_drewN ?_ _ | refine blk_drew ?_ | refine blk_alloc ?_ _)); refine blk_far ?_ NB114_116.out _; refine blk_far ?_ NB114_116.out _; refine blk_far ?_ NB114_116.out _; exact BK114.out) hb); have n2_ := Aside0.mk (blk_below (g := gb116) (o := .cells #[.int .i64 ((rd_T29 l0_0 a1).f0), .int .i64 ((rd_T29 l0_0 a1).f1), .slice A115_2 ((rd_T29 l0_0 a1).f2).length c115_2] 29 (0, 0)) (by (with_reducible repeat (first | refine blk_drewN ?_ _ | refine blk_drew ?_ | refine blk_alloc ?_ _)); refine blk_put (cs := #[.int .i64 ((rd_T29 l0_0 a1).f0), .int .i64 ((rd_T29 l0_0 a1).f1), .slice none 0 0]) ?_ 2 _ rfl; refine blk_put (cs := #[.int .i64 ((rd_T29 l0_0 a1).f0), .int .i64 0, .slice none 0 0]) ?_ 1 _ rfl; refine blk_put (cs := #[.int .i64 0, .int .i64 0, .slice none 0 0]) ?_ 0 _ rfl; exact BK116.out) hb); have n3_ := Aside0.mk (below_step (by repeat (first | (with_reducible first | exact HB.out | apply below_alloc | apply pw_below_drewN | apply below_drew1 | refine below_set ?_ GE114.out | refine below_set ?_ GE116.out) | exact HB.out)) hb); clear BK114; clear BK116; clear HB; have HO119 := n0_; have BK114 := n1_; have BK116 := n2_; have HB := n3_; clear n0_ n1_ n2_ n3_; clear hb ho19; obtain ⟨Ao20, co20, eo20⟩ := Kd.R_slice HO119.out; subst eo20))
      go_loopg [32] k (fun kq v32 w' => ∃ (x7_1 : List Int) (x32_1 : Int), v32 = .int .i64 x32_1 ∧ Aside0 (sound_heights.l0 kq x7_1 (y117.length : Int) x32_1 l0_0 a0_1 ((rd_T29 l0_0 a1).f0) ((rd_T29 l0_0 a1).f1) ((rd_T29 l0_0 a1).f2) = some (r1, r2)) ∧ Aside0 (kq ≤ k) ∧ Aside0 (Kd.R (Kd.int .i64) 3 w' w.heap.size (fun _ => True) (.slice Ao20 y117.length co20) x7_1) ∧ Aside0 (w'.heap[gb114]? = some (.cells #[(.slice (some ad115) l0_0.length c0_0), .int .i64 a0_1] 24 (0, 0))) ∧ Aside0 (w'.heap[gb116]? = some (.cells #[.int .i64 ((rd_T29 l0_0 a1).f0), .int .i64 ((rd_T29 l0_0 a1).f1), (.slice A115_2 ((rd_T29 l0_0 a1).f2).length c115_2)] 29 (0, 0))) ∧ Aside0 (Below w.heap.size w w'))
      case atStart => exact ⟨(y117), (0), (by first | rfl | (simp; done) | (simp [*]; done)), H', ⟨Nat.le_refl _⟩, ⟨by (with_reducible repeat (first | apply Kd.R_alloc | apply Kd.R_drewN | apply Kd.R_drew)); exact HO119.out⟩, ⟨BK114.out⟩, ⟨BK116.out⟩, ⟨by repeat (first | (with_reducible first | exact HB.out | apply below_alloc | apply pw_below_drewN | apply below_drew1 | refine below_set ?_ GE114.out | refine below_set ?_ GE116.out) | exact HB.out)⟩⟩
      case round =>
       clear H'
       try clear c1; try clear p1; try clear q1; try clear hx1; try clear p2; try clear c3; try clear c3b0; try clear c4
       try clear c4b0; try clear c5; try clear c5b0; try clear c5b1; try clear c5b2; try clear c9; try clear c11; try clear c11b0
       try clear c11b1; try clear p11; try clear q11; try clear hx11; try clear c12; try clear c12b0; try clear c12b1; try clear c16
       try clear hcz10_0; try clear hcz10_1; try clear hcz10_2; try clear hcz14_0; try clear hcz14_1; try clear hcz17_0; try clear hcz17_1; try clear hcz17_2
       try clear hcz7_0; try clear hcz7_1; try clear hfz10_0; try clear hfz10_1; try clear hfz10_2; try clear hfz14_0; try clear hfz14_1; try clear hfz17_0
       try clear hfz17_1; try clear hfz17_2; try clear hfz7_0; try clear hfz7_1; try clear hx115_0; try clear hx115_1; try clear hx115_2; try clear p115
       try clear q115
       obtain ⟨x7_1, x32_1, rfl, HA, HK1, HO_7, BK114, BK116, HB⟩ := hrel
       have hl7_1 := (Kd.R_reads' HO_7.out).1
       rw [hl7_1] at HO_7
       (try simp only [hl7_1])
       (try simp only [hl7_1] at BK114)
       (try simp only [hl7_1] at BK116)
       cases gk with
       | zero => exact absurd HA.out (by simp [sound_heights.l0])
       | succ k1 =>
        have H := HA.out
        clear HA
        simp only [sound_heights.l0] at H
        by_cases c21 : x32_1 < (y117.length : Int)
        ·rw [if_pos c21] at H
         have c21b0 : decide (x32_1 < (y117.length : Int)) = true := decide_eq_true c21
         clear c21
         (try rw [hl7_1] at c21b0)
         by_cases c22 : 0 ≤ x32_1
         ·rw [if_pos c22] at H
          have c22b0 : decide (0 ≤ x32_1) = true := decide_eq_true c22
          clear c22
          by_cases c23 : x32_1 < (x7_1.length : Int)
          ·rw [if_pos c23] at H
           have c23b0 : decide (x32_1 < (x7_1.length : Int)) = true := decide_eq_true c23
           clear c23
           (try rw [hl7_1] at c23b0)
           obtain ⟨y120, hy120⟩ : ∃ y_ : List Int, y_ = (x7_1.set (x32_1 : Int).toNat (-1)) := ⟨_, rfl⟩
           replace H : (sound_heights.l0 k1 y120 (y117.length : Int) (wrap64 (x32_1 + 1)) l0_0 a0_1 ((rd_T29 l0_0 a1).f0) ((rd_T29 l0_0 a1).f1) ((rd_T29 l0_0 a1).f2)) = some (r1, r2) := by first | (rw [hy120]; with_reducible exact H) | (have H2_ := (Option.bind_some _ _).symm.trans H; rw [hy120]; with_reducible exact H2_) | (have H2_ := (Option.bind_some _ _).symm.trans H; with_reducible exact H2_) | with_reducible exact H | (rw [hy120]; exact H) | exact H
           have Ny120 := Aside0.mk hy120
           clear hy120
           have H' := Aside0.mk H
           clear H
           have p24 : 0 ≤ (x32_1 : Int) := of_decide_eq_true (by first | (with_reducible assumption) | assumption)
           have q24 : (x32_1 : Int) < ((x7_1.length : Int) : Int) := of_decide_eq_true (by first | (with_reducible assumption) | assumption)
           obtain ⟨go24, co24, eo24, gb24, gl24, cl24, HG24⟩ := Kd.R_form HO_7.out (by omega)
           (first | cases eo24 | (injection eo24 with ea_ en_ ec_; (first | subst ea_ | (injection ea_ with ea_; subst ea_)); subst ec_; clear en_))
           have GB24 := Aside0.mk gb24
           have GG24 := Aside0.mk HG24
           clear gb24 gl24 HG24
           obtain ⟨hx24_0, hf24_0⟩ := Kd.R_celln 0 HO_7.out (x32_1 : Int) p24 q24
           replace p24 := eq_true p24
           replace q24 := eq_true q24
           have HP25 := Kd.R_putg HO_7.out (x32_1 : Int) (-1)
           go_wp2_with (first | ((with_reducible refine gate_store (t := 3) (p := 37) rfl ?_); refine store_event (t := 3) (p := 37) (v := ?vo_w26) (w1 := (wr.setCell ⟨go24, (x32_1 : Int).toNat, none⟩ (.int .i64 (-1)))) ?hg ?ho ?hn ?hr ?_; (case ho => rfl); (case hg => rfl); (case hn => rfl); (case hr => first | (go_simp; done) | (go_simp; rfl)); intro w26 hw; have hg : wr.grownBy w26 (some go24) := (by rw [hw]; exact HP25.2); have hp_ : Kd.R (Kd.int .i64) 3 w26 w.heap.size (fun _ => True) (.slice (some ⟨go24, 0, none⟩) x7_1.length co20) y120 := (by rw [hw, Ny120.out]; exact HP25.1); clear HP25; have n0_ := Aside0.mk (hp_); have n1_ := Aside0.mk (blk_grown (g := gb114) (o := .cells #[.slice (some ad115) l0_0.length c0_0, .int .i64 a0_1] 24 (0, 0)) (by (with_reducible repeat (first | refine blk_drewN ?_ _ | refine blk_drew ?_ | refine blk_alloc ?_ _)); exact BK114.out) hg (Kd.R_ne HO_7.out BK114.out (by decide))); have n2_ := Aside0.mk (blk_grown (g := gb116) (o := .cells #[.int .i64 ((rd_T29 l0_0 a1).f0), .int .i64 ((rd_T29 l0_0 a1).f1), .slice A115_2 ((rd_T29 l0_0 a1).f2).length c115_2] 29 (0, 0)) (by (with_reducible repeat (first | refine blk_drewN ?_ _ | refine blk_drew ?_ | refine blk_alloc ?_ _)); exact BK116.out) hg (Kd.R_ne HO_7.out BK116.out (by decide))); have n3_ := Aside0.mk ((by rw [hw]; exact below_set (HB.out) GB24.out : Below w.heap.size w w26)); clear HO_7; clear BK114; clear BK116; clear HB; have HO_7 := n0_; have BK114 := n1_; have BK116 := n2_; have HB := n3_; clear n0_ n1_ n2_ n3_; clear hg hw hp_))
           (try simp only [← hl7_1])
           go_roundg k1
           case measure => have := HK1.out; omega
           case rel => exact ⟨(y120), (wrap64 (x32_1 + 1)), (by first | rfl | (simp; done) | (simp [*]; done)), H', ⟨by have := HK1.out; omega⟩, ⟨by (try simp only [hl7_1]); (with_reducible repeat (first | apply Kd.R_alloc | apply Kd.R_drewN | apply Kd.R_drew)); exact HO_7.out⟩, ⟨by (try simp only [hl7_1]); (with_reducible repeat (first | refine blk_drewN ?_ _ | refine blk_drew ?_ | refine blk_alloc ?_ _)); exact BK114.out⟩, ⟨by (try simp only [hl7_1]); (with_reducible repeat (first | refine blk_drewN ?_ _ | refine blk_drew ?_ | refine blk_alloc ?_ _)); exact BK116.out⟩, ⟨by repeat (first | (with_reducible first | exact HB.out | apply below_alloc | apply pw_below_drewN | apply below_drew1 | refine below_set ?_ GE114.out | refine below_set ?_ GE116.out) | exact HB.out)⟩⟩
          ·rw [if_neg c23] at H
           exact absurd H (by simp)
         ·rw [if_neg c22] at H
          exact absurd H (by simp)
        ·rw [if_neg c21] at H
         have c21b0 : decide (x32_1 < (y117.length : Int)) = false := decide_eq_false c21
         clear c21
         (try rw [hl7_1] at c21b0)
         by_cases c27 : 0 < (x7_1.length : Int)
         ·rw [if_pos c27] at H
          have c27b0 : decide (0 < (x7_1.length : Int)) = true := decide_eq_true c27
          have c27b1 : decide (0 < x7_1.length) = true := decide_eq_true (by omega)
          clear c27
          (try rw [hl7_1] at c27b0)
          (try rw [hl7_1] at c27b1)
          obtain ⟨y121, hy121⟩ : ∃ y_ : List Int, y_ = (x7_1.set (0 : Int).toNat 0) := ⟨_, rfl⟩
          replace H : (sound_heights.l1 k1 y121 (([0] : List Int)) l0_0 a0_1 ((rd_T29 l0_0 a1).f0) ((rd_T29 l0_0 a1).f1) ((rd_T29 l0_0 a1).f2)) = some (r1, r2) := by first | (rw [hy121]; with_reducible exact H) | (have H2_ := (Option.bind_some _ _).symm.trans H; rw [hy121]; with_reducible exact H2_) | (have H2_ := (Option.bind_some _ _).symm.trans H; with_reducible exact H2_) | with_reducible exact H | (rw [hy121]; exact H) | exact H
          have Ny121 := Aside0.mk hy121
          clear hy121
          obtain ⟨y122, hy122⟩ : ∃ y_ : List Int, y_ = (([0] : List Int)) := ⟨_, rfl⟩
          replace H : (sound_heights.l1 k1 y121 y122 l0_0 a0_1 ((rd_T29 l0_0 a1).f0) ((rd_T29 l0_0 a1).f1) ((rd_T29 l0_0 a1).f2)) = some (r1, r2) := by first | (rw [hy122]; with_reducible exact H) | (have H2_ := (Option.bind_some _ _).symm.trans H; rw [hy122]; with_reducible exact H2_) | (have H2_ := (Option.bind_some _ _).symm.trans H; with_reducible exact H2_) | with_reducible exact H | (rw [hy122]; exact H) | exact H
          have Ny122 := Aside0.mk hy122
          clear hy122
          have H' := Aside0.mk H
          clear H
          have p28 : 0 ≤ (0 : Int) := (by omega)
          have q28 : (0 : Int) < ((x7_1.length : Int) : Int) := of_decide_eq_true (by first | (with_reducible assumption) | assumption)
          have qi28 : (0 < x7_1.length) = True := eq_true (by omega)
          obtain ⟨go28, co28, eo28, gb28, gl28, cl28, HG28⟩ := Kd.R_form HO_7.out (by omega)
          (first | cases eo28 | (injection eo28 with ea_ en_ ec_; (first | subst ea_ | (injection ea_ with ea_; subst ea_)); subst ec_; clear en_))
          have GB28 := Aside0.mk gb28
          have GG28 := Aside0.mk HG28
          clear gb28 gl28 HG28
          obtain ⟨hx28_0, hf28_0⟩ := Kd.R_celln 0 HO_7.out (0 : Int) p28 q28
          (try rw [show ((0 : Int)).toNat = 0 from rfl] at hx28_0)
          (try simp only [Nat.reduceMul, Nat.zero_mul, Nat.zero_add, Nat.reduceAdd] at hx28_0)
          (try rw [show ((0 : Int)).toNat = 0 from rfl] at hf28_0)
          (try simp only [Nat.reduceMul, Nat.zero_mul, Nat.zero_add, Nat.reduceAdd] at hf28_0)
          replace p28 := eq_true p28
          replace q28 := eq_true q28
          have HP29 := Kd.R_putg HO_7.out (0 : Int) 0
          go_wp2_with (first | ((with_reducible refine gate_store (t := 3) (p := 40) rfl ?_); refine store_event (t := 3) (p := 40) (v := ?vo_w30) (w1 := (wr.setCell ⟨go28, (0 : Int).toNat, none⟩ (.int .i64 0))) ?hg ?ho ?hn ?hr ?_; (case ho => rfl); (case hg => rfl); (case hn => rfl); (case hr => first | (go_simp; done) | (go_simp; rfl)); intro w30 hw; have hg : wr.grownBy w30 (some go28) := (by rw [hw]; exact HP29.2); have hp_ : Kd.R (Kd.int .i64) 3 w30 w.heap.size (fun _ => True) (.slice (some ⟨go28, 0, none⟩) x7_1.length co20) y121 := (by rw [hw, Ny121.out]; exact HP29.1); clear HP29; have n0_ := Aside0.mk (hp_); have n1_ := Aside0.mk (blk_grown (g := gb114) (o := .cells #[.slice (some ad115) l0_0.length c0_0, .int .i64 a0_1] 24 (0, 0)) (by (with_reducible repeat (first | refine blk_drewN ?_ _ | refine blk_drew ?_ | refine blk_alloc ?_ _)); exact BK114.out) hg (Kd.R_ne HO_7.out BK114.out (by decide))); have n2_ := Aside0.mk (blk_grown (g := gb116) (o := .cells #[.int .i64 ((rd_T29 l0_0 a1).f0), .int .i64 ((rd_T29 l0_0 a1).f1), .slice A115_2 ((rd_T29 l0_0 a1).f2).length c115_2] 29 (0, 0)) (by (with_reducible repeat (first | refine blk_drewN ?_ _ | refine blk_drew ?_ | refine blk_alloc ?_ _)); exact BK116.out) hg (Kd.R_ne HO_7.out BK116.out (by decide))); have n3_ := Aside0.mk ((by rw [hw]; exact below_set (HB.out) GB28.out : Below w.heap.size w w30)); clear HO_7; clear BK114; clear BK116; clear HB; have HO_7 := n0_; have BK114 := n1_; have BK116 := n2_; have HB := n3_; clear n0_ n1_ n2_ n3_; clear hg hw hp_) | ((with_reducible refine gate_dst (N := 41) rfl ?_); refine Kd.R_lit (Kd.int .i64) _ 3 ?hg (N := 41) ?hd (xs := ([0] : List Int)) (inner := [.int .i64 0]) (ok := fun _ => True) (okp := fun _ => True) ?hr ?hp (fun _ hk => hk) trivial (Below.refl _ _) (Nat.le_refl _) (by simp) ?_; (case hd => rfl); (case hg => rfl); (case hr => first | (go_simp; done) | (go_simp; rfl)); (case hp => exact (Reps.one (show Kd.M (Kd.int .i64) _ _ _ 0 [.int .i64 0] from rfl) (Reps.none _ _))); intro v123 w31 ho32 hb hg_ hnew_; clear hg_ hnew_; (first | rw [← Ny122.out] at ho32 | (simp only [Int.reduceToNat] at ho32; rw [← Ny122.out] at ho32)); have n0_ := Aside0.mk (Kd.R_elder' (by (with_reducible repeat (first | apply Kd.R_alloc | apply Kd.R_drewN | apply Kd.R_drew)); exact HO_7.out) (Kd.R_base ho32) hb); have n1_ := Aside0.mk (Kd.R_lower (Kd.R_new' ho32 (Kd.R_lt (by (with_reducible repeat (first | apply Kd.R_alloc | apply Kd.R_drewN | apply Kd.R_drew)); exact HO_7.out))) (below_size (by repeat (first | (with_reducible first | exact HB.out | apply below_alloc | apply pw_below_drewN | apply below_drew1 | refine below_set ?_ GE114.out | refine below_set ?_ GE116.out) | exact HB.out)))); have n2_ := Aside0.mk (bb hb BK114.out); have n3_ := Aside0.mk (bb hb BK116.out); have n4_ := Aside0.mk (below_step (by repeat (first | (with_reducible first | exact HB.out | apply below_alloc | apply pw_below_drewN | apply below_drew1 | refine below_set ?_ GE114.out | refine below_set ?_ GE116.out) | exact HB.out)) hb); clear HO_7; clear BK114; clear BK116; clear HB; have HO_7 := n0_; have HO124 := n1_; have BK114 := n2_; have BK116 := n3_; have HB := n4_; clear n0_ n1_ n2_ n3_ n4_; clear hb ho32))
          go_loopg [9] k1 (fun kq v9 w' => ∃ (x7_2 : List Int) (x9_2 : List Int), Aside0 (sound_heights.l1 kq x7_2 x9_2 l0_0 a0_1 ((rd_T29 l0_0 a1).f0) ((rd_T29 l0_0 a1).f1) ((rd_T29 l0_0 a1).f2) = some (r1, r2)) ∧ Aside0 (kq ≤ k1) ∧ Aside0 (Kd.R (Kd.int .i64) 3 w' w.heap.size (fun k_ => some k_ ≠ (v9 : Value).ownBlock) (.slice (some ⟨go28, 0, none⟩) x7_1.length co20) x7_2) ∧ Aside0 (Kd.R (Kd.int .i64) 3 w' w.heap.size (fun k_ => some k_ ≠ ((.slice (some ⟨go28, 0, none⟩) x7_1.length co20) : Value).ownBlock) v9 x9_2) ∧ Aside0 (w'.heap[gb114]? = some (.cells #[(.slice (some ad115) l0_0.length c0_0), .int .i64 a0_1] 24 (0, 0))) ∧ Aside0 (w'.heap[gb116]? = some (.cells #[.int .i64 ((rd_T29 l0_0 a1).f0), .int .i64 ((rd_T29 l0_0 a1).f1), (.slice A115_2 ((rd_T29 l0_0 a1).f2).length c115_2)] 29 (0, 0))) ∧ Aside0 (Below w.heap.size w w'))
          case atStart => exact ⟨(y121), (y122), H', ⟨Nat.le_refl _⟩, ⟨by (try simp only [hl7_1]); (with_reducible repeat (first | apply Kd.R_alloc | apply Kd.R_drewN | apply Kd.R_drew)); exact Kd.R_mono HO_7.out (fun _ hk => hk.2)⟩, ⟨by (try simp only [hl7_1]); (with_reducible repeat (first | apply Kd.R_alloc | apply Kd.R_drewN | apply Kd.R_drew)); exact Kd.R_mono HO124.out (fun _ hk => hk.2)⟩, ⟨by (try simp only [hl7_1]); (with_reducible repeat (first | refine blk_drewN ?_ _ | refine blk_drew ?_ | refine blk_alloc ?_ _)); exact BK114.out⟩, ⟨by (try simp only [hl7_1]); (with_reducible repeat (first | refine blk_drewN ?_ _ | refine blk_drew ?_ | refine blk_alloc ?_ _)); exact BK116.out⟩, ⟨by repeat (first | (with_reducible first | exact HB.out | apply below_alloc | apply pw_below_drewN | apply below_drew1 | refine below_set ?_ GE114.out | refine below_set ?_ GE116.out) | exact HB.out)⟩⟩
          case round =>
           clear H'
           try clear c1; try clear p1; try clear q1; try clear hx1; try clear c2; try clear p2; try clear q2; try clear hx2
           try clear qi2; try clear hf2; try clear c3; try clear c3b0; try clear c4; try clear c4b0; try clear c5; try clear c5b0
           try clear c5b1; try clear c5b2; try clear p6; try clear c9; try clear c11; try clear c11b0; try clear c11b1; try clear p11
           try clear q11; try clear hx11; try clear c12; try clear c12b0; try clear c12b1; try clear c16; try clear c21; try clear c21b0
           try clear c22; try clear c22b0; try clear c23; try clear c23b0; try clear p24; try clear q24; try clear hx24; try clear hf24
           try clear c27; try clear c27b0; try clear c27b1; try clear p28; try clear q28; try clear hx28; try clear qi28; try clear hf28
           try clear hcz10_0; try clear hcz10_1; try clear hcz10_2; try clear hcz14_0; try clear hcz14_1; try clear hcz17_0; try clear hcz17_1; try clear hcz17_2
           try clear hcz7_0; try clear hcz7_1; try clear hfz10_0; try clear hfz10_1; try clear hfz10_2; try clear hfz14_0; try clear hfz14_1; try clear hfz17_0
           try clear hfz17_1; try clear hfz17_2; try clear hfz7_0; try clear hfz7_1; try clear hx115_0; try clear hx115_1; try clear hx115_2; try clear hx24_0
           try clear hx28_0; try clear p1; try clear p11; try clear p115; try clear p2; try clear p24; try clear p28; try clear q1
           try clear q11; try clear q115; try clear q24; try clear q28
           obtain ⟨x7_2, x9_2, HA, HK2, HO_7, HO_9, BK114, BK116, HB⟩ := hrel
           have hl7_2 := (Kd.R_reads' HO_7.out).1
           rw [hl7_2] at HO_7
           (try simp only [hl7_2])
           (try simp only [hl7_2] at BK114)
           (try simp only [hl7_2] at BK116)
           (try simp only [hl7_2] at HO_9)
           cases gk with
           | zero => exact absurd HA.out (by simp [sound_heights.l1])
           | succ k2 =>
            have H := HA.out
            clear HA
            simp only [sound_heights.l1] at H
            by_cases c33 : (x9_2.length : Int) > 0
            ·rw [if_pos c33] at H
             have c33b0 : decide (0 < (x9_2.length : Int)) = true := decide_eq_true c33
             have c33b1 : decide (0 < x9_2.length) = true := decide_eq_true (by omega)
             clear c33
             (try rw [hl7_1] at c33b0)
             (try rw [hl7_1] at c33b1)
             (try rw [hl7_2] at c33b0)
             (try rw [hl7_2] at c33b1)
             obtain ⟨ji34, hji34⟩ : ∃ j_ : Int, (wrap64 ((x9_2.length : Int) - 1)) = j_ := ⟨_, rfl⟩
             replace H : (if 0 ≤ (ji34) then (if (ji34) < (x9_2.length : Int) then (if (ji34) ≤ (x9_2.length : Int) then ((some (x9_2.take ((ji34) : Int).toNat : List Int)).bind fun y126 => (if 0 ≤ (rd x9_2 (ji34)) then (if (rd x9_2 (ji34)) < (((rd_T29 l0_0 a1).f2).length : Int) then ((sound_Takes.f k2 l0_0 a0_1 ((rd_T26 ((rd_T29 l0_0 a1).f2) (rd x9_2 (ji34))).f0) ((rd_T26 ((rd_T29 l0_0 a1).f2) (rd x9_2 (ji34))).f1)).bind fun bt131 => (if (rd x9_2 (ji34)) < (x7_2.length : Int) then (if (rd x7_2 (rd x9_2 (ji34))) < bt131.1 then (sound_heights.j2 k2 x7_2 y126 (rd x9_2 (ji34)) (wrap64 ((wrap64 ((rd x7_2 (rd x9_2 (ji34))) - bt131.1)) + bt131.2)) true l0_0 a0_1 ((rd_T29 l0_0 a1).f0) ((rd_T29 l0_0 a1).f1) ((rd_T29 l0_0 a1).f2) ((rd_T26 ((rd_T29 l0_0 a1).f2) (rd x9_2 (ji34))).f0) ((rd_T26 ((rd_T29 l0_0 a1).f2) (rd x9_2 (ji34))).f1)) else (sound_heights.j2 k2 x7_2 y126 (rd x9_2 (ji34)) (wrap64 ((wrap64 ((rd x7_2 (rd x9_2 (ji34))) - bt131.1)) + bt131.2)) (decide ((wrap64 ((wrap64 ((rd x7_2 (rd x9_2 (ji34))) - bt131.1)) + bt131.2)) > 256)) l0_0 a0_1 ((rd_T29 l0_0 a1).f0) ((rd_T29 l0_0 a1).f1) ((rd_T29 l0_0 a1).f2) ((rd_T26 ((rd_T29 l0_0 a1).f2) (rd x9_2 (ji34))).f0) ((rd_T26 ((rd_T29 l0_0 a1).f2) (rd x9_2 (ji34))).f1))) else (none))) else (none)) else (none))) else (none)) else (none)) else (none)) = some (r1, r2) := by first | (rw [hji34] at H; exact H) | (simp only [hji34] at H ⊢; exact H)
             have hji34w : (IntKind.i64.wrap ((x9_2.length : Int) - 1)) = ji34 := (i64_w _).trans hji34
             by_cases c35 : 0 ≤ (ji34)
             ·rw [if_pos c35] at H
              have c35b0 : decide (0 ≤ (ji34)) = true := decide_eq_true c35
              clear c35
              by_cases c36 : (ji34) < (x9_2.length : Int)
              ·rw [if_pos c36] at H
               have c36b0 : decide ((ji34) < (x9_2.length : Int)) = true := decide_eq_true c36
               clear c36
               (try rw [hl7_1] at c36b0)
               (try rw [hl7_2] at c36b0)
               by_cases c37 : (ji34) ≤ (x9_2.length : Int)
               ·rw [if_pos c37] at H
                have c37b0 := eq_true c37
                have c37b1 : decide ((ji34) ≤ (x9_2.length : Int)) = true := decide_eq_true c37
                clear c37
                obtain ⟨y126, hy126⟩ : ∃ y_ : List Int, y_ = (x9_2.take ((ji34) : Int).toNat) := ⟨_, rfl⟩
                replace H : (if 0 ≤ (rd x9_2 (ji34)) then (if (rd x9_2 (ji34)) < (((rd_T29 l0_0 a1).f2).length : Int) then ((sound_Takes.f k2 l0_0 a0_1 ((rd_T26 ((rd_T29 l0_0 a1).f2) (rd x9_2 (ji34))).f0) ((rd_T26 ((rd_T29 l0_0 a1).f2) (rd x9_2 (ji34))).f1)).bind fun bt131 => (if (rd x9_2 (ji34)) < (x7_2.length : Int) then (if (rd x7_2 (rd x9_2 (ji34))) < bt131.1 then (sound_heights.j2 k2 x7_2 y126 (rd x9_2 (ji34)) (wrap64 ((wrap64 ((rd x7_2 (rd x9_2 (ji34))) - bt131.1)) + bt131.2)) true l0_0 a0_1 ((rd_T29 l0_0 a1).f0) ((rd_T29 l0_0 a1).f1) ((rd_T29 l0_0 a1).f2) ((rd_T26 ((rd_T29 l0_0 a1).f2) (rd x9_2 (ji34))).f0) ((rd_T26 ((rd_T29 l0_0 a1).f2) (rd x9_2 (ji34))).f1)) else (sound_heights.j2 k2 x7_2 y126 (rd x9_2 (ji34)) (wrap64 ((wrap64 ((rd x7_2 (rd x9_2 (ji34))) - bt131.1)) + bt131.2)) (decide ((wrap64 ((wrap64 ((rd x7_2 (rd x9_2 (ji34))) - bt131.1)) + bt131.2)) > 256)) l0_0 a0_1 ((rd_T29 l0_0 a1).f0) ((rd_T29 l0_0 a1).f1) ((rd_T29 l0_0 a1).f2) ((rd_T26 ((rd_T29 l0_0 a1).f2) (rd x9_2 (ji34))).f0) ((rd_T26 ((rd_T29 l0_0 a1).f2) (rd x9_2 (ji34))).f1))) else (none))) else (none)) else (none)) = some (r1, r2) := by first | (rw [hy126]; with_reducible exact H) | (have H2_ := (Option.bind_some _ _).symm.trans H; rw [hy126]; with_reducible exact H2_) | (have H2_ := (Option.bind_some _ _).symm.trans H; with_reducible exact H2_) | with_reducible exact H | (rw [hy126]; exact H) | exact H
                have Ny126 := Aside0.mk hy126
                clear hy126
                by_cases c38 : 0 ≤ (rd x9_2 (ji34))
                ·rw [if_pos c38] at H
                 have c38b0 : decide (0 ≤ (rd x9_2 (ji34))) = true := decide_eq_true c38
                 clear c38
                 by_cases c39 : (rd x9_2 (ji34)) < (((rd_T29 l0_0 a1).f2).length : Int)
                 ·rw [if_pos c39] at H
                  have c39b0 : decide ((rd x9_2 (ji34)) < (((rd_T29 l0_0 a1).f2).length : Int)) = true := decide_eq_true c39
                  clear c39
                  (try rw [hl7_1] at c39b0)
                  (try rw [hl7_2] at c39b0)
                  replace H := Option.bind_eq_some_iff.mp H
                  obtain ⟨⟨t131, t132⟩, A400, H⟩ := H
                  replace H : (if (rd x9_2 (ji34)) < (x7_2.length : Int) then (if (rd x7_2 (rd x9_2 (ji34))) < t131 then (sound_heights.j2 k2 x7_2 y126 (rd x9_2 (ji34)) (wrap64 ((wrap64 ((rd x7_2 (rd x9_2 (ji34))) - t131)) + t132)) true l0_0 a0_1 ((rd_T29 l0_0 a1).f0) ((rd_T29 l0_0 a1).f1) ((rd_T29 l0_0 a1).f2) ((rd_T26 ((rd_T29 l0_0 a1).f2) (rd x9_2 (ji34))).f0) ((rd_T26 ((rd_T29 l0_0 a1).f2) (rd x9_2 (ji34))).f1)) else (sound_heights.j2 k2 x7_2 y126 (rd x9_2 (ji34)) (wrap64 ((wrap64 ((rd x7_2 (rd x9_2 (ji34))) - t131)) + t132)) (decide ((wrap64 ((wrap64 ((rd x7_2 (rd x9_2 (ji34))) - t131)) + t132)) > 256)) l0_0 a0_1 ((rd_T29 l0_0 a1).f0) ((rd_T29 l0_0 a1).f1) ((rd_T29 l0_0 a1).f2) ((rd_T26 ((rd_T29 l0_0 a1).f2) (rd x9_2 (ji34))).f0) ((rd_T26 ((rd_T29 l0_0 a1).f2) (rd x9_2 (ji34))).f1))) else (none)) = some (r1, r2) := H
                  have A40 := Aside0.mk A400
                  clear A400
                  by_cases c41 : (rd x9_2 (ji34)) < (x7_2.length : Int)
                  ·rw [if_pos c41] at H
                   have c41b0 : decide ((rd x9_2 (ji34)) < (x7_2.length : Int)) = true := decide_eq_true c41
                   clear c41
                   (try rw [hl7_1] at c41b0)
                   (try rw [hl7_2] at c41b0)
                   have HC42 := Aside0.mk H
                   clear H
                   obtain ⟨Ao43, co43, eo43⟩ := Kd.R_slice HO_9.out
                   subst eo43
                   have p125 : 0 ≤ ((ji34) : Int) := of_decide_eq_true (by first | (with_reducible assumption) | assumption)
                   have q125 : (ji34) < (x9_2.length : Int) := of_decide_eq_true (by first | (with_reducible assumption) | assumption)
                   obtain ⟨ad125, e125, hx125_0⟩ := Kd.at_int (Kd.R_reads' HO_9.out).2.2 (ji34) p125 q125
                   cases e125
                   replace p125 := eq_true p125
                   replace q125 := eq_true q125
                   have q44 : ((ji34) : Int) ≤ ((x9_2.length : Int) : Int) := of_decide_eq_true (by first | (with_reducible assumption) | assumption)
                   obtain ⟨i044, hi044, _, hsz44, _⟩ := info_parts info3
                   have hcut44 := cut_to (P := Try.prog) 36 3 .i64 Try.underlying36 hi044 (some ad125) x9_2.length co43 (ji34) (of_decide_eq_true (by first | (with_reducible assumption) | assumption)) q44 (Kd.R_reads' HO_9.out).2.1
                   have hr44 := Kd.R_take (m := ((ji34) : Int).toNat) HO_9.out (by omega)
                   have hy44 : y126.length = ((ji34) : Int).toNat := (by rw [Ny126.out, List.length_take]; omega)
                   rw [← Ny126.out] at hr44
                   rw [← hy44] at hr44 hcut44
                   clear hy44 hi044 hsz44 HO_9
                   have HO128 := Aside0.mk hr44
                   clear hr44
                   replace q44 := eq_true q44
                   have hnb45 := NB116_114.out
                   have hnc45 := NB114_116.out
                   have hcz46_0 : wr.cell? ⟨gb116, 0, none⟩ = some (.int .i64 ((rd_T29 l0_0 a1).f0)) := (blk_cell BK116.out 0).trans rfl
                   have hcz46_1 : wr.cell? ⟨gb116, 1, none⟩ = some (.int .i64 ((rd_T29 l0_0 a1).f1)) := (blk_cell BK116.out 1).trans rfl
                   have hcz46_2 : wr.cell? ⟨gb116, 2, none⟩ = some (.slice A115_2 ((rd_T29 l0_0 a1).f2).length c115_2) := (blk_cell BK116.out 2).trans rfl
                   have hfz46_0 := blk_frozen BK116.out 0
                   have hfz46_1 := blk_frozen BK116.out 1
                   have hfz46_2 := blk_frozen BK116.out 2
                   have p129 : 0 ≤ ((rd x9_2 (ji34)) : Int) := of_decide_eq_true (by first | (with_reducible assumption) | assumption)
                   have q129 : (rd x9_2 (ji34)) < (((rd_T29 l0_0 a1).f2).length : Int) := of_decide_eq_true (by first | (with_reducible assumption) | assumption)
                   obtain ⟨ad129, e129, hx129_0, hx129_1⟩ := at_T26 HR115_2.out (rd x9_2 (ji34)) p129 q129
                   cases e129
                   replace hx129_0 := (HB.out.cell (World.block_lt_of_cell? w _ hx129_0)).trans hx129_0
                   replace hx129_1 := (HB.out.cell (World.block_lt_of_cell? w _ hx129_1)).trans hx129_1
                   replace p129 := eq_true p129
                   replace q129 := eq_true q129
                   go_upto_region 18 with (first | ((with_reducible refine gate_dst (N := 11) rfl ?_); refine box_event ?hg (N := 11) ?hd (cs := #[.int .i64 0, .int .i64 0]) (t := 26) ?hr ?_; (case hd => rfl); (case hg => rfl); (case hr => first | (go_simp; done) | (go_simp; rfl)); intro gb130 hg w47 hbox hb; have n0_ := Aside0.mk (Kd.R_below (by (with_reducible repeat (first | apply Kd.R_alloc | apply Kd.R_drewN | apply Kd.R_drew)); exact HO_7.out) hb); have n1_ := Aside0.mk (Kd.R_below (by (with_reducible repeat (first | apply Kd.R_alloc | apply Kd.R_drewN | apply Kd.R_drew)); exact HO128.out) hb); have n2_ := Aside0.mk (bb hb BK114.out); have n3_ := Aside0.mk (bb hb BK116.out); have n4_ := Aside0.mk (below_step (by repeat (first | (with_reducible first | exact HB.out | apply below_alloc | apply pw_below_drewN | apply below_drew1 | refine below_set ?_ GE114.out | refine below_set ?_ GE116.out) | exact HB.out)) hb); have n5_ := Aside0.mk (hbox); have n6_ := Aside0.mk ((by rw [hg]; exact (below_size (by repeat (first | (with_reducible first | exact HB.out | apply below_alloc | apply pw_below_drewN | apply below_drew1 | refine below_set ?_ GE114.out | refine below_set ?_ GE116.out) | exact HB.out))) : w.heap.size ≤ gb130)); have n7_ := Aside0.mk ((by rw [hg]; exact (below_size (by repeat (first | (with_reducible first | exact HB.out | apply below_alloc | apply pw_below_drewN | apply below_drew1 | refine below_set ?_ GE114.out | refine below_set ?_ GE116.out) | exact HB.out))) : w.heap.size ≤ gb130)); have n8_ := Aside0.mk (nl hg BK114.out); have n9_ := Aside0.mk (ng hg BK114.out); have n10_ := Aside0.mk (nl hg BK116.out); have n11_ := Aside0.mk (ng hg BK116.out); clear HO_7; clear HO128; clear BK114; clear BK116; clear HB; have HO_7 := n0_; have HO128 := n1_; have BK114 := n2_; have BK116 := n3_; have HB := n4_; have BK130 := n5_; have GW130 := n6_; have GE130 := n7_; have NB114_130 := n8_; have NB130_114 := n9_; have NB116_130 := n10_; have NB130_116 := n11_; clear n0_ n1_ n2_ n3_ n4_ n5_ n6_ n7_ n8_ n9_ n10_ n11_; clear hb hbox hg; have hnb48 := NB130_114.out; have hnc48 := NB114_130.out; have hnb49 := NB130_116.out; have hnc49 := NB116_130.out; obtain ⟨hcz50_0, hcz50_1⟩ := blk2 BK130.out; obtain ⟨hfz50_0, hfz50_1⟩ := frz2 BK130.out; obtain ⟨hcz51_0, hcz51_1⟩ := blk2 BK114.out; obtain ⟨hfz51_0, hfz51_1⟩ := frz2 BK114.out) | ((with_reducible refine gate_callee (f := 69) rfl ?_); refine goesL_ (some 64) rfl rfl Try.func69 (by kernel_rfl) rfl #[.agg #[.slice (some ad115) l0_0.length c0_0, .int .i64 a0_1], .agg #[.int .i64 ((rd_T26 ((rd_T29 l0_0 a1).f2) (rd x9_2 (ji34))).f0), .int .i64 ((rd_T26 ((rd_T29 l0_0 a1).f2) (rd x9_2 (ji34))).f1)]] rfl (by (try simp only [List.map_toArray, List.map_cons, List.map_nil]); first | done | (simp only [hji34]; rfl) | rfl | (simp only [List.length_drop, List.length_take]; rfl)) ?_; (with_reducible refine (sound_Takes.calls k2 _ _ l0_0 a0_1 ((rd_T26 ((rd_T29 l0_0 a1).f2) (rd x9_2 (ji34))).f0) ((rd_T26 ((rd_T29 l0_0 a1).f2) (rd x9_2 (ji34))).f1) t131 t132 _ ?side1 ?side2 A40.out).mono ?_); (case side1 => exact Kd.C_below HR0_0.out (by repeat (first | (with_reducible first | exact HB.out | apply below_alloc | apply pw_below_drewN | apply below_drew1 | refine below_set ?_ GE114.out | refine below_set ?_ GE116.out | refine below_set ?_ GE130.out) | exact HB.out))); (case side2 => exact HC0_0.out); rintro e w52 ⟨rfl, hb⟩; refine ⟨_, rfl, ?_⟩; have n0_ := Aside0.mk (Kd.R_below (by (with_reducible repeat (first | apply Kd.R_alloc | apply Kd.R_drewN | apply Kd.R_drew)); exact (Kd.R_mono (Kd.R_far (p := ⟨gb130, 1, none⟩) (Kd.R_far (p := ⟨gb130, 0, none⟩) (Kd.R_types HO_7.out BK130.out (by decide)) (fun _ hk => hk.2) (.int .i64 ((rd_T26 ((rd_T29 l0_0 a1).f2) (rd x9_2 (ji34))).f0))) (fun _ hk => hk.2) (.int .i64 ((rd_T26 ((rd_T29 l0_0 a1).f2) (rd x9_2 (ji34))).f1))) (fun _ h_ => h_.1))) hb); have n1_ := Aside0.mk (Kd.R_below (by (with_reducible repeat (first | apply Kd.R_alloc | apply Kd.R_drewN | apply Kd.R_drew)); exact (Kd.R_mono (Kd.R_far (p := ⟨gb130, 1, none⟩) (Kd.R_far (p := ⟨gb130, 0, none⟩) (Kd.R_types HO128.out BK130.out (by decide)) (fun _ hk => hk.2) (.int .i64 ((rd_T26 ((rd_T29 l0_0 a1).f2) (rd x9_2 (ji34))).f0))) (fun _ hk => hk.2) (.int .i64 ((rd_T26 ((rd_T29 l0_0 a1).f2) (rd x9_2 (ji34))).f1))) (fun _ h_ => h_.1))) hb); have n2_ := Aside0.mk (blk_below (g := gb114) (o := .cells #[.slice (some ad115) l0_0.length c0_0, .int .i64 a0_1] 24 (0, 0)) (by (with_reducible repeat (first | refine blk_drewN ?_ _ | refine blk_drew ?_ | refine blk_alloc ?_ _)); refine blk_far ?_ NB114_130.out _; refine blk_far ?_ NB114_130.out _; exact BK114.out) hb); have n3_ := Aside0.mk (blk_below (g := gb116) (o := .cells #[.int .i64 ((rd_T29 l0_0 a1).f0), .int .i64 ((rd_T29 l0_0 a1).f1), .slice (some ad129) ((rd_T29 l0_0 a1).f2).length c115_2] 29 (0, 0)) (by (with_reducible repeat (first | refine blk_drewN ?_ _ | refine blk_drew ?_ | refine blk_alloc ?_ _)); refine blk_far ?_ NB116_130.out _; refine blk_far ?_ NB116_130.out _; exact BK116.out) hb); have n4_ := Aside0.mk (blk_below (g := gb130) (o := .cells #[.int .i64 ((rd_T26 ((rd_T29 l0_0 a1).f2) (rd x9_2 (ji34))).f0), .int .i64 ((rd_T26 ((rd_T29 l0_0 a1).f2) (rd x9_2 (ji34))).f1)] 26 (0, 0)) (by (with_reducible repeat (first | refine blk_drewN ?_ _ | refine blk_drew ?_ | refine blk_alloc ?_ _)); refine blk_put (cs := #[.int .i64 ((rd_T26 ((rd_T29 l0_0 a1).f2) (rd x9_2 (ji34))).f0), .int .i64 0]) ?_ 1 _ rfl; refine blk_put (cs := #[.int .i64 0, .int .i64 0]) ?_ 0 _ rfl; exact BK130.out) hb); have n5_ := Aside0.mk (below_step (by repeat (first | (with_reducible first | exact HB.out | apply below_alloc | apply pw_below_drewN | apply below_drew1 | refine below_set ?_ GE114.out | refine below_set ?_ GE116.out | refine below_set ?_ GE130.out) | exact HB.out)) hb); clear HO_7; clear HO128; clear BK114; clear BK116; clear BK130; clear HB; have HO_7 := n0_; have HO128 := n1_; have BK114 := n2_; have BK116 := n3_; have BK130 := n4_; have HB := n5_; clear n0_ n1_ n2_ n3_ n4_ n5_; (try clear hb); (try clear hb2); (try clear hk); (try clear hi); have p133 : 0 ≤ ((rd x9_2 (ji34)) : Int) := of_decide_eq_true (by first | (with_reducible assumption) | assumption); have q133 : (rd x9_2 (ji34)) < (x7_2.length : Int) := of_decide_eq_true (by first | (with_reducible assumption) | assumption); obtain ⟨ad133, e133, hx133_0⟩ := Kd.at_int (Kd.R_reads' HO_7.out).2.2 (rd x9_2 (ji34)) p133 q133; obtain rfl : (⟨go28, 0, none⟩ : Addr) = ad133 := (by injection e133); (first | simp only [add_plain] at hx133_0 | simp only [add_at] at hx133_0 | simp only [Addr.add, Nat.zero_add] at hx133_0 | skip); replace p133 := eq_true p133; replace q133 := eq_true q133))
                   (try simp only [Act.put, zq1, zq2, zq3])
                   go_cut [84] (fun v84 wc => ∃ (kq : Nat) (x84_41 : Bool), v84 = .bool x84_41 ∧ Aside0 (sound_heights.j2 kq x7_2 y126 (rd x9_2 (ji34)) (wrap64 ((wrap64 ((rd x7_2 (rd x9_2 (ji34))) - t131)) + t132)) x84_41 l0_0 a0_1 ((rd_T29 l0_0 a1).f0) ((rd_T29 l0_0 a1).f1) ((rd_T29 l0_0 a1).f2) ((rd_T26 ((rd_T29 l0_0 a1).f2) (rd x9_2 (ji34))).f0) ((rd_T26 ((rd_T29 l0_0 a1).f2) (rd x9_2 (ji34))).f1) = some (r1, r2)) ∧ Aside0 (kq ≤ k2) ∧ Aside0 (Kd.R (Kd.int .i64) 3 wc w.heap.size (fun k_ => some k_ ≠ ((.slice (some ad125) y126.length co43) : Value).ownBlock) (.slice (some ⟨go28, 0, none⟩) x7_2.length co20) x7_2) ∧ Aside0 (Kd.R (Kd.int .i64) 3 wc w.heap.size (fun k_ => some k_ ≠ ((.slice (some ⟨go28, 0, none⟩) x7_2.length co20) : Value).ownBlock) (.slice (some ad125) y126.length co43) y126) ∧ Aside0 (wc.heap[gb114]? = some (.cells #[(.slice (some ad115) l0_0.length c0_0), .int .i64 a0_1] 24 (0, 0))) ∧ Aside0 (wc.heap[gb116]? = some (.cells #[.int .i64 ((rd_T29 l0_0 a1).f0), .int .i64 ((rd_T29 l0_0 a1).f1), (.slice (some ad129) ((rd_T29 l0_0 a1).f2).length c115_2)] 29 (0, 0))) ∧ Aside0 (wc.heap[gb130]? = some (.cells #[.int .i64 ((rd_T26 ((rd_T29 l0_0 a1).f2) (rd x9_2 (ji34))).f0), .int .i64 ((rd_T26 ((rd_T29 l0_0 a1).f2) (rd x9_2 (ji34))).f1)] 26 (0, 0))) ∧ Aside0 (Below w.heap.size w wc))
                   case first =>
                    have H := HC42.out
                    clear HC42
                    by_cases c53 : (rd x7_2 (rd x9_2 (ji34))) < t131
                    ·rw [if_pos c53] at H
                     have c53b0 : decide ((rd x7_2 (rd x9_2 (ji34))) < t131) = true := decide_eq_true c53
                     clear c53
                     (first | rw [c53b0] | (simp only [i64_w, i32_w]; rw [c53b0]) | skip)
                     have H' := Aside0.mk H
                     clear H
                     have p134 : 0 ≤ ((rd x9_2 (ji34)) : Int) := of_decide_eq_true (by first | (with_reducible assumption) | assumption)
                     have q134 : (rd x9_2 (ji34)) < (x7_2.length : Int) := of_decide_eq_true (by first | (with_reducible assumption) | assumption)
                     obtain ⟨ad134, e134, hx134_0⟩ := Kd.at_int (Kd.R_reads' HO_7.out).2.2 (rd x9_2 (ji34)) p134 q134
                     obtain rfl : (⟨go28, 0, none⟩ : Addr) = ad134 := (by injection e134)
                     (first | simp only [add_plain] at hx134_0 | simp only [add_at] at hx134_0 | simp only [Addr.add, Nat.zero_add] at hx134_0 | skip)
                     replace p134 := eq_true p134
                     replace q134 := eq_true q134
                     go_wp2
                     go_meet
                     case rel => exact ⟨_, (true), (by first | rfl | (simp; done) | (simp [*]; done)), H', ⟨by have := HK1.out; have := HK2.out; first | omega | exact Nat.le_refl _⟩, ⟨by (try simp only [hl7_1]); (try simp only [hl7_2]); (with_reducible repeat (first | apply Kd.R_alloc | apply Kd.R_drewN | apply Kd.R_drew)); exact HO_7.out⟩, ⟨by (try simp only [hl7_1]); (try simp only [hl7_2]); (with_reducible repeat (first | apply Kd.R_alloc | apply Kd.R_drewN | apply Kd.R_drew)); exact HO128.out⟩, ⟨by (try simp only [hl7_1]); (try simp only [hl7_2]); (with_reducible repeat (first | refine blk_drewN ?_ _ | refine blk_drew ?_ | refine blk_alloc ?_ _)); exact BK114.out⟩, ⟨by (try simp only [hl7_1]); (try simp only [hl7_2]); (with_reducible repeat (first | refine blk_drewN ?_ _ | refine blk_drew ?_ | refine blk_alloc ?_ _)); exact BK116.out⟩, ⟨by (try simp only [hl7_1]); (try simp only [hl7_2]); (with_reducible repeat (first | refine blk_drewN ?_ _ | refine blk_drew ?_ | refine blk_alloc ?_ _)); exact BK130.out⟩, ⟨by repeat (first | (with_reducible first | exact HB.out | apply below_alloc | apply pw_below_drewN | apply below_drew1 | refine below_set ?_ GE114.out | refine below_set ?_ GE116.out | refine below_set ?_ GE130.out) | exact HB.out)⟩⟩
                    ·rw [if_neg c53] at H
                     have c53b0 : decide ((rd x7_2 (rd x9_2 (ji34))) < t131) = false := decide_eq_false c53
                     clear c53
                     (first | rw [c53b0] | (simp only [i64_w, i32_w]; rw [c53b0]) | skip)
                     have H' := Aside0.mk H
                     clear H
                     have p134 : 0 ≤ ((rd x9_2 (ji34)) : Int) := of_decide_eq_true (by first | (with_reducible assumption) | assumption)
                     have q134 : (rd x9_2 (ji34)) < (x7_2.length : Int) := of_decide_eq_true (by first | (with_reducible assumption) | assumption)
                     obtain ⟨ad134, e134, hx134_0⟩ := Kd.at_int (Kd.R_reads' HO_7.out).2.2 (rd x9_2 (ji34)) p134 q134
                     obtain rfl : (⟨go28, 0, none⟩ : Addr) = ad134 := (by injection e134)
                     (first | simp only [add_plain] at hx134_0 | simp only [add_at] at hx134_0 | simp only [Addr.add, Nat.zero_add] at hx134_0 | skip)
                     replace p134 := eq_true p134
                     replace q134 := eq_true q134
                     go_wp2
                     go_meet
                     case rel => exact ⟨_, (decide ((wrap64 ((wrap64 ((rd x7_2 (rd x9_2 (ji34))) - t131)) + t132)) > 256)), (by first | rfl | (simp; done) | (simp only [← hji34] <;> (first | rfl | simp)) | (simp [*]; done)), H', ⟨by have := HK1.out; have := HK2.out; first | omega | exact Nat.le_refl _⟩, ⟨by (try simp only [hl7_1]); (try simp only [hl7_2]); (with_reducible repeat (first | apply Kd.R_alloc | apply Kd.R_drewN | apply Kd.R_drew)); exact HO_7.out⟩, ⟨by (try simp only [hl7_1]); (try simp only [hl7_2]); (with_reducible repeat (first | apply Kd.R_alloc | apply Kd.R_drewN | apply Kd.R_drew)); exact HO128.out⟩, ⟨by (try simp only [hl7_1]); (try simp only [hl7_2]); (with_reducible repeat (first | refine blk_drewN ?_ _ | refine blk_drew ?_ | refine blk_alloc ?_ _)); exact BK114.out⟩, ⟨by (try simp only [hl7_1]); (try simp only [hl7_2]); (with_reducible repeat (first | refine blk_drewN ?_ _ | refine blk_drew ?_ | refine blk_alloc ?_ _)); exact BK116.out⟩, ⟨by (try simp only [hl7_1]); (try simp only [hl7_2]); (with_reducible repeat (first | refine blk_drewN ?_ _ | refine blk_drew ?_ | refine blk_alloc ?_ _)); exact BK130.out⟩, ⟨by repeat (first | (with_reducible first | exact HB.out | apply below_alloc | apply pw_below_drewN | apply below_drew1 | refine below_set ?_ GE114.out | refine below_set ?_ GE116.out | refine below_set ?_ GE130.out) | exact HB.out)⟩⟩
                   case rest =>
                    clear HC42
                    try clear c1; try clear p1; try clear q1; try clear hx1; try clear c2; try clear p2; try clear q2; try clear hx2
                    try clear qi2; try clear hf2; try clear c3; try clear c3b0; try clear c4; try clear c4b0; try clear q4; try clear c5
                    try clear c5b0; try clear c5b1; try clear c5b2; try clear c6; try clear p6; try clear c9; try clear c11; try clear c11b0
                    try clear c11b1; try clear p11; try clear q11; try clear hx11; try clear c12; try clear c12b0; try clear c12b1; try clear p12
                    try clear q12; try clear hx12; try clear p13; try clear q13; try clear hx13; try clear c16; try clear c21; try clear c21b0
                    try clear c22; try clear c22b0; try clear c23; try clear c23b0; try clear p24; try clear q24; try clear hx24; try clear hf24
                    try clear c27; try clear c27b0; try clear c27b1; try clear p28; try clear q28; try clear hx28; try clear qi28; try clear hf28
                    try clear c33; try clear c33b0; try clear c33b1; try clear c35; try clear c35b0; try clear c36; try clear c36b0; try clear c37
                    try clear c37b0; try clear c37b1; try clear c38; try clear c38b0; try clear c39; try clear c39b0; try clear c41; try clear c41b0
                    try clear q44; try clear c45; try clear c48; try clear c49; try clear c53; try clear c53b0; try clear hcz10_0; try clear hcz10_1
                    try clear hcz10_2; try clear hcz14_0; try clear hcz14_1; try clear hcz17_0; try clear hcz17_1; try clear hcz17_2; try clear hcz46_0; try clear hcz46_1
                    try clear hcz46_2; try clear hcz50_0; try clear hcz50_1; try clear hcz51_0; try clear hcz51_1; try clear hcz7_0; try clear hcz7_1; try clear hfz10_0
                    try clear hfz10_1; try clear hfz10_2; try clear hfz14_0; try clear hfz14_1; try clear hfz17_0; try clear hfz17_1; try clear hfz17_2; try clear hfz46_0
                    try clear hfz46_1; try clear hfz46_2; try clear hfz50_0; try clear hfz50_1; try clear hfz51_0; try clear hfz51_1; try clear hfz7_0; try clear hfz7_1
                    try clear hx115_0; try clear hx115_1; try clear hx115_2; try clear hx125_0; try clear hx129_0; try clear hx129_1; try clear hx133_0; try clear hx134_0
                    try clear hx24_0; try clear hx28_0; try clear p1; try clear p11; try clear p115; try clear p125; try clear p129; try clear p133
                    try clear p134; try clear p2; try clear p24; try clear p28; try clear p6; try clear q1; try clear q11; try clear q115
                    try clear q125; try clear q129; try clear q133; try clear q134; try clear q2; try clear q24; try clear q28; try clear q44
                    obtain ⟨kq, x84_41, rfl, HA, HJ41, HO_7, HO_9, BK114, BK116, BK130, HB⟩ := hcut
                    cases kq with
                    | zero => exact absurd HA.out (by simp [sound_heights.j2])
                    | succ kj41 =>
                     have H := HA.out
                     clear HA
                     simp only [sound_heights.j2] at H
                     by_cases c54 : x84_41 = true
                     ·subst c54
                      have H1 : (some (([] : List Int), 7)) = some (r1, r2) := by rw [if_pos rfl] at H; exact H
                      clear H
                      have H := H1
                      clear H1
                      simp only [Option.some.injEq, Prod.mk.injEq] at H
                      obtain ⟨rfl, rfl⟩ := H
                      go_wp2
                      go_ret2
                      exact ⟨_, by first | rfl | (simp [errW_none, errW_some] <;> rfl) | (simp only [← hji34]; first | rfl | (simp [errW_none, errW_some] <;> rfl)) | (simp [*, errW_none, errW_some] <;> rfl), by first | exact Kd.R_nil _ _ _ _ _ | exact Kd.N_nil _ _ _ _ _ | exact Kd.V_nil _ _ _ _ _ | exact Kd.Q_nil _ _ _ _ _ | exact Kd.S_nil _ _ _ _ _, by repeat (first | (with_reducible first | exact HB.out | apply below_alloc | apply pw_below_drewN | apply below_drew1 | refine below_set ?_ GE114.out | refine below_set ?_ GE116.out | refine below_set ?_ GE130.out) | exact HB.out)⟩
                     ·replace c54 := Bool.eq_false_iff.mpr c54
                      subst c54
                      have H1 : ((sound_ways.f (rd x9_2 (ji34)) ((rd_T26 ((rd_T29 l0_0 a1).f2) (rd x9_2 (ji34))).f0) ((rd_T26 ((rd_T29 l0_0 a1).f2) (rd x9_2 (ji34))).f1)).bind fun t135 => (sound_heights.l2 kj41 x7_2 y126 (wrap64 ((wrap64 ((rd x7_2 (rd x9_2 (ji34))) - t131)) + t132)) t135 (t135.length : Int) 0 l0_0 a0_1 ((rd_T29 l0_0 a1).f0) ((rd_T29 l0_0 a1).f1) ((rd_T29 l0_0 a1).f2))) = some (r1, r2) := by rw [if_neg (show ¬ (false = true) by decide)] at H; exact H
                      clear H
                      have H := H1
                      clear H1
                      replace H := Option.bind_eq_some_iff.mp H
                      obtain ⟨t135, A550, H⟩ := H
                      replace H : (sound_heights.l2 kj41 x7_2 y126 (wrap64 ((wrap64 ((rd x7_2 (rd x9_2 (ji34))) - t131)) + t132)) t135 (t135.length : Int) 0 l0_0 a0_1 ((rd_T29 l0_0 a1).f0) ((rd_T29 l0_0 a1).f1) ((rd_T29 l0_0 a1).f2)) = some (r1, r2) := H
                      have A55 := Aside0.mk A550
                      clear A550
                      have H' := Aside0.mk H
                      clear H
                      have hnb56 := NB130_114.out
                      have hnc56 := NB114_130.out
                      have hnb57 := NB130_116.out
                      have hnc57 := NB116_130.out
                      obtain ⟨hcz58_0, hcz58_1⟩ := blk2 BK130.out
                      obtain ⟨hfz58_0, hfz58_1⟩ := frz2 BK130.out
                      go_wp2_with (first | ((with_reducible refine gate_callee (f := 70) rfl ?_); refine goesL_ (some 87) rfl rfl Try.func70 (by kernel_rfl) rfl #[.int .i64 (rd x9_2 (ji34)), .agg #[.int .i64 ((rd_T26 ((rd_T29 l0_0 a1).f2) (rd x9_2 (ji34))).f0), .int .i64 ((rd_T26 ((rd_T29 l0_0 a1).f2) (rd x9_2 (ji34))).f1)]] rfl (by (try simp only [List.map_toArray, List.map_cons, List.map_nil]); first | done | (simp only [hji34]; rfl) | rfl | (simp only [List.length_drop, List.length_take]; rfl)) ?_; (with_reducible refine (sound_ways.calls (rd x9_2 (ji34)) ((rd_T26 ((rd_T29 l0_0 a1).f2) (rd x9_2 (ji34))).f0) ((rd_T26 ((rd_T29 l0_0 a1).f2) (rd x9_2 (ji34))).f1) t135 _ A55.out).mono ?_); rintro e w59 ⟨v136, rfl, ho0, hb⟩; refine ⟨_, rfl, ?_⟩; have n0_ := Aside0.mk (Kd.R_elder' (by (with_reducible repeat (first | apply Kd.R_alloc | apply Kd.R_drewN | apply Kd.R_drew)); exact HO_7.out) (Kd.R_base ho0) hb); have n1_ := Aside0.mk (Kd.R_elder' (by (with_reducible repeat (first | apply Kd.R_alloc | apply Kd.R_drewN | apply Kd.R_drew)); exact HO_9.out) (Kd.R_base ho0) hb); have n2_ := Aside0.mk (Kd.R_lower (Kd.R_new' (Kd.R_new' ho0 (Kd.R_lt (by (with_reducible repeat (first | apply Kd.R_alloc | apply Kd.R_drewN | apply Kd.R_drew)); exact HO_7.out))) (Kd.R_lt (by (with_reducible repeat (first | apply Kd.R_alloc | apply Kd.R_drewN | apply Kd.R_drew)); exact HO_9.out))) (below_size (by repeat (first | (with_reducible first | exact HB.out | apply below_alloc | apply pw_below_drewN | apply below_drew1 | refine below_set ?_ GE114.out | refine below_set ?_ GE116.out | refine below_set ?_ GE130.out) | exact HB.out)))); have n3_ := Aside0.mk (bb hb BK114.out); have n4_ := Aside0.mk (bb hb BK116.out); have n5_ := Aside0.mk (bb hb BK130.out); have n6_ := Aside0.mk (below_step (by repeat (first | (with_reducible first | exact HB.out | apply below_alloc | apply pw_below_drewN | apply below_drew1 | refine below_set ?_ GE114.out | refine below_set ?_ GE116.out | refine below_set ?_ GE130.out) | exact HB.out)) hb); clear HO_7; clear HO_9; clear BK114; clear BK116; clear BK130; clear HB; have HO_7 := n0_; have HO_9 := n1_; have HO137 := n2_; have BK114 := n3_; have BK116 := n4_; have BK130 := n5_; have HB := n6_; clear n0_ n1_ n2_ n3_ n4_ n5_ n6_; (try clear hb); (try clear hb2); (try clear hk); (try clear hi); (try clear ho0); obtain ⟨Ao60, co60, eo60⟩ := Kd.R_slice HO137.out; subst eo60))
                      go_loopg [9, 89] kj41 (fun kq v9 v89 w' => ∃ (x7_4 : List Int) (x9_4 : List Int) (x89_4 : Int), v89 = .int .i64 x89_4 ∧ Aside0 (sound_heights.l2 kq x7_4 x9_4 (wrap64 ((wrap64 ((rd x7_2 (rd x9_2 (ji34))) - t131)) + t132)) t135 (t135.length : Int) x89_4 l0_0 a0_1 ((rd_T29 l0_0 a1).f0) ((rd_T29 l0_0 a1).f1) ((rd_T29 l0_0 a1).f2) = some (r1, r2)) ∧ Aside0 (kq ≤ kj41) ∧ Aside0 (Kd.R (Kd.int .i64) 3 w' w.heap.size (fun k_ => some k_ ≠ (v9 : Value).ownBlock ∧ some k_ ≠ ((.slice Ao60 t135.length co60) : Value).ownBlock) (.slice (some ⟨go28, 0, none⟩) x7_2.length co20) x7_4) ∧ Aside0 (Kd.R (Kd.int .i64) 3 w' w.heap.size (fun k_ => some k_ ≠ ((.slice (some ⟨go28, 0, none⟩) x7_2.length co20) : Value).ownBlock ∧ some k_ ≠ ((.slice Ao60 t135.length co60) : Value).ownBlock) v9 x9_4) ∧ Aside0 (Kd.R (Kd.int .i64) 3 w' w.heap.size (fun k_ => some k_ ≠ ((.slice (some ⟨go28, 0, none⟩) x7_2.length co20) : Value).ownBlock ∧ some k_ ≠ (v9 : Value).ownBlock) (.slice Ao60 t135.length co60) t135) ∧ Aside0 (w'.heap[gb114]? = some (.cells #[(.slice (some ad115) l0_0.length c0_0), .int .i64 a0_1] 24 (0, 0))) ∧ Aside0 (w'.heap[gb116]? = some (.cells #[.int .i64 ((rd_T29 l0_0 a1).f0), .int .i64 ((rd_T29 l0_0 a1).f1), (.slice (some ad129) ((rd_T29 l0_0 a1).f2).length c115_2)] 29 (0, 0))) ∧ Aside0 (w'.heap[gb130]? = some (.cells #[.int .i64 ((rd_T26 ((rd_T29 l0_0 a1).f2) (rd x9_2 (ji34))).f0), .int .i64 ((rd_T26 ((rd_T29 l0_0 a1).f2) (rd x9_2 (ji34))).f1)] 26 (0, 0))) ∧ Aside0 (Below w.heap.size w w'))
                      case atStart => exact ⟨(x7_2), (y126), (0), (by first | rfl | (simp; done) | (simp [*]; done)), H', ⟨Nat.le_refl _⟩, ⟨by (try simp only [hl7_1]); (try simp only [hl7_2]); (with_reducible repeat (first | apply Kd.R_alloc | apply Kd.R_drewN | apply Kd.R_drew)); exact HO_7.out⟩, ⟨by (try simp only [hl7_1]); (try simp only [hl7_2]); (with_reducible repeat (first | apply Kd.R_alloc | apply Kd.R_drewN | apply Kd.R_drew)); exact HO_9.out⟩, ⟨by (try simp only [hl7_1]); (try simp only [hl7_2]); (with_reducible repeat (first | apply Kd.R_alloc | apply Kd.R_drewN | apply Kd.R_drew)); exact Kd.R_mono HO137.out (fun _ hk => ⟨hk.1.2, hk.2⟩)⟩, ⟨by (try simp only [hl7_1]); (try simp only [hl7_2]); (with_reducible repeat (first | refine blk_drewN ?_ _ | refine blk_drew ?_ | refine blk_alloc ?_ _)); exact BK114.out⟩, ⟨by (try simp only [hl7_1]); (try simp only [hl7_2]); (with_reducible repeat (first | refine blk_drewN ?_ _ | refine blk_drew ?_ | refine blk_alloc ?_ _)); exact BK116.out⟩, ⟨by (try simp only [hl7_1]); (try simp only [hl7_2]); (with_reducible repeat (first | refine blk_drewN ?_ _ | refine blk_drew ?_ | refine blk_alloc ?_ _)); exact BK130.out⟩, ⟨by repeat (first | (with_reducible first | exact HB.out | apply below_alloc | apply pw_below_drewN | apply below_drew1 | refine below_set ?_ GE114.out | refine below_set ?_ GE116.out | refine below_set ?_ GE130.out) | exact HB.out)⟩⟩
                      case round =>
                       clear H'
                       try clear c1; try clear p1; try clear q1; try clear hx1; try clear c2; try clear p2; try clear q2; try clear hx2
                       try clear qi2; try clear hf2; try clear c3; try clear c3b0; try clear c4; try clear c4b0; try clear q4; try clear c5
                       try clear c5b0; try clear c5b1; try clear c5b2; try clear c6; try clear p6; try clear c7; try clear c9; try clear c11
                       try clear c11b0; try clear c11b1; try clear p11; try clear q11; try clear hx11; try clear c12; try clear c12b0; try clear c12b1
                       try clear p12; try clear q12; try clear hx12; try clear p13; try clear q13; try clear hx13; try clear c16; try clear c21
                       try clear c21b0; try clear c22; try clear c22b0; try clear c23; try clear c23b0; try clear p24; try clear q24; try clear hx24
                       try clear hf24; try clear c27; try clear c27b0; try clear c27b1; try clear p28; try clear q28; try clear hx28; try clear qi28
                       try clear hf28; try clear c33; try clear c33b0; try clear c33b1; try clear c35; try clear c35b0; try clear c36; try clear c36b0
                       try clear c37; try clear c37b0; try clear c37b1; try clear c38; try clear c38b0; try clear c39; try clear c39b0; try clear c41
                       try clear c41b0; try clear q44; try clear c45; try clear c48; try clear c49; try clear c53; try clear c53b0; try clear c54
                       try clear c56; try clear c57; try clear hcz10_0; try clear hcz10_1; try clear hcz10_2; try clear hcz14_0; try clear hcz14_1; try clear hcz17_0
                       try clear hcz17_1; try clear hcz17_2; try clear hcz46_0; try clear hcz46_1; try clear hcz46_2; try clear hcz50_0; try clear hcz50_1; try clear hcz51_0
                       try clear hcz51_1; try clear hcz58_0; try clear hcz58_1; try clear hcz7_0; try clear hcz7_1; try clear hfz10_0; try clear hfz10_1; try clear hfz10_2
                       try clear hfz14_0; try clear hfz14_1; try clear hfz17_0; try clear hfz17_1; try clear hfz17_2; try clear hfz46_0; try clear hfz46_1; try clear hfz46_2
                       try clear hfz50_0; try clear hfz50_1; try clear hfz51_0; try clear hfz51_1; try clear hfz58_0; try clear hfz58_1; try clear hfz7_0; try clear hfz7_1
                       try clear hx115_0; try clear hx115_1; try clear hx115_2; try clear hx125_0; try clear hx129_0; try clear hx129_1; try clear hx133_0; try clear hx134_0
                       try clear hx24_0; try clear hx28_0; try clear p1; try clear p11; try clear p115; try clear p12; try clear p125; try clear p129
                       try clear p13; try clear p133; try clear p134; try clear p2; try clear p24; try clear p28; try clear p6; try clear q1
                       try clear q11; try clear q115; try clear q12; try clear q125; try clear q129; try clear q13; try clear q133; try clear q134
                       try clear q2; try clear q24; try clear q28; try clear q4; try clear q44
                       obtain ⟨x7_4, x9_4, x89_4, rfl, HA, HK4, HO_7, HO_9, HO_87, BK114, BK116, BK130, HB⟩ := hrel
                       have hl7_4 := (Kd.R_reads' HO_7.out).1
                       rw [hl7_4] at HO_7
                       (try simp only [hl7_4])
                       (try simp only [hl7_4] at BK114)
                       (try simp only [hl7_4] at BK116)
                       (try simp only [hl7_4] at BK130)
                       (try simp only [hl7_4] at HO_9)
                       (try simp only [hl7_4] at HO_87)
                       cases gk with
                       | zero => exact absurd HA.out (by simp [sound_heights.l2])
                       | succ k4 =>
                        have H := HA.out
                        clear HA
                        simp only [sound_heights.l2] at H
                        by_cases c61 : x89_4 < (t135.length : Int)
                        ·rw [if_pos c61] at H
                         have c61b0 : decide (x89_4 < (t135.length : Int)) = true := decide_eq_true c61
                         clear c61
                         (try rw [hl7_1] at c61b0)
                         (try rw [hl7_2] at c61b0)
                         (try rw [hl7_4] at c61b0)
                         by_cases c62 : 0 ≤ x89_4
                         ·rw [if_pos c62] at H
                          have c62b0 : decide (0 ≤ x89_4) = true := decide_eq_true c62
                          clear c62
                          by_cases c63 : x89_4 < (t135.length : Int)
                          ·rw [if_pos c63] at H
                           have c63b0 : decide (x89_4 < (t135.length : Int)) = true := decide_eq_true c63
                           clear c63
                           (try rw [hl7_1] at c63b0)
                           (try rw [hl7_2] at c63b0)
                           (try rw [hl7_4] at c63b0)
                           by_cases c64 : (rd t135 x89_4) = (((rd_T29 l0_0 a1).f2).length : Int)
                           ·rw [if_pos c64] at H
                            have c64b0 : ((rd t135 x89_4) == (((rd_T29 l0_0 a1).f2).length : Int)) = true := beq_iff_eq.mpr c64
                            have c64b1 : ((rd t135 x89_4) != (((rd_T29 l0_0 a1).f2).length : Int)) = false := bne_eq_false_iff_eq.mpr c64
                            clear c64
                            (try rw [hl7_1] at c64b0)
                            (try rw [hl7_1] at c64b1)
                            (try rw [hl7_2] at c64b0)
                            (try rw [hl7_2] at c64b1)
                            (try rw [hl7_4] at c64b0)
                            (try rw [hl7_4] at c64b1)
                            simp only [Option.some.injEq, Prod.mk.injEq] at H
                            obtain ⟨rfl, rfl⟩ := H
                            have p138 : 0 ≤ (x89_4 : Int) := of_decide_eq_true (by first | (with_reducible assumption) | assumption)
                            have q138 : x89_4 < (t135.length : Int) := of_decide_eq_true (by first | (with_reducible assumption) | assumption)
                            obtain ⟨ad138, e138, hx138_0⟩ := Kd.at_int (Kd.R_reads' HO_87.out).2.2 x89_4 p138 q138
                            cases e138
                            replace p138 := eq_true p138
                            replace q138 := eq_true q138
                            have hnb65 := NB116_114.out
                            have hnc65 := NB114_116.out
                            have hnb66 := NB116_130.out
                            have hnc66 := NB130_116.out
                            have hcz67_0 : wr.cell? ⟨gb116, 0, none⟩ = some (.int .i64 ((rd_T29 l0_0 a1).f0)) := (blk_cell BK116.out 0).trans rfl
                            have hcz67_1 : wr.cell? ⟨gb116, 1, none⟩ = some (.int .i64 ((rd_T29 l0_0 a1).f1)) := (blk_cell BK116.out 1).trans rfl
                            have hcz67_2 : wr.cell? ⟨gb116, 2, none⟩ = some (.slice (some ad129) ((rd_T29 l0_0 a1).f2).length c115_2) := (blk_cell BK116.out 2).trans rfl
                            have hfz67_0 := blk_frozen BK116.out 0
                            have hfz67_1 := blk_frozen BK116.out 1
                            have hfz67_2 := blk_frozen BK116.out 2
                            go_wp2
                            go_ret2
                            exact ⟨_, by first | rfl | (simp [errW_none, errW_some] <;> rfl) | (simp only [← hji34]; first | rfl | (simp [errW_none, errW_some] <;> rfl)) | (simp [*, errW_none, errW_some] <;> rfl), by first | exact Kd.R_nil _ _ _ _ _ | exact Kd.N_nil _ _ _ _ _ | exact Kd.V_nil _ _ _ _ _ | exact Kd.Q_nil _ _ _ _ _ | exact Kd.S_nil _ _ _ _ _, by repeat (first | (with_reducible first | exact HB.out | apply below_alloc | apply pw_below_drewN | apply below_drew1 | refine below_set ?_ GE114.out | refine below_set ?_ GE116.out | refine below_set ?_ GE130.out) | exact HB.out)⟩
                           ·rw [if_neg c64] at H
                            have c64b0 : ((rd t135 x89_4) == (((rd_T29 l0_0 a1).f2).length : Int)) = false := beq_eq_false_iff_ne.mpr c64
                            have c64b1 : ((rd t135 x89_4) != (((rd_T29 l0_0 a1).f2).length : Int)) = true := bne_iff_ne.mpr c64
                            (try rw [hl7_1] at c64b0)
                            (try rw [hl7_1] at c64b1)
                            (try rw [hl7_2] at c64b0)
                            (try rw [hl7_2] at c64b1)
                            (try rw [hl7_4] at c64b0)
                            (try rw [hl7_4] at c64b1)
                            have HC68 := Aside0.mk H
                            clear H
                            have p138 : 0 ≤ (x89_4 : Int) := of_decide_eq_true (by first | (with_reducible assumption) | assumption)
                            have q138 : x89_4 < (t135.length : Int) := of_decide_eq_true (by first | (with_reducible assumption) | assumption)
                            obtain ⟨ad138, e138, hx138_0⟩ := Kd.at_int (Kd.R_reads' HO_87.out).2.2 x89_4 p138 q138
                            cases e138
                            replace p138 := eq_true p138
                            replace q138 := eq_true q138
                            have hnb69 := NB116_114.out
                            have hnc69 := NB114_116.out
                            have hnb70 := NB116_130.out
                            have hnc70 := NB130_116.out
                            have hcz71_0 : wr.cell? ⟨gb116, 0, none⟩ = some (.int .i64 ((rd_T29 l0_0 a1).f0)) := (blk_cell BK116.out 0).trans rfl
                            have hcz71_1 : wr.cell? ⟨gb116, 1, none⟩ = some (.int .i64 ((rd_T29 l0_0 a1).f1)) := (blk_cell BK116.out 1).trans rfl
                            have hcz71_2 : wr.cell? ⟨gb116, 2, none⟩ = some (.slice (some ad129) ((rd_T29 l0_0 a1).f2).length c115_2) := (blk_cell BK116.out 2).trans rfl
                            have hfz71_0 := blk_frozen BK116.out 0
                            have hfz71_1 := blk_frozen BK116.out 1
                            have hfz71_2 := blk_frozen BK116.out 2
                            go_upto_region 25 with (fail)
                            go_cut [110] (fun v110 wc => ∃ (kq : Nat) (x110_67 : Bool), v110 = .bool x110_67 ∧ Aside0 (sound_heights.j4 kq x7_4 x9_4 (wrap64 ((wrap64 ((rd x7_2 (rd x9_2 (ji34))) - t131)) + t132)) (rd t135 x89_4) t135 (t135.length : Int) x89_4 x110_67 l0_0 a0_1 ((rd_T29 l0_0 a1).f0) ((rd_T29 l0_0 a1).f1) ((rd_T29 l0_0 a1).f2) = some (r1, r2)) ∧ Aside0 (kq ≤ k4) ∧ Aside0 (Kd.R (Kd.int .i64) 3 wc w.heap.size (fun k_ => some k_ ≠ (u9 : Value).ownBlock ∧ some k_ ≠ ((.slice (some ad138) t135.length co60) : Value).ownBlock) (.slice (some ⟨go28, 0, none⟩) x7_4.length co20) x7_4) ∧ Aside0 (Kd.R (Kd.int .i64) 3 wc w.heap.size (fun k_ => some k_ ≠ ((.slice (some ⟨go28, 0, none⟩) x7_4.length co20) : Value).ownBlock ∧ some k_ ≠ ((.slice (some ad138) t135.length co60) : Value).ownBlock) u9 x9_4) ∧ Aside0 (Kd.R (Kd.int .i64) 3 wc w.heap.size (fun k_ => some k_ ≠ ((.slice (some ⟨go28, 0, none⟩) x7_4.length co20) : Value).ownBlock ∧ some k_ ≠ (u9 : Value).ownBlock) (.slice (some ad138) t135.length co60) t135) ∧ Aside0 (wc.heap[gb114]? = some (.cells #[(.slice (some ad115) l0_0.length c0_0), .int .i64 a0_1] 24 (0, 0))) ∧ Aside0 (wc.heap[gb116]? = some (.cells #[.int .i64 ((rd_T29 l0_0 a1).f0), .int .i64 ((rd_T29 l0_0 a1).f1), (.slice (some ad129) ((rd_T29 l0_0 a1).f2).length c115_2)] 29 (0, 0))) ∧ Aside0 (wc.heap[gb130]? = some (.cells #[.int .i64 ((rd_T26 ((rd_T29 l0_0 a1).f2) (rd x9_2 (ji34))).f0), .int .i64 ((rd_T26 ((rd_T29 l0_0 a1).f2) (rd x9_2 (ji34))).f1)] 26 (0, 0))) ∧ Aside0 (Below w.heap.size w wc))
                            case first =>
                             have H := HC68.out
                             clear HC68
                             by_cases c72 : 0 ≤ (rd t135 x89_4)
                             ·rw [if_pos c72] at H
                              have c72b0 : decide (0 ≤ (rd t135 x89_4)) = true := decide_eq_true c72
                              clear c72
                              (first | rw [c72b0] | (simp only [i64_w, i32_w]; rw [c72b0]) | skip)
                              by_cases c73 : (rd t135 x89_4) < (x7_4.length : Int)
                              ·rw [if_pos c73] at H
                               have c73b0 : decide ((rd t135 x89_4) < (x7_4.length : Int)) = true := decide_eq_true c73
                               clear c73
                               (try rw [hl7_1] at c73b0)
                               (try rw [hl7_2] at c73b0)
                               (try rw [hl7_4] at c73b0)
                               by_cases c74 : (rd x7_4 (rd t135 x89_4)) ≥ 0
                               ·rw [if_pos c74] at H
                                have c74b0 : decide (0 ≤ (rd x7_4 (rd t135 x89_4))) = true := decide_eq_true c74
                                clear c74
                                have H' := Aside0.mk H
                                clear H
                                have p139 : 0 ≤ ((rd t135 x89_4) : Int) := of_decide_eq_true (by first | (with_reducible assumption) | assumption)
                                have q139 : (rd t135 x89_4) < (x7_4.length : Int) := of_decide_eq_true (by first | (with_reducible assumption) | assumption)
                                obtain ⟨ad139, e139, hx139_0⟩ := Kd.at_int (Kd.R_reads' HO_7.out).2.2 (rd t135 x89_4) p139 q139
                                obtain rfl : (⟨go28, 0, none⟩ : Addr) = ad139 := (by injection e139)
                                (first | simp only [add_plain] at hx139_0 | simp only [add_at] at hx139_0 | simp only [Addr.add, Nat.zero_add] at hx139_0 | skip)
                                replace p139 := eq_true p139
                                replace q139 := eq_true q139
                                have p140 : 0 ≤ ((rd t135 x89_4) : Int) := of_decide_eq_true (by first | (with_reducible assumption) | assumption)
                                have q140 : (rd t135 x89_4) < (x7_4.length : Int) := of_decide_eq_true (by first | (with_reducible assumption) | assumption)
                                obtain ⟨ad140, e140, hx140_0⟩ := Kd.at_int (Kd.R_reads' HO_7.out).2.2 (rd t135 x89_4) p140 q140
                                obtain rfl : (⟨go28, 0, none⟩ : Addr) = ad140 := (by injection e140)
                                (first | simp only [add_plain] at hx140_0 | simp only [add_at] at hx140_0 | simp only [Addr.add, Nat.zero_add] at hx140_0 | skip)
                                replace p140 := eq_true p140
                                replace q140 := eq_true q140
                                go_wp2
                                go_meet
                                case rel => exact ⟨_, (((rd x7_4 (rd t135 x89_4)) != (wrap64 ((wrap64 ((rd x7_2 (rd x9_2 (ji34))) - t131)) + t132)))), (by first | rfl | (simp; done) | (simp only [← hji34] <;> (first | rfl | simp)) | (simp [*]; done)), H', ⟨by have := HK1.out; have := HK2.out; have := HJ41.out; have := HK4.out; first | omega | exact Nat.le_refl _⟩, ⟨by (try simp only [hl7_1]); (try simp only [hl7_2]); (try simp only [hl7_4]); (with_reducible repeat (first | apply Kd.R_alloc | apply Kd.R_drewN | apply Kd.R_drew)); exact HO_7.out⟩, ⟨by (try simp only [hl7_1]); (try simp only [hl7_2]); (try simp only [hl7_4]); (with_reducible repeat (first | apply Kd.R_alloc | apply Kd.R_drewN | apply Kd.R_drew)); exact HO_9.out⟩, ⟨by (try simp only [hl7_1]); (try simp only [hl7_2]); (try simp only [hl7_4]); (with_reducible repeat (first | apply Kd.R_alloc | apply Kd.R_drewN | apply Kd.R_drew)); exact HO_87.out⟩, ⟨by (try simp only [hl7_1]); (try simp only [hl7_2]); (try simp only [hl7_4]); (with_reducible repeat (first | refine blk_drewN ?_ _ | refine blk_drew ?_ | refine blk_alloc ?_ _)); exact BK114.out⟩, ⟨by (try simp only [hl7_1]); (try simp only [hl7_2]); (try simp only [hl7_4]); (with_reducible repeat (first | refine blk_drewN ?_ _ | refine blk_drew ?_ | refine blk_alloc ?_ _)); exact BK116.out⟩, ⟨by (try simp only [hl7_1]); (try simp only [hl7_2]); (try simp only [hl7_4]); (with_reducible repeat (first | refine blk_drewN ?_ _ | refine blk_drew ?_ | refine blk_alloc ?_ _)); exact BK130.out⟩, ⟨by repeat (first | (with_reducible first | exact HB.out | apply below_alloc | apply pw_below_drewN | apply below_drew1 | refine below_set ?_ GE114.out | refine below_set ?_ GE116.out | refine below_set ?_ GE130.out) | exact HB.out)⟩⟩
                               ·rw [if_neg c74] at H
                                have c74b0 : decide (0 ≤ (rd x7_4 (rd t135 x89_4))) = false := decide_eq_false c74
                                clear c74
                                have H' := Aside0.mk H
                                clear H
                                have p139 : 0 ≤ ((rd t135 x89_4) : Int) := of_decide_eq_true (by first | (with_reducible assumption) | assumption)
                                have q139 : (rd t135 x89_4) < (x7_4.length : Int) := of_decide_eq_true (by first | (with_reducible assumption) | assumption)
                                obtain ⟨ad139, e139, hx139_0⟩ := Kd.at_int (Kd.R_reads' HO_7.out).2.2 (rd t135 x89_4) p139 q139
                                obtain rfl : (⟨go28, 0, none⟩ : Addr) = ad139 := (by injection e139)
                                (first | simp only [add_plain] at hx139_0 | simp only [add_at] at hx139_0 | simp only [Addr.add, Nat.zero_add] at hx139_0 | skip)
                                replace p139 := eq_true p139
                                replace q139 := eq_true q139
                                go_wp2
                                go_meet
                                case rel => exact ⟨_, (false), (by first | rfl | (simp; done) | (simp [*]; done)), H', ⟨by have := HK1.out; have := HK2.out; have := HJ41.out; have := HK4.out; first | omega | exact Nat.le_refl _⟩, ⟨by (try simp only [hl7_1]); (try simp only [hl7_2]); (try simp only [hl7_4]); (with_reducible repeat (first | apply Kd.R_alloc | apply Kd.R_drewN | apply Kd.R_drew)); exact HO_7.out⟩, ⟨by (try simp only [hl7_1]); (try simp only [hl7_2]); (try simp only [hl7_4]); (with_reducible repeat (first | apply Kd.R_alloc | apply Kd.R_drewN | apply Kd.R_drew)); exact HO_9.out⟩, ⟨by (try simp only [hl7_1]); (try simp only [hl7_2]); (try simp only [hl7_4]); (with_reducible repeat (first | apply Kd.R_alloc | apply Kd.R_drewN | apply Kd.R_drew)); exact HO_87.out⟩, ⟨by (try simp only [hl7_1]); (try simp only [hl7_2]); (try simp only [hl7_4]); (with_reducible repeat (first | refine blk_drewN ?_ _ | refine blk_drew ?_ | refine blk_alloc ?_ _)); exact BK114.out⟩, ⟨by (try simp only [hl7_1]); (try simp only [hl7_2]); (try simp only [hl7_4]); (with_reducible repeat (first | refine blk_drewN ?_ _ | refine blk_drew ?_ | refine blk_alloc ?_ _)); exact BK116.out⟩, ⟨by (try simp only [hl7_1]); (try simp only [hl7_2]); (try simp only [hl7_4]); (with_reducible repeat (first | refine blk_drewN ?_ _ | refine blk_drew ?_ | refine blk_alloc ?_ _)); exact BK130.out⟩, ⟨by repeat (first | (with_reducible first | exact HB.out | apply below_alloc | apply pw_below_drewN | apply below_drew1 | refine below_set ?_ GE114.out | refine below_set ?_ GE116.out | refine below_set ?_ GE130.out) | exact HB.out)⟩⟩
                              ·rw [if_neg c73] at H
                               exact absurd H (by simp)
                             ·rw [if_neg c72] at H
                              exact absurd H (by simp)
                            case rest =>
                             clear HC68
                             try clear c1; try clear p1; try clear q1; try clear hx1; try clear c2; try clear p2; try clear q2; try clear hx2
                             try clear qi2; try clear hf2; try clear c3; try clear c3b0; try clear c4; try clear c4b0; try clear q4; try clear c5
                             try clear c5b0; try clear c5b1; try clear c5b2; try clear c6; try clear p6; try clear c7; try clear c9; try clear c11
                             try clear c11b0; try clear c11b1; try clear p11; try clear q11; try clear hx11; try clear c12; try clear c12b0; try clear c12b1
                             try clear p12; try clear q12; try clear hx12; try clear p13; try clear q13; try clear hx13; try clear p14; try clear q14
                             try clear hx14; try clear c16; try clear c21; try clear c21b0; try clear c22; try clear c22b0; try clear c23; try clear c23b0
                             try clear p24; try clear q24; try clear hx24; try clear hf24; try clear c27; try clear c27b0; try clear c27b1; try clear p28
                             try clear q28; try clear hx28; try clear qi28; try clear hf28; try clear c33; try clear c33b0; try clear c33b1; try clear c35
                             try clear c35b0; try clear c36; try clear c36b0; try clear c37; try clear c37b0; try clear c37b1; try clear c38; try clear c38b0
                             try clear c39; try clear c39b0; try clear c41; try clear c41b0; try clear q44; try clear c45; try clear c48; try clear c49
                             try clear c53; try clear c53b0; try clear c54; try clear c56; try clear c57; try clear c61; try clear c61b0; try clear c62
                             try clear c62b0; try clear c63; try clear c63b0; try clear c64; try clear c64b0; try clear c64b1; try clear p64; try clear c65
                             try clear c66; try clear c69; try clear c70; try clear c72; try clear c72b0; try clear c73; try clear c73b0; try clear c74
                             try clear c74b0; try clear hcz10_0; try clear hcz10_1; try clear hcz10_2; try clear hcz14_0; try clear hcz14_1; try clear hcz17_0; try clear hcz17_1
                             try clear hcz17_2; try clear hcz46_0; try clear hcz46_1; try clear hcz46_2; try clear hcz50_0; try clear hcz50_1; try clear hcz51_0; try clear hcz51_1
                             try clear hcz58_0; try clear hcz58_1; try clear hcz67_0; try clear hcz67_1; try clear hcz67_2; try clear hcz71_0; try clear hcz71_1; try clear hcz71_2
                             try clear hcz7_0; try clear hcz7_1; try clear hfz10_0; try clear hfz10_1; try clear hfz10_2; try clear hfz14_0; try clear hfz14_1; try clear hfz17_0
                             try clear hfz17_1; try clear hfz17_2; try clear hfz46_0; try clear hfz46_1; try clear hfz46_2; try clear hfz50_0; try clear hfz50_1; try clear hfz51_0
                             try clear hfz51_1; try clear hfz58_0; try clear hfz58_1; try clear hfz67_0; try clear hfz67_1; try clear hfz67_2; try clear hfz71_0; try clear hfz71_1
                             try clear hfz71_2; try clear hfz7_0; try clear hfz7_1; try clear hx115_0; try clear hx115_1; try clear hx115_2; try clear hx125_0; try clear hx129_0
                             try clear hx129_1; try clear hx133_0; try clear hx134_0; try clear hx138_0; try clear hx139_0; try clear hx140_0; try clear hx24_0; try clear hx28_0
                             try clear p1; try clear p11; try clear p115; try clear p12; try clear p125; try clear p129; try clear p13; try clear p133
                             try clear p134; try clear p138; try clear p139; try clear p140; try clear p2; try clear p24; try clear p28; try clear p6
                             try clear q1; try clear q11; try clear q115; try clear q12; try clear q125; try clear q129; try clear q13; try clear q133
                             try clear q134; try clear q138; try clear q139; try clear q140; try clear q2; try clear q24; try clear q28; try clear q4
                             try clear q44
                             obtain ⟨kq, x110_67, rfl, HA, HJ67, HO_7, HO_9, HO_87, BK114, BK116, BK130, HB⟩ := hcut
                             cases kq with
                             | zero => exact absurd HA.out (by simp [sound_heights.j4])
                             | succ kj67 =>
                              have H := HA.out
                              clear HA
                              simp only [sound_heights.j4] at H
                              by_cases c75 : x110_67 = true
                              ·subst c75
                               have H1 : (some (([] : List Int), 7)) = some (r1, r2) := by rw [if_pos rfl] at H; exact H
                               clear H
                               have H := H1
                               clear H1
                               simp only [Option.some.injEq, Prod.mk.injEq] at H
                               obtain ⟨rfl, rfl⟩ := H
                               go_wp2
                               go_ret2
                               exact ⟨_, by first | rfl | (simp [errW_none, errW_some] <;> rfl) | (simp only [← hji34]; first | rfl | (simp [errW_none, errW_some] <;> rfl)) | (simp [*, errW_none, errW_some] <;> rfl), by first | exact Kd.R_nil _ _ _ _ _ | exact Kd.N_nil _ _ _ _ _ | exact Kd.V_nil _ _ _ _ _ | exact Kd.Q_nil _ _ _ _ _ | exact Kd.S_nil _ _ _ _ _, by repeat (first | (with_reducible first | exact HB.out | apply below_alloc | apply pw_below_drewN | apply below_drew1 | refine below_set ?_ GE114.out | refine below_set ?_ GE116.out | refine below_set ?_ GE130.out) | exact HB.out)⟩
                              ·replace c75 := Bool.eq_false_iff.mpr c75
                               subst c75
                               have H1 : (if 0 ≤ (rd t135 x89_4) then (if (rd t135 x89_4) < (x7_4.length : Int) then (if (rd x7_4 (rd t135 x89_4)) < 0 then (if x9_4.length < 17592186044416 then (sound_heights.l2 kj67 (x7_4.set ((rd t135 x89_4) : Int).toNat (wrap64 ((wrap64 ((rd x7_2 (rd x9_2 (ji34))) - t131)) + t132))) (x9_4 ++ [(rd t135 x89_4)]) (wrap64 ((wrap64 ((rd x7_2 (rd x9_2 (ji34))) - t131)) + t132)) t135 (t135.length : Int) (wrap64 (x89_4 + 1)) l0_0 a0_1 ((rd_T29 l0_0 a1).f0) ((rd_T29 l0_0 a1).f1) ((rd_T29 l0_0 a1).f2)) else (none)) else (sound_heights.l2 kj67 x7_4 x9_4 (wrap64 ((wrap64 ((rd x7_2 (rd x9_2 (ji34))) - t131)) + t132)) t135 (t135.length : Int) (wrap64 (x89_4 + 1)) l0_0 a0_1 ((rd_T29 l0_0 a1).f0) ((rd_T29 l0_0 a1).f1) ((rd_T29 l0_0 a1).f2))) else (none)) else (none)) = some (r1, r2) := by rw [if_neg (show ¬ (false = true) by decide)] at H; exact H
                               clear H
                               have H := H1
                               clear H1
                               by_cases c76 : 0 ≤ (rd t135 x89_4)
                               ·rw [if_pos c76] at H
                                have c76b0 : decide (0 ≤ (rd t135 x89_4)) = true := decide_eq_true c76
                                clear c76
                                by_cases c77 : (rd t135 x89_4) < (x7_4.length : Int)
                                ·rw [if_pos c77] at H
                                 have c77b0 : decide ((rd t135 x89_4) < (x7_4.length : Int)) = true := decide_eq_true c77
                                 clear c77
                                 (try rw [hl7_1] at c77b0)
                                 (try rw [hl7_2] at c77b0)
                                 (try rw [hl7_4] at c77b0)
                                 by_cases c78 : (rd x7_4 (rd t135 x89_4)) < 0
                                 ·rw [if_pos c78] at H
                                  have c78b0 : decide ((rd x7_4 (rd t135 x89_4)) < 0) = true := decide_eq_true c78
                                  clear c78
                                  obtain ⟨y142, hy142⟩ : ∃ y_ : List Int, y_ = (x7_4.set ((rd t135 x89_4) : Int).toNat (wrap64 ((wrap64 ((rd x7_2 (rd x9_2 (ji34))) - t131)) + t132))) := ⟨_, rfl⟩
                                  replace H : (if x9_4.length < 17592186044416 then (sound_heights.l2 kj67 y142 (x9_4 ++ [(rd t135 x89_4)]) (wrap64 ((wrap64 ((rd x7_2 (rd x9_2 (ji34))) - t131)) + t132)) t135 (t135.length : Int) (wrap64 (x89_4 + 1)) l0_0 a0_1 ((rd_T29 l0_0 a1).f0) ((rd_T29 l0_0 a1).f1) ((rd_T29 l0_0 a1).f2)) else (none)) = some (r1, r2) := by first | (rw [hy142]; with_reducible exact H) | (have H2_ := (Option.bind_some _ _).symm.trans H; rw [hy142]; with_reducible exact H2_) | (have H2_ := (Option.bind_some _ _).symm.trans H; with_reducible exact H2_) | with_reducible exact H | (rw [hy142]; exact H) | exact H
                                  have Ny142 := Aside0.mk hy142
                                  clear hy142
                                  by_cases c80 : x9_4.length < 17592186044416
                                  ·rw [if_pos c80] at H
                                   have LMc80 := Aside0.mk c80
                                   clear c80
                                   obtain ⟨y143, hy143⟩ : ∃ y_ : List Int, y_ = (x9_4 ++ [(rd t135 x89_4)]) := ⟨_, rfl⟩
                                   replace H : (sound_heights.l2 kj67 y142 y143 (wrap64 ((wrap64 ((rd x7_2 (rd x9_2 (ji34))) - t131)) + t132)) t135 (t135.length : Int) (wrap64 (x89_4 + 1)) l0_0 a0_1 ((rd_T29 l0_0 a1).f0) ((rd_T29 l0_0 a1).f1) ((rd_T29 l0_0 a1).f2)) = some (r1, r2) := by first | (rw [hy143]; with_reducible exact H) | (have H2_ := (Option.bind_some _ _).symm.trans H; rw [hy143]; with_reducible exact H2_) | (have H2_ := (Option.bind_some _ _).symm.trans H; with_reducible exact H2_) | with_reducible exact H | (rw [hy143]; exact H) | exact H
                                   have Ny143 := Aside0.mk hy143
                                   clear hy143
                                   have H' := Aside0.mk H
                                   clear H
                                   have p141 : 0 ≤ ((rd t135 x89_4) : Int) := of_decide_eq_true (by first | (with_reducible assumption) | assumption)
                                   have q141 : (rd t135 x89_4) < (x7_4.length : Int) := of_decide_eq_true (by first | (with_reducible assumption) | assumption)
                                   obtain ⟨ad141, e141, hx141_0⟩ := Kd.at_int (Kd.R_reads' HO_7.out).2.2 (rd t135 x89_4) p141 q141
                                   obtain rfl : (⟨go28, 0, none⟩ : Addr) = ad141 := (by injection e141)
                                   (first | simp only [add_plain] at hx141_0 | simp only [add_at] at hx141_0 | simp only [Addr.add, Nat.zero_add] at hx141_0 | skip)
                                   replace p141 := eq_true p141
                                   replace q141 := eq_true q141
                                   have p79 : 0 ≤ ((rd t135 x89_4) : Int) := of_decide_eq_true (by first | (with_reducible assumption) | assumption)
                                   have q79 : ((rd t135 x89_4) : Int) < ((x7_4.length : Int) : Int) := of_decide_eq_true (by first | (with_reducible assumption) | assumption)
                                   obtain ⟨hx79_0, hf79_0⟩ := Kd.R_celln 0 HO_7.out ((rd t135 x89_4) : Int) p79 q79
                                   replace p79 := eq_true p79
                                   replace q79 := eq_true q79
                                   have HP81 := Kd.R_putg HO_7.out ((rd t135 x89_4) : Int) (wrap64 ((wrap64 ((rd x7_2 (rd x9_2 (ji34))) - t131)) + t132))
                                   go_wp2_with (first | ((with_reducible refine gate_store (t := 3) (p := 119) rfl ?_); refine store_event (t := 3) (p := 119) (v := ?vo_w82) (w1 := (wc.setCell ⟨go28, ((rd t135 x89_4) : Int).toNat, none⟩ (.int .i64 (wrap64 ((wrap64 ((rd x7_2 (rd x9_2 (ji34))) - t131)) + t132))))) ?hg ?ho ?hn ?hr ?_; (case ho => rfl); (case hg => rfl); (case hn => rfl); (case hr => first | (go_simp; done) | (go_simp; rfl)); intro w82 hw; have hg : wc.grownBy w82 (some go28) := (by rw [hw]; exact HP81.2); have hp_ : Kd.R (Kd.int .i64) 3 w82 w.heap.size (fun k_ => some k_ ≠ (u9 : Value).ownBlock ∧ some k_ ≠ (.slice (some ad138) t135.length co60 : Value).ownBlock) (.slice (some ⟨go28, 0, none⟩) x7_4.length co20) y142 := (by rw [hw, Ny142.out]; exact HP81.1); clear HP81; have n0_ := Aside0.mk (hp_); have n1_ := Aside0.mk (Kd.R_after (v := (.slice (some ⟨go28, 0, none⟩) x7_4.length co20)) (v1 := (.slice (some ⟨go28, 0, none⟩) x7_4.length co20)) (ok := (fun k_ => some k_ ≠ (.slice (some ad138) t135.length co60 : Value).ownBlock)) (by (with_reducible repeat (first | apply Kd.R_alloc | apply Kd.R_drewN | apply Kd.R_drew)); exact Kd.R_mono HO_9.out (fun _ hk => ⟨hk.2, hk.1⟩)) hg (.inl rfl)); have n2_ := Aside0.mk (Kd.R_after (v := (.slice (some ⟨go28, 0, none⟩) x7_4.length co20)) (v1 := (.slice (some ⟨go28, 0, none⟩) x7_4.length co20)) (ok := (fun k_ => some k_ ≠ (u9 : Value).ownBlock)) (by (with_reducible repeat (first | apply Kd.R_alloc | apply Kd.R_drewN | apply Kd.R_drew)); exact Kd.R_mono HO_87.out (fun _ hk => ⟨hk.2, hk.1⟩)) hg (.inl rfl)); have n3_ := Aside0.mk (blk_grown (g := gb114) (o := .cells #[.slice (some ad115) l0_0.length c0_0, .int .i64 a0_1] 24 (0, 0)) (by (with_reducible repeat (first | refine blk_drewN ?_ _ | refine blk_drew ?_ | refine blk_alloc ?_ _)); exact BK114.out) hg (Kd.R_ne HO_7.out BK114.out (by decide))); have n4_ := Aside0.mk (blk_grown (g := gb116) (o := .cells #[.int .i64 ((rd_T29 l0_0 a1).f0), .int .i64 ((rd_T29 l0_0 a1).f1), .slice (some ad129) ((rd_T29 l0_0 a1).f2).length c115_2] 29 (0, 0)) (by (with_reducible repeat (first | refine blk_drewN ?_ _ | refine blk_drew ?_ | refine blk_alloc ?_ _)); exact BK116.out) hg (Kd.R_ne HO_7.out BK116.out (by decide))); have n5_ := Aside0.mk (blk_grown (g := gb130) (o := .cells #[.int .i64 ((rd_T26 ((rd_T29 l0_0 a1).f2) (rd x9_2 (ji34))).f0), .int .i64 ((rd_T26 ((rd_T29 l0_0 a1).f2) (rd x9_2 (ji34))).f1)] 26 (0, 0)) (by (with_reducible repeat (first | refine blk_drewN ?_ _ | refine blk_drew ?_ | refine blk_alloc ?_ _)); exact BK130.out) hg (Kd.R_ne HO_7.out BK130.out (by decide))); have n6_ := Aside0.mk ((by rw [hw]; exact below_set (HB.out) GB28.out : Below w.heap.size w w82)); clear HO_7; clear HO_9; clear HO_87; clear BK114; clear BK116; clear BK130; clear HB; have HO_7 := n0_; have HO_9 := n1_; have HO_87 := n2_; have BK114 := n3_; have BK116 := n4_; have BK130 := n5_; have HB := n6_; clear n0_ n1_ n2_ n3_ n4_ n5_ n6_; clear hg hw hp_) | ((with_reducible refine gate_builtin (b := .append) (xs := #[.tmp 120, .tmp 122]) rfl ?_); at_builtin; refine Kd.R_append (Kd.int .i64) (w0 := w) w.heap.size rfl (.tmp 120) (.tmp 122) 36 3 (.int .i64 0) 8 rfl Try.underlying36 info3 rfl (by decide) (by omega) u9 x9_4 (rd t135 x89_4) [.int .i64 (rd t135 x89_4)] (fun k_ => some k_ ≠ (.slice (some ⟨go28, 0, none⟩) x7_4.length co20 : Value).ownBlock ∧ some k_ ≠ (.slice (some ad138) t135.length co60 : Value).ownBlock) (fun _ => False) rfl rfl ?aP (fun _ hk => hk.elim) ?aF ?aO ?aB ?aS ?aL ?_; (case aP => exact rfl); (case aB => exact (by repeat (first | (with_reducible first | exact HB.out | apply below_alloc | apply pw_below_drewN | apply below_drew1 | refine below_set ?_ GE114.out | refine below_set ?_ GE116.out | refine below_set ?_ GE130.out) | exact HB.out))); (case aF => exact (fun k_ hk => ⟨Kd.fresh' (Kd.R_lt (by (with_reducible repeat (first | apply Kd.R_alloc | apply Kd.R_drewN | apply Kd.R_drew)); exact HO_7.out)) k_ hk, Kd.fresh' (Kd.R_lt (by (with_reducible repeat (first | apply Kd.R_alloc | apply Kd.R_drewN | apply Kd.R_drew)); exact HO_87.out)) k_ hk⟩)); (case aO => exact (by (with_reducible repeat (first | apply Kd.R_alloc | apply Kd.R_drewN | apply Kd.R_drew)); exact Kd.R_mono HO_9.out (fun _ hk => ⟨hk.2, hk.1⟩))); (case aS => exact (below_size (by repeat (first | (with_reducible first | exact HB.out | apply below_alloc | apply pw_below_drewN | apply below_drew1 | refine below_set ?_ GE114.out | refine below_set ?_ GE116.out | refine below_set ?_ GE130.out) | exact HB.out)))); (case aL => have := LMc80.out; omega); intro v144 w83 ho hb hg hat; rw [← Ny143.out] at ho; have n0_ := Aside0.mk (Kd.R_after (ok := (fun k_ => some k_ ≠ (.slice (some ad138) t135.length co60 : Value).ownBlock)) (by (with_reducible repeat (first | apply Kd.R_alloc | apply Kd.R_drewN | apply Kd.R_drew)); exact Kd.R_mono HO_7.out (fun _ hk => ⟨hk.2, hk.1⟩)) hg hat); have n1_ := Aside0.mk (Kd.R_after (ok := (fun k_ => some k_ ≠ (.slice (some ⟨go28, 0, none⟩) x7_4.length co20 : Value).ownBlock)) (by (with_reducible repeat (first | apply Kd.R_alloc | apply Kd.R_drewN | apply Kd.R_drew)); exact Kd.R_mono HO_87.out (fun _ hk => ⟨hk.2, hk.1⟩)) hg hat); have n2_ := Aside0.mk (blk_grown (g := gb114) (o := .cells #[.slice (some ad115) l0_0.length c0_0, .int .i64 a0_1] 24 (0, 0)) (by (with_reducible repeat (first | refine blk_drewN ?_ _ | refine blk_drew ?_ | refine blk_alloc ?_ _)); exact BK114.out) hg (Kd.R_ne HO_9.out BK114.out (by decide))); have n3_ := Aside0.mk (blk_grown (g := gb116) (o := .cells #[.int .i64 ((rd_T29 l0_0 a1).f0), .int .i64 ((rd_T29 l0_0 a1).f1), .slice (some ad129) ((rd_T29 l0_0 a1).f2).length c115_2] 29 (0, 0)) (by (with_reducible repeat (first | refine blk_drewN ?_ _ | refine blk_drew ?_ | refine blk_alloc ?_ _)); exact BK116.out) hg (Kd.R_ne HO_9.out BK116.out (by decide))); have n4_ := Aside0.mk (blk_grown (g := gb130) (o := .cells #[.int .i64 ((rd_T26 ((rd_T29 l0_0 a1).f2) (rd x9_2 (ji34))).f0), .int .i64 ((rd_T26 ((rd_T29 l0_0 a1).f2) (rd x9_2 (ji34))).f1)] 26 (0, 0)) (by (with_reducible repeat (first | refine blk_drewN ?_ _ | refine blk_drew ?_ | refine blk_alloc ?_ _)); exact BK130.out) hg (Kd.R_ne HO_9.out BK130.out (by decide))); have n5_ := Aside0.mk (hb); have n6_ := Aside0.mk (ho); clear HO_7; clear HO_87; clear BK114; clear BK116; clear BK130; clear HB; clear HO_9; have HO_7 := n0_; have HO_87 := n1_; have BK114 := n2_; have BK116 := n3_; have BK130 := n4_; have HB := n5_; have HO145 := n6_; clear n0_ n1_ n2_ n3_ n4_ n5_ n6_; clear ho hb hg hat))
                                   (try simp only [← hl7_4])
                                   go_roundg kj67
                                   case measure => have := HK1.out; have := HK2.out; have := HJ41.out; have := HK4.out; have := HJ67.out; omega
                                   case rel => exact ⟨(y142), (y143), (wrap64 (x89_4 + 1)), (by first | rfl | (simp; done) | (simp [*]; done)), H', ⟨by have := HK1.out; have := HK2.out; have := HJ41.out; have := HK4.out; have := HJ67.out; omega⟩, ⟨by (try simp only [hl7_1]); (try simp only [hl7_2]); (try simp only [hl7_4]); (with_reducible repeat (first | apply Kd.R_alloc | apply Kd.R_drewN | apply Kd.R_drew)); exact Kd.R_mono HO_7.out (fun _ hk => ⟨hk.2, hk.1⟩)⟩, ⟨by (try simp only [hl7_1]); (try simp only [hl7_2]); (try simp only [hl7_4]); (with_reducible repeat (first | apply Kd.R_alloc | apply Kd.R_drewN | apply Kd.R_drew)); exact HO145.out⟩, ⟨by (try simp only [hl7_1]); (try simp only [hl7_2]); (try simp only [hl7_4]); (with_reducible repeat (first | apply Kd.R_alloc | apply Kd.R_drewN | apply Kd.R_drew)); exact HO_87.out⟩, ⟨by (try simp only [hl7_1]); (try simp only [hl7_2]); (try simp only [hl7_4]); (with_reducible repeat (first | refine blk_drewN ?_ _ | refine blk_drew ?_ | refine blk_alloc ?_ _)); exact BK114.out⟩, ⟨by (try simp only [hl7_1]); (try simp only [hl7_2]); (try simp only [hl7_4]); (with_reducible repeat (first | refine blk_drewN ?_ _ | refine blk_drew ?_ | refine blk_alloc ?_ _)); exact BK116.out⟩, ⟨by (try simp only [hl7_1]); (try simp only [hl7_2]); (try simp only [hl7_4]); (with_reducible repeat (first | refine blk_drewN ?_ _ | refine blk_drew ?_ | refine blk_alloc ?_ _)); exact BK130.out⟩, ⟨by repeat (first | (with_reducible first | exact HB.out | apply below_alloc | apply pw_below_drewN | apply below_drew1 | refine below_set ?_ GE114.out | refine below_set ?_ GE116.out | refine below_set ?_ GE130.out) | exact HB.out)⟩⟩
                                  ·rw [if_neg c80] at H
                                   exact absurd H (by simp)
                                 ·rw [if_neg c78] at H
                                  have c78b0 : decide ((rd x7_4 (rd t135 x89_4)) < 0) = false := decide_eq_false c78
                                  clear c78
                                  have H' := Aside0.mk H
                                  clear H
                                  have p141 : 0 ≤ ((rd t135 x89_4) : Int) := of_decide_eq_true (by first | (with_reducible assumption) | assumption)
                                  have q141 : (rd t135 x89_4) < (x7_4.length : Int) := of_decide_eq_true (by first | (with_reducible assumption) | assumption)
                                  obtain ⟨ad141, e141, hx141_0⟩ := Kd.at_int (Kd.R_reads' HO_7.out).2.2 (rd t135 x89_4) p141 q141
                                  obtain rfl : (⟨go28, 0, none⟩ : Addr) = ad141 := (by injection e141)
                                  (first | simp only [add_plain] at hx141_0 | simp only [add_at] at hx141_0 | simp only [Addr.add, Nat.zero_add] at hx141_0 | skip)
                                  replace p141 := eq_true p141
                                  replace q141 := eq_true q141
                                  go_wp2
                                  (try simp only [← hl7_4])
                                  go_roundg kj67
                                  case measure => have := HK1.out; have := HK2.out; have := HJ41.out; have := HK4.out; have := HJ67.out; omega
                                  case rel => exact ⟨(x7_4), (x9_4), (wrap64 (x89_4 + 1)), (by first | rfl | (simp; done) | (simp [*]; done)), H', ⟨by have := HK1.out; have := HK2.out; have := HJ41.out; have := HK4.out; have := HJ67.out; omega⟩, ⟨by (try simp only [hl7_1]); (try simp only [hl7_2]); (try simp only [hl7_4]); (with_reducible repeat (first | apply Kd.R_alloc | apply Kd.R_drewN | apply Kd.R_drew)); exact HO_7.out⟩, ⟨by (try simp only [hl7_1]); (try simp only [hl7_2]); (try simp only [hl7_4]); (with_reducible repeat (first | apply Kd.R_alloc | apply Kd.R_drewN | apply Kd.R_drew)); exact HO_9.out⟩, ⟨by (try simp only [hl7_1]); (try simp only [hl7_2]); (try simp only [hl7_4]); (with_reducible repeat (first | apply Kd.R_alloc | apply Kd.R_drewN | apply Kd.R_drew)); exact HO_87.out⟩, ⟨by (try simp only [hl7_1]); (try simp only [hl7_2]); (try simp only [hl7_4]); (with_reducible repeat (first | refine blk_drewN ?_ _ | refine blk_drew ?_ | refine blk_alloc ?_ _)); exact BK114.out⟩, ⟨by (try simp only [hl7_1]); (try simp only [hl7_2]); (try simp only [hl7_4]); (with_reducible repeat (first | refine blk_drewN ?_ _ | refine blk_drew ?_ | refine blk_alloc ?_ _)); exact BK116.out⟩, ⟨by (try simp only [hl7_1]); (try simp only [hl7_2]); (try simp only [hl7_4]); (with_reducible repeat (first | refine blk_drewN ?_ _ | refine blk_drew ?_ | refine blk_alloc ?_ _)); exact BK130.out⟩, ⟨by repeat (first | (with_reducible first | exact HB.out | apply below_alloc | apply pw_below_drewN | apply below_drew1 | refine below_set ?_ GE114.out | refine below_set ?_ GE116.out | refine below_set ?_ GE130.out) | exact HB.out)⟩⟩
                                ·rw [if_neg c77] at H
                                 exact absurd H (by simp)
                               ·rw [if_neg c76] at H
                                exact absurd H (by simp)
                          ·rw [if_neg c63] at H
                           exact absurd H (by simp)
                         ·rw [if_neg c62] at H
                          exact absurd H (by simp)
                        ·rw [if_neg c61] at H
                         have c61b0 : decide (x89_4 < (t135.length : Int)) = false := decide_eq_false c61
                         clear c61
                         (try rw [hl7_1] at c61b0)
                         (try rw [hl7_2] at c61b0)
                         (try rw [hl7_4] at c61b0)
                         have H' := Aside0.mk H
                         clear H
                         go_wp2
                         (try simp only [← hl7_2, ← hl7_4])
                         go_roundg k4
                         case measure => have := HK1.out; have := HK2.out; have := HJ41.out; have := HK4.out; omega
                         case rel => exact ⟨(x7_4), (x9_4), H', ⟨by have := HK1.out; have := HK2.out; have := HJ41.out; have := HK4.out; omega⟩, ⟨by (try simp only [hl7_1]); (try simp only [hl7_2]); (try simp only [hl7_4]); (with_reducible repeat (first | apply Kd.R_alloc | apply Kd.R_drewN | apply Kd.R_drew)); exact Kd.R_mono HO_7.out (fun _ hk => hk.1)⟩, ⟨by (try simp only [hl7_1]); (try simp only [hl7_2]); (try simp only [hl7_4]); (with_reducible repeat (first | apply Kd.R_alloc | apply Kd.R_drewN | apply Kd.R_drew)); exact Kd.R_mono HO_9.out (fun _ hk => hk.1)⟩, ⟨by (try simp only [hl7_1]); (try simp only [hl7_2]); (try simp only [hl7_4]); (with_reducible repeat (first | refine blk_drewN ?_ _ | refine blk_drew ?_ | refine blk_alloc ?_ _)); exact BK114.out⟩, ⟨by (try simp only [hl7_1]); (try simp only [hl7_2]); (try simp only [hl7_4]); (with_reducible repeat (first | refine blk_drewN ?_ _ | refine blk_drew ?_ | refine blk_alloc ?_ _)); exact BK116.out⟩, ⟨by repeat (first | (with_reducible first | exact HB.out | apply below_alloc | apply pw_below_drewN | apply below_drew1 | refine below_set ?_ GE114.out | refine below_set ?_ GE116.out | refine below_set ?_ GE130.out) | exact HB.out)⟩⟩
                  ·rw [if_neg c41] at H
                   exact absurd H (by simp)
                 ·rw [if_neg c39] at H
                  exact absurd H (by simp)
                ·rw [if_neg c38] at H
                 exact absurd H (by simp)
               ·rw [if_neg c37] at H
                exact absurd H (by simp)
              ·rw [if_neg c36] at H
               exact absurd H (by simp)
             ·rw [if_neg c35] at H
              exact absurd H (by simp)
            ·rw [if_neg c33] at H
             have c33b0 : decide (0 < (x9_2.length : Int)) = false := decide_eq_false c33
             have c33b1 : decide (0 < x9_2.length) = false := decide_eq_false (by omega)
             clear c33
             (try rw [hl7_1] at c33b0)
             (try rw [hl7_1] at c33b1)
             (try rw [hl7_2] at c33b0)
             (try rw [hl7_2] at c33b1)
             simp only [Option.some.injEq, Prod.mk.injEq] at H
             obtain ⟨rfl, rfl⟩ := H
             obtain ⟨Ao84, co84, eo84⟩ := Kd.R_slice HO_9.out
             subst eo84
             go_wp2
             go_ret2
             exact ⟨_, by first | rfl | (simp [errW_none, errW_some] <;> rfl) | (simp [*, errW_none, errW_some] <;> rfl), by (with_reducible repeat (first | apply Kd.R_alloc | apply Kd.R_drewN | apply Kd.R_drew)); exact Kd.R_mono HO_7.out (fun _ hk => trivial), by repeat (first | (with_reducible first | exact HB.out | apply below_alloc | apply pw_below_drewN | apply below_drew1 | refine below_set ?_ GE114.out | refine below_set ?_ GE116.out) | exact HB.out)⟩
         ·rw [if_neg c27] at H
          exact absurd H (by simp)
     ·rw [if_neg c12] at H
      exact absurd H (by simp)
    ·rw [if_neg c11] at H
     exact absurd H (by simp)
  ·rw [if_neg c4] at H
   exact absurd H (by simp)
 ·rw [if_neg c3] at H
  exact absurd H (by simp)

end Go.Proofs.Ytkoopdoeehoigaa.PSoundTells
