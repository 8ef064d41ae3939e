-- Printed by a program: the print with changes of this session (wip/printpatch.py).
import Derived.Test.YtkoopdoeehoigaaPSoundTellsx0
import Derived.Test.YtkoopdoeehoigaaPSoundTellsx5
import Derived.Test.YtkoopdoeehoigaaPSoundTellsx6
namespace Go.Proofs.Ytkoopdoeehoigaa.PSoundTells
open Go.Proofs.Ytkoopdoeehoigaa.Fnv Go.Proofs.Ytkoopdoeehoigaa.Ary
open Go.RowKit Go.Proofs.YtkoopdoeehoigaaW.PrintWords Go.Proofs.YtkoopdoeehoigaaW.PrintLast Go.Proofs.YtkoopdoeehoigaaW.PrintMore
attribute [local go_sem] max2_int min2_int max_two min_two max_three min_three max_four min_four   -- for this text's walks alone
set_option linter.unusedVariables false
set_option linter.unusedSimpArgs false

/-! ### tourref5_ProgFault: function 11 -/
mutual
def tourref5_ProgFault.l0 : Nat → Bool → List (S29) → Int → Int → List (S29) → Int → Option ((List (List Int)) × Int)
 | 0, _, _, _, _, _, _ => none
 | k + 1, x4, x25, x26, x27, x174000, x174001 => if x27 < x26 then (if 0 ≤ x27 then (if x27 < (x25.length : Int) then (if x4 = true then (tourref5_ProgFault.l0 k true x25 x26 (wrap64 (x27 + 1)) x174000 x174001) else (if ((rd_T29 x25 x27).f0) > 6 then (tourref5_ProgFault.l0 k true x25 x26 (wrap64 (x27 + 1)) x174000 x174001) else (if ((rd_T29 x25 x27).f1) > 64 then (tourref5_ProgFault.l0 k true x25 x26 (wrap64 (x27 + 1)) x174000 x174001) else (tourref5_ProgFault.l0 k (decide ((((rd_T29 x25 x27).f2).length : Int) > 4000)) x25 x26 (wrap64 (x27 + 1)) x174000 x174001)))) else (none)) else (none)) else (if x4 = true then (some (([] : List (List Int)), 2)) else (if x174001 < 0 then (tourref5_ProgFault.j1 k true x174000 x174001) else (if x174001 ≥ (x174000.length : Int) then (tourref5_ProgFault.j1 k true x174000 x174001) else (if 0 ≤ x174001 then (if x174001 < (x174000.length : Int) then (tourref5_ProgFault.j1 k (((rd_T29 x174000 x174001).f0) != 0) x174000 x174001) else (none)) else (none)))))
def tourref5_ProgFault.j1 : Nat → Bool → List (S29) → Int → Option ((List (List Int)) × Int)
 | 0, _, _, _ => none
 | k + 1, x70, x174000, x174001 => if x70 = true then (some (([] : List (List Int)), 16)) else (tourref5_ProgFault.l1 k x174000 (x174000.length : Int) 0 x174000 x174001)
def tourref5_ProgFault.l1 : Nat → List (S29) → Int → Int → List (S29) → Int → Option ((List (List Int)) × Int)
 | 0, _, _, _, _, _ => none
 | k + 1, x72, x73, x74, x174000, x174001 => if x74 < x73 then (if 0 ≤ x74 then (if x74 < (x72.length : Int) then (if ((rd_T29 x72 x74).f0) < 0 then (tourref5_ProgFault.j3 k x72 x73 x74 true x174000 x174001 ((rd_T29 x72 x74).f0) ((rd_T29 x72 x74).f1) ((rd_T29 x72 x74).f2)) else (tourref5_ProgFault.j3 k x72 x73 x74 (decide (((rd_T29 x72 x74).f0) > ((rd_T29 x72 x74).f1))) x174000 x174001 ((rd_T29 x72 x74).f0) ((rd_T29 x72 x74).f1) ((rd_T29 x72 x74).f2))) else (none)) else (none)) else (tourref5_ProgFault.l3 k ([] : List (List Int)) x174000 (x174000.length : Int) 0 x174000 x174001)
def tourref5_ProgFault.j3 : Nat → List (S29) → Int → Int → Bool → List (S29) → Int → Int → Int → List (S26) → Option ((List (List Int)) × Int)
 | 0, _, _, _, _, _, _, _, _, _ => none
 | k + 1, x72, x73, x74, x87, x174000, x174001, x179000, x179001, x179002 => if x87 = true then (some (([] : List (List Int)), 3)) else (tourref5_ProgFault.l2 k x72 x73 x74 x179002 (x179002.length : Int) 0 x174000 x174001 x179000 x179001 x179002)
def tourref5_ProgFault.l2 : Nat → List (S29) → Int → Int → List (S26) → Int → Int → List (S29) → Int → Int → Int → List (S26) → Option ((List (List Int)) × Int)
 | 0, _, _, _, _, _, _, _, _, _, _, _ => none
 | k + 1, x72, x73, x74, x89, x90, x91, x174000, x174001, x179000, x179001, x179002 => if x91 < x90 then (if 0 ≤ x91 then (if x91 < (x89.length : Int) then ((tourref5_opOf.f x174000 x174001 x179000 x179001 x179002 ((rd_T26 x89 x91).f0) ((rd_T26 x89 x91).f1)).bind fun bt181 => (if bt181.2.2.2 = true then (if ((rd_T26 x89 x91).f0) = 1 then (if ((rd_T26 x89 x91).f0) = 20 then (if bt181.1 > 6 then (some (([] : List (List Int)), 1)) else (tourref5_ProgFault.l2 k x72 x73 x74 x89 x90 (wrap64 (x91 + 1)) x174000 x174001 x179000 x179001 x179002)) else (tourref5_ProgFault.l2 k x72 x73 x74 x89 x90 (wrap64 (x91 + 1)) x174000 x174001 x179000 x179001 x179002)) else (if ((rd_T26 x89 x91).f1) < 0 then (some (([] : List (List Int)), 1)) else (if ((rd_T26 x89 x91).f1) ≥ bt181.2.2.1 then (some (([] : List (List Int)), 1)) else (if ((rd_T26 x89 x91).f0) = 20 then (if bt181.1 > 6 then (some (([] : List (List Int)), 1)) else (tourref5_ProgFault.l2 k x72 x73 x74 x89 x90 (wrap64 (x91 + 1)) x174000 x174001 x179000 x179001 x179002)) else (tourref5_ProgFault.l2 k x72 x73 x74 x89 x90 (wrap64 (x91 + 1)) x174000 x174001 x179000 x179001 x179002))))) else (some (([] : List (List Int)), 3)))) else (none)) else (none)) else (tourref5_ProgFault.l1 k x72 x73 (wrap64 (x74 + 1)) x174000 x174001)
def tourref5_ProgFault.l3 : Nat → List (List Int) → List (S29) → Int → Int → List (S29) → Int → Option ((List (List Int)) × Int)
 | 0, _, _, _, _, _, _ => none
 | k + 1, x15, x132, x133, x134, x174000, x174001 => if x134 < x133 then (if 0 ≤ x134 then (if x134 < (x132.length : Int) then ((tourref5_heightsOf.f k x174000 x174001 ((rd_T29 x132 x134).f0) ((rd_T29 x132 x134).f1) ((rd_T29 x132 x134).f2)).bind fun bt187 => (if bt187.2 = 0 then (if x15.length < 5864062014805 then (tourref5_ProgFault.l3 k (x15 ++ [bt187.1]) x132 x133 (wrap64 (x134 + 1)) x174000 x174001) else (none)) else (some (([] : List (List Int)), bt187.2)))) else (none)) else (none)) else (some (x15, 0))
end
def tourref5_ProgFault.f (k : Nat) (l0_0 : List (S29)) (a0_1 : Int) : Option ((List (List Int)) × Int) := tourref5_ProgFault.l0 k (decide ((l0_0.length : Int) > 16)) l0_0 (l0_0.length : Int) 0 l0_0 a0_1
theorem tourref5_ProgFault.mono_l : ∀ k, (∀ y0 y1 y2 y3 y4 y5, LeO (tourref5_ProgFault.l0 k y0 y1 y2 y3 y4 y5) (tourref5_ProgFault.l0 (k + 1) y0 y1 y2 y3 y4 y5)) ∧ (∀ y0 y1 y2, LeO (tourref5_ProgFault.j1 k y0 y1 y2) (tourref5_ProgFault.j1 (k + 1) y0 y1 y2)) ∧ (∀ y0 y1 y2 y3 y4, LeO (tourref5_ProgFault.l1 k y0 y1 y2 y3 y4) (tourref5_ProgFault.l1 (k + 1) y0 y1 y2 y3 y4)) ∧ (∀ y0 y1 y2 y3 y4 y5 y6 y7 y8, LeO (tourref5_ProgFault.j3 k y0 y1 y2 y3 y4 y5 y6 y7 y8) (tourref5_ProgFault.j3 (k + 1) y0 y1 y2 y3 y4 y5 y6 y7 y8)) ∧ (∀ y0 y1 y2 y3 y4 y5 y6 y7 y8 y9 y10, LeO (tourref5_ProgFault.l2 k y0 y1 y2 y3 y4 y5 y6 y7 y8 y9 y10) (tourref5_ProgFault.l2 (k + 1) y0 y1 y2 y3 y4 y5 y6 y7 y8 y9 y10)) ∧ (∀ y0 y1 y2 y3 y4 y5, LeO (tourref5_ProgFault.l3 k y0 y1 y2 y3 y4 y5) (tourref5_ProgFault.l3 (k + 1) y0 y1 y2 y3 y4 y5))
 | 0 => ⟨fun _ _ _ _ _ _ r h => by simp [tourref5_ProgFault.l0] at h, fun _ _ _ r h => by simp [tourref5_ProgFault.j1] at h, fun _ _ _ _ _ r h => by simp [tourref5_ProgFault.l1] at h, fun _ _ _ _ _ _ _ _ _ r h => by simp [tourref5_ProgFault.j3] at h, fun _ _ _ _ _ _ _ _ _ _ _ r h => by simp [tourref5_ProgFault.l2] at h, fun _ _ _ _ _ _ r h => by simp [tourref5_ProgFault.l3] at h⟩
 | k + 1 => by
  obtain ⟨ih0, ih1, ih2, ih3, ih4, ih5⟩ := tourref5_ProgFault.mono_l k
  refine ⟨?_, ?_, ?_, ?_, ?_, ?_⟩
  ·intro y0 y1 y2 y3 y4 y5
   unfold tourref5_ProgFault.l0
   repeat' first
   | (with_reducible exact ih0 _ _ _ _ _ _)
   | (with_reducible exact ih1 _ _ _)
   | (with_reducible exact ih2 _ _ _ _ _)
   | (with_reducible exact ih3 _ _ _ _ _ _ _ _ _)
   | (with_reducible exact ih4 _ _ _ _ _ _ _ _ _ _ _)
   | (with_reducible exact ih5 _ _ _ _ _ _)
   | (with_reducible exact tourref5_heightsOf.mono _ _ _ _ _ _)
   | (with_reducible exact LeO.refl _)
   | (with_reducible exact LeO.none _)
   | (with_reducible refine LeO.ite ?_ ?_)
   | (with_reducible refine LeO.bind ?_ (fun _ => ?_))
   | exact ih0 _ _ _ _ _ _
   | exact ih1 _ _ _
   | exact ih2 _ _ _ _ _
   | exact ih3 _ _ _ _ _ _ _ _ _
   | exact ih4 _ _ _ _ _ _ _ _ _ _ _
   | exact ih5 _ _ _ _ _ _
   | exact tourref5_heightsOf.mono _ _ _ _ _ _
   | exact LeO.none _
   | refine LeO.ite ?_ ?_
   | refine LeO.bind ?_ (fun _ => ?_)
  ·intro y0 y1 y2
   unfold tourref5_ProgFault.j1
   repeat' first
   | (with_reducible exact ih0 _ _ _ _ _ _)
   | (with_reducible exact ih1 _ _ _)
   | (with_reducible exact ih2 _ _ _ _ _)
   | (with_reducible exact ih3 _ _ _ _ _ _ _ _ _)
   | (with_reducible exact ih4 _ _ _ _ _ _ _ _ _ _ _)
   | (with_reducible exact ih5 _ _ _ _ _ _)
   | (with_reducible exact tourref5_heightsOf.mono _ _ _ _ _ _)
   | (with_reducible exact LeO.refl _)
   | (with_reducible exact LeO.none _)
   | (with_reducible refine LeO.ite ?_ ?_)
   | (with_reducible refine LeO.bind ?_ (fun _ => ?_))
   | exact ih0 _ _ _ _ _ _
   | exact ih1 _ _ _
   | exact ih2 _ _ _ _ _
   | exact ih3 _ _ _ _ _ _ _ _ _
   | exact ih4 _ _ _ _ _ _ _ _ _ _ _
   | exact ih5 _ _ _ _ _ _
   | exact tourref5_heightsOf.mono _ _ _ _ _ _
   | exact LeO.none _
   | refine LeO.ite ?_ ?_
   | refine LeO.bind ?_ (fun _ => ?_)
  ·intro y0 y1 y2 y3 y4
   unfold tourref5_ProgFault.l1
   repeat' first
   | (with_reducible exact ih0 _ _ _ _ _ _)
   | (with_reducible exact ih1 _ _ _)
   | (with_reducible exact ih2 _ _ _ _ _)
   | (with_reducible exact ih3 _ _ _ _ _ _ _ _ _)
   | (with_reducible exact ih4 _ _ _ _ _ _ _ _ _ _ _)
   | (with_reducible exact ih5 _ _ _ _ _ _)
   | (with_reducible exact tourref5_heightsOf.mono _ _ _ _ _ _)
   | (with_reducible exact LeO.refl _)
   | (with_reducible exact LeO.none _)
   | (with_reducible refine LeO.ite ?_ ?_)
   | (with_reducible refine LeO.bind ?_ (fun _ => ?_))
   | exact ih0 _ _ _ _ _ _
   | exact ih1 _ _ _
   | exact ih2 _ _ _ _ _
   | exact ih3 _ _ _ _ _ _ _ _ _
   | exact ih4 _ _ _ _ _ _ _ _ _ _ _
   | exact ih5 _ _ _ _ _ _
   | exact tourref5_heightsOf.mono _ _ _ _ _ _
   | exact LeO.none _
   | refine LeO.ite ?_ ?_
   | refine LeO.bind ?_ (fun _ => ?_)
  ·intro y0 y1 y2 y3 y4 y5 y6 y7 y8
   unfold tourref5_ProgFault.j3
   repeat' first
   | (with_reducible exact ih0 _ _ _ _ _ _)
   | (with_reducible exact ih1 _ _ _)
   | (with_reducible exact ih2 _ _ _ _ _)
   | (with_reducible exact ih3 _ _ _ _ _ _ _ _ _)
   | (with_reducible exact ih4 _ _ _ _ _ _ _ _ _ _ _)
   | (with_reducible exact ih5 _ _ _ _ _ _)
   | (with_reducible exact tourref5_heightsOf.mono _ _ _ _ _ _)
   | (with_reducible exact LeO.refl _)
   | (with_reducible exact LeO.none _)
   | (with_reducible refine LeO.ite ?_ ?_)
   | (with_reducible refine LeO.bind ?_ (fun _ => ?_))
   | exact ih0 _ _ _ _ _ _
   | exact ih1 _ _ _
   | exact ih2 _ _ _ _ _
   | exact ih3 _ _ _ _ _ _ _ _ _
   | exact ih4 _ _ _ _ _ _ _ _ _ _ _
   | exact ih5 _ _ _ _ _ _
   | exact tourref5_heightsOf.mono _ _ _ _ _ _
   | exact LeO.none _
   | refine LeO.ite ?_ ?_
   | refine LeO.bind ?_ (fun _ => ?_)
  ·intro y0 y1 y2 y3 y4 y5 y6 y7 y8 y9 y10
   unfold tourref5_ProgFault.l2
   repeat' first
   | (with_reducible exact ih0 _ _ _ _ _ _)
   | (with_reducible exact ih1 _ _ _)
   | (with_reducible exact ih2 _ _ _ _ _)
   | (with_reducible exact ih3 _ _ _ _ _ _ _ _ _)
   | (with_reducible exact ih4 _ _ _ _ _ _ _ _ _ _ _)
   | (with_reducible exact ih5 _ _ _ _ _ _)
   | (with_reducible exact tourref5_heightsOf.mono _ _ _ _ _ _)
   | (with_reducible exact LeO.refl _)
   | (with_reducible exact LeO.none _)
   | (with_reducible refine LeO.ite ?_ ?_)
   | (with_reducible refine LeO.bind ?_ (fun _ => ?_))
   | exact ih0 _ _ _ _ _ _
   | exact ih1 _ _ _
   | exact ih2 _ _ _ _ _
   | exact ih3 _ _ _ _ _ _ _ _ _
   | exact ih4 _ _ _ _ _ _ _ _ _ _ _
   | exact ih5 _ _ _ _ _ _
   | exact tourref5_heightsOf.mono _ _ _ _ _ _
   | exact LeO.none _
   | refine LeO.ite ?_ ?_
   | refine LeO.bind ?_ (fun _ => ?_)
  ·intro y0 y1 y2 y3 y4 y5
   unfold tourref5_ProgFault.l3
   repeat' first
   | (with_reducible exact ih0 _ _ _ _ _ _)
   | (with_reducible exact ih1 _ _ _)
   | (with_reducible exact ih2 _ _ _ _ _)
   | (with_reducible exact ih3 _ _ _ _ _ _ _ _ _)
   | (with_reducible exact ih4 _ _ _ _ _ _ _ _ _ _ _)
   | (with_reducible exact ih5 _ _ _ _ _ _)
   | (with_reducible exact tourref5_heightsOf.mono _ _ _ _ _ _)
   | (with_reducible exact LeO.refl _)
   | (with_reducible exact LeO.none _)
   | (with_reducible refine LeO.ite ?_ ?_)
   | (with_reducible refine LeO.bind ?_ (fun _ => ?_))
   | exact ih0 _ _ _ _ _ _
   | exact ih1 _ _ _
   | exact ih2 _ _ _ _ _
   | exact ih3 _ _ _ _ _ _ _ _ _
   | exact ih4 _ _ _ _ _ _ _ _ _ _ _
   | exact ih5 _ _ _ _ _ _
   | exact tourref5_heightsOf.mono _ _ _ _ _ _
   | exact LeO.none _
   | refine LeO.ite ?_ ?_
   | refine LeO.bind ?_ (fun _ => ?_)
theorem tourref5_ProgFault.mono : ∀ a0 a1 k, LeO (tourref5_ProgFault.f k a0 a1) (tourref5_ProgFault.f (k + 1) a0 a1) := by
 intro a0 a1 k
 obtain ⟨ih0, ih1, ih2, ih3, ih4, ih5⟩ := tourref5_ProgFault.mono_l k
 unfold tourref5_ProgFault.f
 repeat' first
   | (with_reducible exact ih0 _ _ _ _ _ _)
   | (with_reducible exact ih1 _ _ _)
   | (with_reducible exact ih2 _ _ _ _ _)
   | (with_reducible exact ih3 _ _ _ _ _ _ _ _ _)
   | (with_reducible exact ih4 _ _ _ _ _ _ _ _ _ _ _)
   | (with_reducible exact ih5 _ _ _ _ _ _)
   | (with_reducible exact tourref5_heightsOf.mono _ _ _ _ _ _)
   | (with_reducible exact LeO.refl _)
   | (with_reducible exact LeO.none _)
   | (with_reducible refine LeO.ite ?_ ?_)
   | (with_reducible refine LeO.bind ?_ (fun _ => ?_))
   | exact ih0 _ _ _ _ _ _
   | exact ih1 _ _ _
   | exact ih2 _ _ _ _ _
   | exact ih3 _ _ _ _ _ _ _ _ _
   | exact ih4 _ _ _ _ _ _ _ _ _ _ _
   | exact ih5 _ _ _ _ _ _
   | exact tourref5_heightsOf.mono _ _ _ _ _ _
   | exact LeO.none _
   | refine LeO.ite ?_ ?_
   | refine LeO.bind ?_ (fun _ => ?_)
set_option maxHeartbeats 8000000 in
set_option maxRecDepth 100000 in
theorem tourref5_ProgFault.calls (k : Nat) (A0_0 : Option Addr) (c0_0 : Nat) (l0_0 : List (S29)) (a0_1 : Int) (r1 : List (List Int)) (r2 : Int) (w : World) (hr0_0 : Kd.C k29 w A0_0 l0_0.length l0_0) (hc0_0 : l0_0.length ≤ c0_0) (h : tourref5_ProgFault.f k l0_0 a0_1 = some (r1, r2)) :
  Calls Try.prog 11 #[.agg #[.slice A0_0 l0_0.length c0_0, .int .i64 a0_1]] w fun e w' => ∃ v0_ : Value, e = .returned (.tuple #[v0_, .int .i64 r2]) ∧ Kd.S (Kd.slice 3 (Kd.int .i64)) 36 w' w.heap.size (fun _ => True) v0_ r1 ∧ Below w.heap.size w w' := by
 have hu24 := Try.underlying24
 have hu29 := Try.underlying29
 have hu26 := Try.underlying26
 have HR0_0 := Aside0.mk hr0_0
 have HC0_0 := Aside0.mk hc0_0
 clear hr0_0 hc0_0
 have HB := Aside0.mk (Below.refl w.heap.size w)
 have H : (tourref5_ProgFault.l0 k (decide ((l0_0.length : Int) > 16)) l0_0 (l0_0.length : Int) 0 l0_0 a0_1) = some (r1, r2) := h
 clear h
 have H' := Aside0.mk H
 clear H
 go_enter Try.func11, Try.ntmps11
 go_wp2_with (first | ((with_reducible refine gate_dst (N := 1) rfl ?_); (try (refine gate_guard (by rfl) ?_; dsimp only)); refine box_event ?hg (N := 1) ?hd (cs := #[.slice A0_0 l0_0.length c0_0, .int .i64 a0_1]) (t := 24) ?hr ?_; (case hd => rfl); (case hg => rfl); (case hr => first | (go_simp; done) | (go_simp; rfl)); intro gb173 hg w2 hbox hb; have n0_ := Aside0.mk (below_step (by repeat (first | (with_reducible first | exact HB.out | apply below_alloc | apply pw_below_drewN | apply below_drew1) | exact HB.out)) hb); have n1_ := Aside0.mk (hbox); have n2_ := Aside0.mk ((by rw [hg]; exact (below_size (by repeat (first | (with_reducible first | exact HB.out | apply below_alloc | apply pw_below_drewN | apply below_drew1) | exact HB.out))) : w.heap.size ≤ gb173)); have n3_ := Aside0.mk ((by rw [hg]; exact (below_size (by repeat (first | (with_reducible first | exact HB.out | apply below_alloc | apply pw_below_drewN | apply below_drew1) | exact HB.out))) : w.heap.size ≤ gb173)); clear HB; have HB := n0_; have BK173 := n1_; have GW173 := n2_; have GE173 := n3_; clear n0_ n1_ n2_ n3_; clear hb hbox hg; obtain ⟨hcz3_0, hcz3_1⟩ := blk2 BK173.out; obtain ⟨hfz3_0, hfz3_1⟩ := frz2 BK173.out))
 go_loopg [4, 27] k (fun kq v4 v27 w' => ∃ (x4_1 : Bool) (x27_1 : Int), v4 = .bool x4_1 ∧ v27 = .int .i64 x27_1 ∧ Aside0 (tourref5_ProgFault.l0 kq x4_1 l0_0 (l0_0.length : Int) x27_1 l0_0 a0_1 = some (r1, r2)) ∧ Aside0 (kq ≤ k) ∧ Aside0 (w'.heap[gb173]? = some (.cells #[(.slice A0_0 l0_0.length c0_0), .int .i64 a0_1] 24 (0, 0))) ∧ Aside0 (Below w.heap.size w w'))
 case atStart => exact ⟨(decide ((l0_0.length : Int) > 16)), (0), (by first | rfl | (simp; done) | (simp [*]; done)), (by first | rfl | (simp; done) | (simp [*]; done)), H', ⟨Nat.le_refl _⟩, ⟨BK173.out⟩, ⟨by repeat (first | (with_reducible first | exact HB.out | apply below_alloc | apply pw_below_drewN | apply below_drew1 | refine below_set ?_ GE173.out) | exact HB.out)⟩⟩
 case round =>
  clear H'
  try clear c1; try clear p2; try clear hcz3_0; try clear hcz3_1; try clear hfz3_0; try clear hfz3_1
  obtain ⟨x4_1, x27_1, rfl, rfl, HA, HK1, BK173, HB⟩ := hrel
  cases gk with
  | zero => exact absurd HA.out (by simp [tourref5_ProgFault.l0])
  | succ k1 =>
   have H := HA.out
   clear HA
   simp only [tourref5_ProgFault.l0] at H
   by_cases c4 : x27_1 < (l0_0.length : Int)
   ·rw [if_pos c4] at H
    have c4b0 : decide (x27_1 < (l0_0.length : Int)) = true := decide_eq_true c4
    clear c4
    by_cases c5 : 0 ≤ x27_1
    ·rw [if_pos c5] at H
     have c5b0 : decide (0 ≤ x27_1) = true := decide_eq_true c5
     clear c5
     by_cases c6 : x27_1 < (l0_0.length : Int)
     ·rw [if_pos c6] at H
      have c6b0 : decide (x27_1 < (l0_0.length : Int)) = true := decide_eq_true c6
      clear c6
      by_cases c7 : x4_1 = true
      ·subst c7
       have H1 : (tourref5_ProgFault.l0 k1 true l0_0 (l0_0.length : Int) (wrap64 (x27_1 + 1)) l0_0 a0_1) = some (r1, r2) := by rw [if_pos rfl] at H; exact H
       clear H
       have H := H1
       clear H1
       have H' := Aside0.mk H
       clear H
       have p174 : 0 ≤ (x27_1 : Int) := of_decide_eq_true (by first | (with_reducible assumption) | assumption)
       have q174 : x27_1 < (l0_0.length : Int) := of_decide_eq_true (by first | (with_reducible assumption) | assumption)
       obtain ⟨ad174, A174_2, c174_2, e174, hx174_0, hx174_1, hx174_2, hl174_2, hi174_2⟩ := at_T29 HR0_0.out x27_1 p174 q174
       cases e174
       replace hx174_0 := (HB.out.cell (World.block_lt_of_cell? w _ hx174_0)).trans hx174_0
       replace hx174_1 := (HB.out.cell (World.block_lt_of_cell? w _ hx174_1)).trans hx174_1
       replace hx174_2 := (HB.out.cell (World.block_lt_of_cell? w _ hx174_2)).trans hx174_2
       have HR174_2 := Aside0.mk hi174_2
       have HC174_2 := Aside0.mk hl174_2
       clear hi174_2 hl174_2
       replace p174 := eq_true p174
       replace q174 := eq_true q174
       go_wp2_with (first | ((with_reducible refine gate_dst (N := 6) rfl ?_); (try (refine gate_guard (by rfl) ?_; dsimp only)); refine box_event ?hg (N := 6) ?hd (cs := #[.int .i64 0, .int .i64 0, .slice none 0 0]) (t := 29) ?hr ?_; (case hd => rfl); (case hg => rfl); (case hr => first | (go_simp; done) | (go_simp; rfl)); intro gb175 hg w8 hbox hb; have n0_ := Aside0.mk (bb hb BK173.out); have n1_ := Aside0.mk (below_step (by repeat (first | (with_reducible first | exact HB.out | apply below_alloc | apply pw_below_drewN | apply below_drew1 | refine below_set ?_ GE173.out) | exact HB.out)) hb); have n2_ := Aside0.mk (hbox); have n3_ := Aside0.mk ((by rw [hg]; exact (below_size (by repeat (first | (with_reducible first | exact HB.out | apply below_alloc | apply pw_below_drewN | apply below_drew1 | refine below_set ?_ GE173.out) | exact HB.out))) : w.heap.size ≤ gb175)); have n4_ := Aside0.mk ((by rw [hg]; exact (below_size (by repeat (first | (with_reducible first | exact HB.out | apply below_alloc | apply pw_below_drewN | apply below_drew1 | refine below_set ?_ GE173.out) | exact HB.out))) : w.heap.size ≤ gb175)); have n5_ := Aside0.mk (nl hg BK173.out); have n6_ := Aside0.mk (ng hg BK173.out); clear BK173; clear HB; have BK173 := n0_; have HB := n1_; have BK175 := n2_; have GW175 := n3_; have GE175 := n4_; have NB173_175 := n5_; have NB175_173 := n6_; clear n0_ n1_ n2_ n3_ n4_ n5_ n6_; clear hb hbox hg; have hnb9 := NB175_173.out; have hnc9 := NB173_175.out; have hcz10_0 : w8.cell? ⟨gb175, 0, none⟩ = some (.int .i64 0) := (blk_cell BK175.out 0).trans rfl; have hcz10_1 : w8.cell? ⟨gb175, 1, none⟩ = some (.int .i64 0) := (blk_cell BK175.out 1).trans rfl; have hcz10_2 : w8.cell? ⟨gb175, 2, none⟩ = some (.slice none 0 0) := (blk_cell BK175.out 2).trans rfl; have hfz10_0 := blk_frozen BK175.out 0; have hfz10_1 := blk_frozen BK175.out 1; have hfz10_2 := blk_frozen BK175.out 2))
       go_roundg k1
       case measure => have := HK1.out; omega
       case rel => exact ⟨(true), (wrap64 (x27_1 + 1)), (by first | rfl | (simp; done) | (simp [*]; done)), (by first | rfl | (simp; done) | (simp [*]; done)), H', ⟨by have := HK1.out; omega⟩, ⟨by (with_reducible repeat (first | refine blk_drewN ?_ _ | refine blk_drew ?_ | refine blk_alloc ?_ _)); refine blk_far ?_ NB173_175.out _; refine blk_far ?_ NB173_175.out _; refine blk_far ?_ NB173_175.out _; exact BK173.out⟩, ⟨by repeat (first | (with_reducible first | exact HB.out | apply below_alloc | apply pw_below_drewN | apply below_drew1 | refine below_set ?_ GE173.out | refine below_set ?_ GE175.out) | exact HB.out)⟩⟩
      ·replace c7 := Bool.eq_false_iff.mpr c7
       subst c7
       have H1 : (if ((rd_T29 l0_0 x27_1).f0) > 6 then (tourref5_ProgFault.l0 k1 true l0_0 (l0_0.length : Int) (wrap64 (x27_1 + 1)) l0_0 a0_1) else (if ((rd_T29 l0_0 x27_1).f1) > 64 then (tourref5_ProgFault.l0 k1 true l0_0 (l0_0.length : Int) (wrap64 (x27_1 + 1)) l0_0 a0_1) else (tourref5_ProgFault.l0 k1 (decide ((((rd_T29 l0_0 x27_1).f2).length : Int) > 4000)) l0_0 (l0_0.length : Int) (wrap64 (x27_1 + 1)) l0_0 a0_1))) = some (r1, r2) := by rw [if_neg (show ¬ (false = true) by decide)] at H; exact H
       clear H
       have H := H1
       clear H1
       by_cases c11 : ((rd_T29 l0_0 x27_1).f0) > 6
       ·rw [if_pos c11] at H
        have c11b0 : decide (6 < ((rd_T29 l0_0 x27_1).f0)) = true := decide_eq_true c11
        clear c11
        have H' := Aside0.mk H
        clear H
        have p174 : 0 ≤ (x27_1 : Int) := of_decide_eq_true (by first | (with_reducible assumption) | assumption)
        have q174 : x27_1 < (l0_0.length : Int) := of_decide_eq_true (by first | (with_reducible assumption) | assumption)
        obtain ⟨ad174, A174_2, c174_2, e174, hx174_0, hx174_1, hx174_2, hl174_2, hi174_2⟩ := at_T29 HR0_0.out x27_1 p174 q174
        cases e174
        replace hx174_0 := (HB.out.cell (World.block_lt_of_cell? w _ hx174_0)).trans hx174_0
        replace hx174_1 := (HB.out.cell (World.block_lt_of_cell? w _ hx174_1)).trans hx174_1
        replace hx174_2 := (HB.out.cell (World.block_lt_of_cell? w _ hx174_2)).trans hx174_2
        have HR174_2 := Aside0.mk hi174_2
        have HC174_2 := Aside0.mk hl174_2
        clear hi174_2 hl174_2
        replace p174 := eq_true p174
        replace q174 := eq_true q174
        go_wp2_with (first | ((with_reducible refine gate_dst (N := 6) rfl ?_); (try (refine gate_guard (by rfl) ?_; dsimp only)); refine box_event ?hg (N := 6) ?hd (cs := #[.int .i64 0, .int .i64 0, .slice none 0 0]) (t := 29) ?hr ?_; (case hd => rfl); (case hg => rfl); (case hr => first | (go_simp; done) | (go_simp; rfl)); intro gb175 hg w12 hbox hb; have n0_ := Aside0.mk (bb hb BK173.out); have n1_ := Aside0.mk (below_step (by repeat (first | (with_reducible first | exact HB.out | apply below_alloc | apply pw_below_drewN | apply below_drew1 | refine below_set ?_ GE173.out) | exact HB.out)) hb); have n2_ := Aside0.mk (hbox); have n3_ := Aside0.mk ((by rw [hg]; exact (below_size (by repeat (first | (with_reducible first | exact HB.out | apply below_alloc | apply pw_below_drewN | apply below_drew1 | refine below_set ?_ GE173.out) | exact HB.out))) : w.heap.size ≤ gb175)); have n4_ := Aside0.mk ((by rw [hg]; exact (below_size (by repeat (first | (with_reducible first | exact HB.out | apply below_alloc | apply pw_below_drewN | apply below_drew1 | refine below_set ?_ GE173.out) | exact HB.out))) : w.heap.size ≤ gb175)); have n5_ := Aside0.mk (nl hg BK173.out); have n6_ := Aside0.mk (ng hg BK173.out); clear BK173; clear HB; have BK173 := n0_; have HB := n1_; have BK175 := n2_; have GW175 := n3_; have GE175 := n4_; have NB173_175 := n5_; have NB175_173 := n6_; clear n0_ n1_ n2_ n3_ n4_ n5_ n6_; clear hb hbox hg; have hnb13 := NB175_173.out; have hnc13 := NB173_175.out; have hcz14_0 : w12.cell? ⟨gb175, 0, none⟩ = some (.int .i64 0) := (blk_cell BK175.out 0).trans rfl; have hcz14_1 : w12.cell? ⟨gb175, 1, none⟩ = some (.int .i64 0) := (blk_cell BK175.out 1).trans rfl; have hcz14_2 : w12.cell? ⟨gb175, 2, none⟩ = some (.slice none 0 0) := (blk_cell BK175.out 2).trans rfl; have hfz14_0 := blk_frozen BK175.out 0; have hfz14_1 := blk_frozen BK175.out 1; have hfz14_2 := blk_frozen BK175.out 2))
        go_roundg k1
        case measure => have := HK1.out; omega
        case rel => exact ⟨(true), (wrap64 (x27_1 + 1)), (by first | rfl | (simp; done) | (simp [*]; done)), (by first | rfl | (simp; done) | (simp [*]; done)), H', ⟨by have := HK1.out; omega⟩, ⟨by (with_reducible repeat (first | refine blk_drewN ?_ _ | refine blk_drew ?_ | refine blk_alloc ?_ _)); refine blk_far ?_ NB173_175.out _; refine blk_far ?_ NB173_175.out _; refine blk_far ?_ NB173_175.out _; exact BK173.out⟩, ⟨by repeat (first | (with_reducible first | exact HB.out | apply below_alloc | apply pw_below_drewN | apply below_drew1 | refine below_set ?_ GE173.out | refine below_set ?_ GE175.out) | exact HB.out)⟩⟩
       ·rw [if_neg c11] at H
        have c11b0 : decide (6 < ((rd_T29 l0_0 x27_1).f0)) = false := decide_eq_false c11
        clear c11
        by_cases c15 : ((rd_T29 l0_0 x27_1).f1) > 64
        ·rw [if_pos c15] at H
         have c15b0 : decide (64 < ((rd_T29 l0_0 x27_1).f1)) = true := decide_eq_true c15
         clear c15
         have H' := Aside0.mk H
         clear H
         have p174 : 0 ≤ (x27_1 : Int) := of_decide_eq_true (by first | (with_reducible assumption) | assumption)
         have q174 : x27_1 < (l0_0.length : Int) := of_decide_eq_true (by first | (with_reducible assumption) | assumption)
         obtain ⟨ad174, A174_2, c174_2, e174, hx174_0, hx174_1, hx174_2, hl174_2, hi174_2⟩ := at_T29 HR0_0.out x27_1 p174 q174
         cases e174
         replace hx174_0 := (HB.out.cell (World.block_lt_of_cell? w _ hx174_0)).trans hx174_0
         replace hx174_1 := (HB.out.cell (World.block_lt_of_cell? w _ hx174_1)).trans hx174_1
         replace hx174_2 := (HB.out.cell (World.block_lt_of_cell? w _ hx174_2)).trans hx174_2
         have HR174_2 := Aside0.mk hi174_2
         have HC174_2 := Aside0.mk hl174_2
         clear hi174_2 hl174_2
         replace p174 := eq_true p174
         replace q174 := eq_true q174
         go_wp2_with (first | ((with_reducible refine gate_dst (N := 6) rfl ?_); (try (refine gate_guard (by rfl) ?_; dsimp only)); refine box_event ?hg (N := 6) ?hd (cs := #[.int .i64 0, .int .i64 0, .slice none 0 0]) (t := 29) ?hr ?_; (case hd => rfl); (case hg => rfl); (case hr => first | (go_simp; done) | (go_simp; rfl)); intro gb175 hg w16 hbox hb; have n0_ := Aside0.mk (bb hb BK173.out); have n1_ := Aside0.mk (below_step (by repeat (first | (with_reducible first | exact HB.out | apply below_alloc | apply pw_below_drewN | apply below_drew1 | refine below_set ?_ GE173.out) | exact HB.out)) hb); have n2_ := Aside0.mk (hbox); have n3_ := Aside0.mk ((by rw [hg]; exact (below_size (by repeat (first | (with_reducible first | exact HB.out | apply below_alloc | apply pw_below_drewN | apply below_drew1 | refine below_set ?_ GE173.out) | exact HB.out))) : w.heap.size ≤ gb175)); have n4_ := Aside0.mk ((by rw [hg]; exact (below_size (by repeat (first | (with_reducible first | exact HB.out | apply below_alloc | apply pw_below_drewN | apply below_drew1 | refine below_set ?_ GE173.out) | exact HB.out))) : w.heap.size ≤ gb175)); have n5_ := Aside0.mk (nl hg BK173.out); have n6_ := Aside0.mk (ng hg BK173.out); clear BK173; clear HB; have BK173 := n0_; have HB := n1_; have BK175 := n2_; have GW175 := n3_; have GE175 := n4_; have NB173_175 := n5_; have NB175_173 := n6_; clear n0_ n1_ n2_ n3_ n4_ n5_ n6_; clear hb hbox hg; have hnb17 := NB175_173.out; have hnc17 := NB173_175.out; have hcz18_0 : w16.cell? ⟨gb175, 0, none⟩ = some (.int .i64 0) := (blk_cell BK175.out 0).trans rfl; have hcz18_1 : w16.cell? ⟨gb175, 1, none⟩ = some (.int .i64 0) := (blk_cell BK175.out 1).trans rfl; have hcz18_2 : w16.cell? ⟨gb175, 2, none⟩ = some (.slice none 0 0) := (blk_cell BK175.out 2).trans rfl; have hfz18_0 := blk_frozen BK175.out 0; have hfz18_1 := blk_frozen BK175.out 1; have hfz18_2 := blk_frozen BK175.out 2))
         go_roundg k1
         case measure => have := HK1.out; omega
         case rel => exact ⟨(true), (wrap64 (x27_1 + 1)), (by first | rfl | (simp; done) | (simp [*]; done)), (by first | rfl | (simp; done) | (simp [*]; done)), H', ⟨by have := HK1.out; omega⟩, ⟨by (with_reducible repeat (first | refine blk_drewN ?_ _ | refine blk_drew ?_ | refine blk_alloc ?_ _)); refine blk_far ?_ NB173_175.out _; refine blk_far ?_ NB173_175.out _; refine blk_far ?_ NB173_175.out _; exact BK173.out⟩, ⟨by repeat (first | (with_reducible first | exact HB.out | apply below_alloc | apply pw_below_drewN | apply below_drew1 | refine below_set ?_ GE173.out | refine below_set ?_ GE175.out) | exact HB.out)⟩⟩
        ·rw [if_neg c15] at H
         have c15b0 : decide (64 < ((rd_T29 l0_0 x27_1).f1)) = false := decide_eq_false c15
         clear c15
         have H' := Aside0.mk H
         clear H
         have p174 : 0 ≤ (x27_1 : Int) := of_decide_eq_true (by first | (with_reducible assumption) | assumption)
         have q174 : x27_1 < (l0_0.length : Int) := of_decide_eq_true (by first | (with_reducible assumption) | assumption)
         obtain ⟨ad174, A174_2, c174_2, e174, hx174_0, hx174_1, hx174_2, hl174_2, hi174_2⟩ := at_T29 HR0_0.out x27_1 p174 q174
         cases e174
         replace hx174_0 := (HB.out.cell (World.block_lt_of_cell? w _ hx174_0)).trans hx174_0
         replace hx174_1 := (HB.out.cell (World.block_lt_of_cell? w _ hx174_1)).trans hx174_1
         replace hx174_2 := (HB.out.cell (World.block_lt_of_cell? w _ hx174_2)).trans hx174_2
         have HR174_2 := Aside0.mk hi174_2
         have HC174_2 := Aside0.mk hl174_2
         clear hi174_2 hl174_2
         replace p174 := eq_true p174
         replace q174 := eq_true q174
         go_wp2_with (first | ((with_reducible refine gate_dst (N := 6) rfl ?_); (try (refine gate_guard (by rfl) ?_; dsimp only)); refine box_event ?hg (N := 6) ?hd (cs := #[.int .i64 0, .int .i64 0, .slice none 0 0]) (t := 29) ?hr ?_; (case hd => rfl); (case hg => rfl); (case hr => first | (go_simp; done) | (go_simp; rfl)); intro gb175 hg w19 hbox hb; have n0_ := Aside0.mk (bb hb BK173.out); have n1_ := Aside0.mk (below_step (by repeat (first | (with_reducible first | exact HB.out | apply below_alloc | apply pw_below_drewN | apply below_drew1 | refine below_set ?_ GE173.out) | exact HB.out)) hb); have n2_ := Aside0.mk (hbox); have n3_ := Aside0.mk ((by rw [hg]; exact (below_size (by repeat (first | (with_reducible first | exact HB.out | apply below_alloc | apply pw_below_drewN | apply below_drew1 | refine below_set ?_ GE173.out) | exact HB.out))) : w.heap.size ≤ gb175)); have n4_ := Aside0.mk ((by rw [hg]; exact (below_size (by repeat (first | (with_reducible first | exact HB.out | apply below_alloc | apply pw_below_drewN | apply below_drew1 | refine below_set ?_ GE173.out) | exact HB.out))) : w.heap.size ≤ gb175)); have n5_ := Aside0.mk (nl hg BK173.out); have n6_ := Aside0.mk (ng hg BK173.out); clear BK173; clear HB; have BK173 := n0_; have HB := n1_; have BK175 := n2_; have GW175 := n3_; have GE175 := n4_; have NB173_175 := n5_; have NB175_173 := n6_; clear n0_ n1_ n2_ n3_ n4_ n5_ n6_; clear hb hbox hg; have hnb20 := NB175_173.out; have hnc20 := NB173_175.out; have hcz21_0 : w19.cell? ⟨gb175, 0, none⟩ = some (.int .i64 0) := (blk_cell BK175.out 0).trans rfl; have hcz21_1 : w19.cell? ⟨gb175, 1, none⟩ = some (.int .i64 0) := (blk_cell BK175.out 1).trans rfl; have hcz21_2 : w19.cell? ⟨gb175, 2, none⟩ = some (.slice none 0 0) := (blk_cell BK175.out 2).trans rfl; have hfz21_0 := blk_frozen BK175.out 0; have hfz21_1 := blk_frozen BK175.out 1; have hfz21_2 := blk_frozen BK175.out 2))
         go_roundg k1
         case measure => have := HK1.out; omega
         case rel => exact ⟨(decide ((((rd_T29 l0_0 x27_1).f2).length : Int) > 4000)), (wrap64 (x27_1 + 1)), (by first | rfl | (simp; done) | (simp [*]; done)), (by first | rfl | (simp; done) | (simp [*]; done)), H', ⟨by have := HK1.out; omega⟩, ⟨by (with_reducible repeat (first | refine blk_drewN ?_ _ | refine blk_drew ?_ | refine blk_alloc ?_ _)); refine blk_far ?_ NB173_175.out _; refine blk_far ?_ NB173_175.out _; refine blk_far ?_ NB173_175.out _; exact BK173.out⟩, ⟨by repeat (first | (with_reducible first | exact HB.out | apply below_alloc | apply pw_below_drewN | apply below_drew1 | refine below_set ?_ GE173.out | refine below_set ?_ GE175.out) | exact HB.out)⟩⟩
     ·rw [if_neg c6] at H
      exact absurd H (by simp)
    ·rw [if_neg c5] at H
     exact absurd H (by simp)
   ·rw [if_neg c4] at H
    have c4b0 : decide (x27_1 < (l0_0.length : Int)) = false := decide_eq_false c4
    clear c4
    by_cases c22 : x4_1 = true
    ·subst c22
     have H1 : (some (([] : List (List Int)), 2)) = some (r1, r2) := by rw [if_pos rfl] at H; exact H
     clear H
     have H := H1
     clear H1
     simp only [Option.some.injEq, Prod.mk.injEq] at H
     obtain ⟨rfl, rfl⟩ := H
     go_wp2
     go_ret2
     exact ⟨_, by first | rfl | (simp [errW_none, errW_some] <;> rfl) | (simp [*, errW_none, errW_some] <;> rfl), by first | exact Kd.S_nil _ _ _ _ _ | exact Kd.N_nil _ _ _ _ _ | exact Kd.V_nil _ _ _ _ _ | exact Kd.Q_nil _ _ _ _ _ | exact Kd.R_nil _ _ _ _ _, by repeat (first | (with_reducible first | exact HB.out | apply below_alloc | apply pw_below_drewN | apply below_drew1 | refine below_set ?_ GE173.out) | exact HB.out)⟩
    ·replace c22 := Bool.eq_false_iff.mpr c22
     subst c22
     have H1 : (if a0_1 < 0 then (tourref5_ProgFault.j1 k1 true l0_0 a0_1) else (if a0_1 ≥ (l0_0.length : Int) then (tourref5_ProgFault.j1 k1 true l0_0 a0_1) else (if 0 ≤ a0_1 then (if a0_1 < (l0_0.length : Int) then (tourref5_ProgFault.j1 k1 (((rd_T29 l0_0 a0_1).f0) != 0) l0_0 a0_1) else (none)) else (none)))) = some (r1, r2) := by rw [if_neg (show ¬ (false = true) by decide)] at H; exact H
     clear H
     have H := H1
     clear H1
     have HC23 := Aside0.mk H
     clear H
     go_upto_region 9 with (fail)
     go_cut [70] (fun v70 wc => ∃ (kq : Nat) (x70_22 : Bool), v70 = .bool x70_22 ∧ Aside0 (tourref5_ProgFault.j1 kq x70_22 l0_0 a0_1 = some (r1, r2)) ∧ Aside0 (kq ≤ k1) ∧ Aside0 (wc.heap[gb173]? = some (.cells #[(.slice A0_0 l0_0.length c0_0), .int .i64 a0_1] 24 (0, 0))) ∧ Aside0 (Below w.heap.size w wc))
     case first =>
      have H := HC23.out
      clear HC23
      by_cases c24 : a0_1 < 0
      ·rw [if_pos c24] at H
       have c24b0 : decide (a0_1 < 0) = true := decide_eq_true c24
       clear c24
       (first | rw [c24b0] | (simp only [i64_w, i32_w]; rw [c24b0]) | skip)
       have H' := Aside0.mk H
       clear H
       obtain ⟨hcz25_0, hcz25_1⟩ := blk2 BK173.out
       obtain ⟨hfz25_0, hfz25_1⟩ := frz2 BK173.out
       go_wp2
       go_meet
       case rel => exact ⟨_, (true), (by first | rfl | (simp; done) | (simp [*]; done)), H', ⟨by have := HK1.out; first | omega | exact Nat.le_refl _⟩, ⟨BK173.out⟩, ⟨by repeat (first | (with_reducible first | exact HB.out | apply below_alloc | apply pw_below_drewN | apply below_drew1 | refine below_set ?_ GE173.out) | exact HB.out)⟩⟩
      ·rw [if_neg c24] at H
       have c24b0 : decide (a0_1 < 0) = false := decide_eq_false c24
       clear c24
       (first | rw [c24b0] | (simp only [i64_w, i32_w]; rw [c24b0]) | skip)
       by_cases c26 : a0_1 ≥ (l0_0.length : Int)
       ·rw [if_pos c26] at H
        have c26b0 : decide ((l0_0.length : Int) ≤ a0_1) = true := decide_eq_true c26
        clear c26
        have H' := Aside0.mk H
        clear H
        obtain ⟨hcz27_0, hcz27_1⟩ := blk2 BK173.out
        obtain ⟨hfz27_0, hfz27_1⟩ := frz2 BK173.out
        go_wp2
        go_meet
        case rel => exact ⟨_, (true), (by first | rfl | (simp; done) | (simp [*]; done)), H', ⟨by have := HK1.out; first | omega | exact Nat.le_refl _⟩, ⟨BK173.out⟩, ⟨by repeat (first | (with_reducible first | exact HB.out | apply below_alloc | apply pw_below_drewN | apply below_drew1 | refine below_set ?_ GE173.out) | exact HB.out)⟩⟩
       ·rw [if_neg c26] at H
        have c26b0 : decide ((l0_0.length : Int) ≤ a0_1) = false := decide_eq_false c26
        clear c26
        by_cases c28 : 0 ≤ a0_1
        ·rw [if_pos c28] at H
         have c28b0 : decide (0 ≤ a0_1) = true := decide_eq_true c28
         clear c28
         by_cases c29 : a0_1 < (l0_0.length : Int)
         ·rw [if_pos c29] at H
          have c29b0 : decide (a0_1 < (l0_0.length : Int)) = true := decide_eq_true c29
          clear c29
          have H' := Aside0.mk H
          clear H
          obtain ⟨hcz30_0, hcz30_1⟩ := blk2 BK173.out
          obtain ⟨hfz30_0, hfz30_1⟩ := frz2 BK173.out
          have p176 : 0 ≤ (a0_1 : Int) := of_decide_eq_true (by first | (with_reducible assumption) | assumption)
          have q176 : a0_1 < (l0_0.length : Int) := of_decide_eq_true (by first | (with_reducible assumption) | assumption)
          obtain ⟨ad176, A176_2, c176_2, e176, hx176_0, hx176_1, hx176_2, hl176_2, hi176_2⟩ := at_T29 HR0_0.out a0_1 p176 q176
          cases e176
          replace hx176_0 := (HB.out.cell (World.block_lt_of_cell? w _ hx176_0)).trans hx176_0
          replace hx176_1 := (HB.out.cell (World.block_lt_of_cell? w _ hx176_1)).trans hx176_1
          replace hx176_2 := (HB.out.cell (World.block_lt_of_cell? w _ hx176_2)).trans hx176_2
          have HR176_2 := Aside0.mk hi176_2
          have HC176_2 := Aside0.mk hl176_2
          clear hi176_2 hl176_2
          replace p176 := eq_true p176
          replace q176 := eq_true q176
          go_wp2
          go_meet
          case rel => exact ⟨_, ((((rd_T29 l0_0 a0_1).f0) != 0)), (by first | rfl | (simp; done) | (simp [*]; done)), H', ⟨by have := HK1.out; first | omega | exact Nat.le_refl _⟩, ⟨BK173.out⟩, ⟨by repeat (first | (with_reducible first | exact HB.out | apply below_alloc | apply pw_below_drewN | apply below_drew1 | refine below_set ?_ GE173.out) | exact HB.out)⟩⟩
         ·rw [if_neg c29] at H
          exact absurd H (by simp)
        ·rw [if_neg c28] at H
         exact absurd H (by simp)
     case rest =>
      clear HC23
      try clear c1; try clear p1; try clear q1; try clear hx1; try clear c2; try clear p2; try clear c4; try clear c4b0
      try clear c5; try clear c5b0; try clear c6; try clear c6b0; try clear p6; try clear c7; try clear c9; try clear c11
      try clear c11b0; try clear c13; try clear c15; try clear c15b0; try clear c17; try clear p17; try clear q17; try clear hx17
      try clear c20; try clear c22; try clear c24; try clear c24b0; try clear c26; try clear c26b0; try clear c28; try clear c28b0
      try clear c29; try clear c29b0; try clear hcz10_0; try clear hcz10_1; try clear hcz10_2; try clear hcz14_0; try clear hcz14_1; try clear hcz14_2
      try clear hcz18_0; try clear hcz18_1; try clear hcz18_2; try clear hcz21_0; try clear hcz21_1; try clear hcz21_2; try clear hcz25_0; try clear hcz25_1
      try clear hcz27_0; try clear hcz27_1; try clear hcz30_0; try clear hcz30_1; try clear hcz3_0; try clear hcz3_1; try clear hfz10_0; try clear hfz10_1
      try clear hfz10_2; try clear hfz14_0; try clear hfz14_1; try clear hfz14_2; try clear hfz18_0; try clear hfz18_1; try clear hfz18_2; try clear hfz21_0
      try clear hfz21_1; try clear hfz21_2; try clear hfz25_0; try clear hfz25_1; try clear hfz27_0; try clear hfz27_1; try clear hfz30_0; try clear hfz30_1
      try clear hfz3_0; try clear hfz3_1; try clear hx174_0; try clear hx174_1; try clear hx174_2; try clear hx176_0; try clear hx176_1; try clear hx176_2
      try clear p174; try clear p176; try clear p2; try clear q174; try clear q176
      obtain ⟨kq, x70_22, rfl, HA, HJ22, BK173, HB⟩ := hcut
      cases kq with
      | zero => exact absurd HA.out (by simp [tourref5_ProgFault.j1])
      | succ kj22 =>
       have H := HA.out
       clear HA
       simp only [tourref5_ProgFault.j1] at H
       by_cases c31 : x70_22 = true
       ·subst c31
        have H1 : (some (([] : List (List Int)), 16)) = some (r1, r2) := by rw [if_pos rfl] at H; exact H
        clear H
        have H := H1
        clear H1
        simp only [Option.some.injEq, Prod.mk.injEq] at H
        obtain ⟨rfl, rfl⟩ := H
        go_wp2
        go_ret2
        exact ⟨_, by first | rfl | (simp [errW_none, errW_some] <;> rfl) | (simp [*, errW_none, errW_some] <;> rfl), by first | exact Kd.S_nil _ _ _ _ _ | exact Kd.N_nil _ _ _ _ _ | exact Kd.V_nil _ _ _ _ _ | exact Kd.Q_nil _ _ _ _ _ | exact Kd.R_nil _ _ _ _ _, by repeat (first | (with_reducible first | exact HB.out | apply below_alloc | apply pw_below_drewN | apply below_drew1 | refine below_set ?_ GE173.out) | exact HB.out)⟩
       ·replace c31 := Bool.eq_false_iff.mpr c31
        subst c31
        have H1 : (tourref5_ProgFault.l1 kj22 l0_0 (l0_0.length : Int) 0 l0_0 a0_1) = some (r1, r2) := by rw [if_neg (show ¬ (false = true) by decide)] at H; exact H
        clear H
        have H := H1
        clear H1
        have H' := Aside0.mk H
        clear H
        obtain ⟨hcz32_0, hcz32_1⟩ := blk2 BK173.out
        obtain ⟨hfz32_0, hfz32_1⟩ := frz2 BK173.out
        go_wp2
        go_loopg [74] kj22 (fun kq v74 w' => ∃ (x74_3 : Int), v74 = .int .i64 x74_3 ∧ Aside0 (tourref5_ProgFault.l1 kq l0_0 (l0_0.length : Int) x74_3 l0_0 a0_1 = some (r1, r2)) ∧ Aside0 (kq ≤ kj22) ∧ Aside0 (w'.heap[gb173]? = some (.cells #[(.slice A0_0 l0_0.length c0_0), .int .i64 a0_1] 24 (0, 0))) ∧ Aside0 (Below w.heap.size w w'))
        case atStart => exact ⟨(0), (by first | rfl | (simp; done) | (simp [*]; done)), H', ⟨Nat.le_refl _⟩, ⟨BK173.out⟩, ⟨by repeat (first | (with_reducible first | exact HB.out | apply below_alloc | apply pw_below_drewN | apply below_drew1 | refine below_set ?_ GE173.out) | exact HB.out)⟩⟩
        case round =>
         clear H'
         try clear c1; try clear p1; try clear q1; try clear hx1; try clear c2; try clear p2; try clear c3; try clear c4
         try clear c4b0; try clear c5; try clear c5b0; try clear c6; try clear c6b0; try clear p6; try clear c7; try clear c9
         try clear c11; try clear c11b0; try clear c13; try clear c15; try clear c15b0; try clear c17; try clear p17; try clear q17
         try clear hx17; try clear c20; try clear c22; try clear c24; try clear c24b0; try clear c26; try clear c26b0; try clear c28
         try clear c28b0; try clear c29; try clear c29b0; try clear c31; try clear hcz10_0; try clear hcz10_1; try clear hcz10_2; try clear hcz14_0
         try clear hcz14_1; try clear hcz14_2; try clear hcz18_0; try clear hcz18_1; try clear hcz18_2; try clear hcz21_0; try clear hcz21_1; try clear hcz21_2
         try clear hcz25_0; try clear hcz25_1; try clear hcz27_0; try clear hcz27_1; try clear hcz30_0; try clear hcz30_1; try clear hcz32_0; try clear hcz32_1
         try clear hcz3_0; try clear hcz3_1; try clear hfz10_0; try clear hfz10_1; try clear hfz10_2; try clear hfz14_0; try clear hfz14_1; try clear hfz14_2
         try clear hfz18_0; try clear hfz18_1; try clear hfz18_2; try clear hfz21_0; try clear hfz21_1; try clear hfz21_2; try clear hfz25_0; try clear hfz25_1
         try clear hfz27_0; try clear hfz27_1; try clear hfz30_0; try clear hfz30_1; try clear hfz32_0; try clear hfz32_1; try clear hfz3_0; try clear hfz3_1
         try clear hx174_0; try clear hx174_1; try clear hx174_2; try clear hx176_0; try clear hx176_1; try clear hx176_2; try clear p1; try clear p17
         try clear p174; try clear p176; try clear p2; try clear p6; try clear q1; try clear q17; try clear q174; try clear q176
         obtain ⟨x74_3, rfl, HA, HK3, BK173, HB⟩ := hrel
         cases gk with
         | zero => exact absurd HA.out (by simp [tourref5_ProgFault.l1])
         | succ k3 =>
          have H := HA.out
          clear HA
          simp only [tourref5_ProgFault.l1] at H
          by_cases c33 : x74_3 < (l0_0.length : Int)
          ·rw [if_pos c33] at H
           have c33b0 : decide (x74_3 < (l0_0.length : Int)) = true := decide_eq_true c33
           clear c33
           by_cases c34 : 0 ≤ x74_3
           ·rw [if_pos c34] at H
            have c34b0 : decide (0 ≤ x74_3) = true := decide_eq_true c34
            clear c34
            by_cases c35 : x74_3 < (l0_0.length : Int)
            ·rw [if_pos c35] at H
             have c35b0 : decide (x74_3 < (l0_0.length : Int)) = true := decide_eq_true c35
             clear c35
             have HC36 := Aside0.mk H
             clear H
             have p177 : 0 ≤ (x74_3 : Int) := of_decide_eq_true (by first | (with_reducible assumption) | assumption)
             have q177 : x74_3 < (l0_0.length : Int) := of_decide_eq_true (by first | (with_reducible assumption) | assumption)
             obtain ⟨ad177, A177_2, c177_2, e177, hx177_0, hx177_1, hx177_2, hl177_2, hi177_2⟩ := at_T29 HR0_0.out x74_3 p177 q177
             cases e177
             replace hx177_0 := (HB.out.cell (World.block_lt_of_cell? w _ hx177_0)).trans hx177_0
             replace hx177_1 := (HB.out.cell (World.block_lt_of_cell? w _ hx177_1)).trans hx177_1
             replace hx177_2 := (HB.out.cell (World.block_lt_of_cell? w _ hx177_2)).trans hx177_2
             have HR177_2 := Aside0.mk hi177_2
             have HC177_2 := Aside0.mk hl177_2
             clear hi177_2 hl177_2
             replace p177 := eq_true p177
             replace q177 := eq_true q177
             go_upto_region 14 with (first | ((with_reducible refine gate_dst (N := 8) rfl ?_); (try (refine gate_guard (by rfl) ?_; dsimp only)); refine box_event ?hg (N := 8) ?hd (cs := #[.int .i64 0, .int .i64 0, .slice none 0 0]) (t := 29) ?hr ?_; (case hd => rfl); (case hg => rfl); (case hr => first | (go_simp; done) | (go_simp; rfl)); intro gb178 hg w37 hbox hb; have n0_ := Aside0.mk (bb hb BK173.out); have n1_ := Aside0.mk (below_step (by repeat (first | (with_reducible first | exact HB.out | apply below_alloc | apply pw_below_drewN | apply below_drew1 | refine below_set ?_ GE173.out) | exact HB.out)) hb); have n2_ := Aside0.mk (hbox); have n3_ := Aside0.mk ((by rw [hg]; exact (below_size (by repeat (first | (with_reducible first | exact HB.out | apply below_alloc | apply pw_below_drewN | apply below_drew1 | refine below_set ?_ GE173.out) | exact HB.out))) : w.heap.size ≤ gb178)); have n4_ := Aside0.mk ((by rw [hg]; exact (below_size (by repeat (first | (with_reducible first | exact HB.out | apply below_alloc | apply pw_below_drewN | apply below_drew1 | refine below_set ?_ GE173.out) | exact HB.out))) : w.heap.size ≤ gb178)); have n5_ := Aside0.mk (nl hg BK173.out); have n6_ := Aside0.mk (ng hg BK173.out); clear BK173; clear HB; have BK173 := n0_; have HB := n1_; have BK178 := n2_; have GW178 := n3_; have GE178 := n4_; have NB173_178 := n5_; have NB178_173 := n6_; clear n0_ n1_ n2_ n3_ n4_ n5_ n6_; clear hb hbox hg; have hnb38 := NB178_173.out; have hnc38 := NB173_178.out; have hcz39_0 : w37.cell? ⟨gb178, 0, none⟩ = some (.int .i64 0) := (blk_cell BK178.out 0).trans rfl; have hcz39_1 : w37.cell? ⟨gb178, 1, none⟩ = some (.int .i64 0) := (blk_cell BK178.out 1).trans rfl; have hcz39_2 : w37.cell? ⟨gb178, 2, none⟩ = some (.slice none 0 0) := (blk_cell BK178.out 2).trans rfl; have hfz39_0 := blk_frozen BK178.out 0; have hfz39_1 := blk_frozen BK178.out 1; have hfz39_2 := blk_frozen BK178.out 2))
             (try simp only [Act.put, zq1, zq2, zq3])
             go_cut [87] (fun v87 wc => ∃ (kq : Nat) (x87_35 : Bool), v87 = .bool x87_35 ∧ Aside0 (tourref5_ProgFault.j3 kq l0_0 (l0_0.length : Int) x74_3 x87_35 l0_0 a0_1 ((rd_T29 l0_0 x74_3).f0) ((rd_T29 l0_0 x74_3).f1) ((rd_T29 l0_0 x74_3).f2) = some (r1, r2)) ∧ Aside0 (kq ≤ k3) ∧ Aside0 (wc.heap[gb173]? = some (.cells #[(.slice (some ad177) l0_0.length c0_0), .int .i64 a0_1] 24 (0, 0))) ∧ Aside0 (wc.heap[gb178]? = some (.cells #[.int .i64 ((rd_T29 l0_0 x74_3).f0), .int .i64 ((rd_T29 l0_0 x74_3).f1), (.slice A177_2 ((rd_T29 l0_0 x74_3).f2).length c177_2)] 29 (0, 0))) ∧ Aside0 (Below w.heap.size w wc))
             case first =>
              have H := HC36.out
              clear HC36
              by_cases c40 : ((rd_T29 l0_0 x74_3).f0) < 0
              ·rw [if_pos c40] at H
               have c40b0 : decide (((rd_T29 l0_0 x74_3).f0) < 0) = true := decide_eq_true c40
               clear c40
               (first | rw [c40b0] | (simp only [i64_w, i32_w]; rw [c40b0]) | skip)
               have H' := Aside0.mk H
               clear H
               have hnb41 := NB178_173.out
               have hnc41 := NB173_178.out
               have hcz42_0 : w37.cell? ⟨gb178, 0, none⟩ = some (.int .i64 0) := (blk_cell BK178.out 0).trans rfl
               have hcz42_1 : w37.cell? ⟨gb178, 1, none⟩ = some (.int .i64 0) := (blk_cell BK178.out 1).trans rfl
               have hcz42_2 : w37.cell? ⟨gb178, 2, none⟩ = some (.slice none 0 0) := (blk_cell BK178.out 2).trans rfl
               have hfz42_0 := blk_frozen BK178.out 0
               have hfz42_1 := blk_frozen BK178.out 1
               have hfz42_2 := blk_frozen BK178.out 2
               go_wp2
               go_meet
               case rel => exact ⟨_, (true), (by first | rfl | (simp; done) | (simp [*]; done)), H', ⟨by have := HK1.out; have := HJ22.out; have := HK3.out; first | omega | exact Nat.le_refl _⟩, ⟨by (with_reducible repeat (first | refine blk_drewN ?_ _ | refine blk_drew ?_ | refine blk_alloc ?_ _)); refine blk_far ?_ NB173_178.out _; refine blk_far ?_ NB173_178.out _; refine blk_far ?_ NB173_178.out _; exact BK173.out⟩, ⟨by (with_reducible repeat (first | refine blk_drewN ?_ _ | refine blk_drew ?_ | refine blk_alloc ?_ _)); refine blk_put (cs := #[.int .i64 ((rd_T29 l0_0 x74_3).f0), .int .i64 ((rd_T29 l0_0 x74_3).f1), .slice none 0 0]) ?_ 2 _ rfl; refine blk_put (cs := #[.int .i64 ((rd_T29 l0_0 x74_3).f0), .int .i64 0, .slice none 0 0]) ?_ 1 _ rfl; refine blk_put (cs := #[.int .i64 0, .int .i64 0, .slice none 0 0]) ?_ 0 _ rfl; exact BK178.out⟩, ⟨by repeat (first | (with_reducible first | exact HB.out | apply below_alloc | apply pw_below_drewN | apply below_drew1 | refine below_set ?_ GE173.out | refine below_set ?_ GE178.out) | exact HB.out)⟩⟩
              ·rw [if_neg c40] at H
               have c40b0 : decide (((rd_T29 l0_0 x74_3).f0) < 0) = false := decide_eq_false c40
               clear c40
               (first | rw [c40b0] | (simp only [i64_w, i32_w]; rw [c40b0]) | skip)
               have H' := Aside0.mk H
               clear H
               have hnb43 := NB178_173.out
               have hnc43 := NB173_178.out
               have hcz44_0 : w37.cell? ⟨gb178, 0, none⟩ = some (.int .i64 0) := (blk_cell BK178.out 0).trans rfl
               have hcz44_1 : w37.cell? ⟨gb178, 1, none⟩ = some (.int .i64 0) := (blk_cell BK178.out 1).trans rfl
               have hcz44_2 : w37.cell? ⟨gb178, 2, none⟩ = some (.slice none 0 0) := (blk_cell BK178.out 2).trans rfl
               have hfz44_0 := blk_frozen BK178.out 0
               have hfz44_1 := blk_frozen BK178.out 1
               have hfz44_2 := blk_frozen BK178.out 2
               go_wp2
               go_meet
               case rel => exact ⟨_, (decide (((rd_T29 l0_0 x74_3).f0) > ((rd_T29 l0_0 x74_3).f1))), (by first | rfl | (simp; done) | (simp [*]; done)), H', ⟨by have := HK1.out; have := HJ22.out; have := HK3.out; first | omega | exact Nat.le_refl _⟩, ⟨by (with_reducible repeat (first | refine blk_drewN ?_ _ | refine blk_drew ?_ | refine blk_alloc ?_ _)); refine blk_far ?_ NB173_178.out _; refine blk_far ?_ NB173_178.out _; refine blk_far ?_ NB173_178.out _; exact BK173.out⟩, ⟨by (with_reducible repeat (first | refine blk_drewN ?_ _ | refine blk_drew ?_ | refine blk_alloc ?_ _)); refine blk_put (cs := #[.int .i64 ((rd_T29 l0_0 x74_3).f0), .int .i64 ((rd_T29 l0_0 x74_3).f1), .slice none 0 0]) ?_ 2 _ rfl; refine blk_put (cs := #[.int .i64 ((rd_T29 l0_0 x74_3).f0), .int .i64 0, .slice none 0 0]) ?_ 1 _ rfl; refine blk_put (cs := #[.int .i64 0, .int .i64 0, .slice none 0 0]) ?_ 0 _ rfl; exact BK178.out⟩, ⟨by repeat (first | (with_reducible first | exact HB.out | apply below_alloc | apply pw_below_drewN | apply below_drew1 | refine below_set ?_ GE173.out | refine below_set ?_ GE178.out) | exact HB.out)⟩⟩
             case rest =>
              clear HC36
              try clear c1; try clear p1; try clear q1; try clear hx1; try clear c2; try clear p2; try clear c3; try clear c4
              try clear c4b0; try clear c5; try clear c5b0; try clear c6; try clear c6b0; try clear p6; try clear c7; try clear c9
              try clear c11; try clear c11b0; try clear c13; try clear c15; try clear c15b0; try clear c17; try clear p17; try clear q17
              try clear hx17; try clear c20; try clear c22; try clear c24; try clear c24b0; try clear c26; try clear c26b0; try clear c28
              try clear c28b0; try clear c29; try clear c29b0; try clear c31; try clear c33; try clear c33b0; try clear c34; try clear c34b0
              try clear c35; try clear c35b0; try clear c38; try clear c40; try clear c40b0; try clear c41; try clear c43; try clear hcz10_0
              try clear hcz10_1; try clear hcz10_2; try clear hcz14_0; try clear hcz14_1; try clear hcz14_2; try clear hcz18_0; try clear hcz18_1; try clear hcz18_2
              try clear hcz21_0; try clear hcz21_1; try clear hcz21_2; try clear hcz25_0; try clear hcz25_1; try clear hcz27_0; try clear hcz27_1; try clear hcz30_0
              try clear hcz30_1; try clear hcz32_0; try clear hcz32_1; try clear hcz39_0; try clear hcz39_1; try clear hcz39_2; try clear hcz3_0; try clear hcz3_1
              try clear hcz42_0; try clear hcz42_1; try clear hcz42_2; try clear hcz44_0; try clear hcz44_1; try clear hcz44_2; try clear hfz10_0; try clear hfz10_1
              try clear hfz10_2; try clear hfz14_0; try clear hfz14_1; try clear hfz14_2; try clear hfz18_0; try clear hfz18_1; try clear hfz18_2; try clear hfz21_0
              try clear hfz21_1; try clear hfz21_2; try clear hfz25_0; try clear hfz25_1; try clear hfz27_0; try clear hfz27_1; try clear hfz30_0; try clear hfz30_1
              try clear hfz32_0; try clear hfz32_1; try clear hfz39_0; try clear hfz39_1; try clear hfz39_2; try clear hfz3_0; try clear hfz3_1; try clear hfz42_0
              try clear hfz42_1; try clear hfz42_2; try clear hfz44_0; try clear hfz44_1; try clear hfz44_2; try clear hx174_0; try clear hx174_1; try clear hx174_2
              try clear hx176_0; try clear hx176_1; try clear hx176_2; try clear hx177_0; try clear hx177_1; try clear hx177_2; try clear p1; try clear p17
              try clear p174; try clear p176; try clear p177; try clear p2; try clear p6; try clear q1; try clear q17; try clear q174
              try clear q176; try clear q177
              obtain ⟨kq, x87_35, rfl, HA, HJ35, BK173, BK178, HB⟩ := hcut
              cases kq with
              | zero => exact absurd HA.out (by simp [tourref5_ProgFault.j3])
              | succ kj35 =>
               have H := HA.out
               clear HA
               simp only [tourref5_ProgFault.j3] at H
               by_cases c45 : x87_35 = true
               ·subst c45
                have H1 : (some (([] : List (List Int)), 3)) = some (r1, r2) := by rw [if_pos rfl] at H; exact H
                clear H
                have H := H1
                clear H1
                simp only [Option.some.injEq, Prod.mk.injEq] at H
                obtain ⟨rfl, rfl⟩ := H
                go_wp2
                go_ret2
                exact ⟨_, by first | rfl | (simp [errW_none, errW_some] <;> rfl) | (simp [*, errW_none, errW_some] <;> rfl), by first | exact Kd.S_nil _ _ _ _ _ | exact Kd.N_nil _ _ _ _ _ | exact Kd.V_nil _ _ _ _ _ | exact Kd.Q_nil _ _ _ _ _ | exact Kd.R_nil _ _ _ _ _, by repeat (first | (with_reducible first | exact HB.out | apply below_alloc | apply pw_below_drewN | apply below_drew1 | refine below_set ?_ GE173.out | refine below_set ?_ GE178.out) | exact HB.out)⟩
               ·replace c45 := Bool.eq_false_iff.mpr c45
                subst c45
                have H1 : (tourref5_ProgFault.l2 kj35 l0_0 (l0_0.length : Int) x74_3 ((rd_T29 l0_0 x74_3).f2) (((rd_T29 l0_0 x74_3).f2).length : Int) 0 l0_0 a0_1 ((rd_T29 l0_0 x74_3).f0) ((rd_T29 l0_0 x74_3).f1) ((rd_T29 l0_0 x74_3).f2)) = some (r1, r2) := by rw [if_neg (show ¬ (false = true) by decide)] at H; exact H
                clear H
                have H := H1
                clear H1
                have H' := Aside0.mk H
                clear H
                have hnb46 := NB178_173.out
                have hnc46 := NB173_178.out
                have hcz47_0 : wc.cell? ⟨gb178, 0, none⟩ = some (.int .i64 ((rd_T29 l0_0 x74_3).f0)) := (blk_cell BK178.out 0).trans rfl
                have hcz47_1 : wc.cell? ⟨gb178, 1, none⟩ = some (.int .i64 ((rd_T29 l0_0 x74_3).f1)) := (blk_cell BK178.out 1).trans rfl
                have hcz47_2 : wc.cell? ⟨gb178, 2, none⟩ = some (.slice A177_2 ((rd_T29 l0_0 x74_3).f2).length c177_2) := (blk_cell BK178.out 2).trans rfl
                have hfz47_0 := blk_frozen BK178.out 0
                have hfz47_1 := blk_frozen BK178.out 1
                have hfz47_2 := blk_frozen BK178.out 2
                go_wp2
                go_loopg [91] kj35 (fun kq v91 w' => ∃ (x91_5 : Int), v91 = .int .i64 x91_5 ∧ Aside0 (tourref5_ProgFault.l2 kq l0_0 (l0_0.length : Int) x74_3 ((rd_T29 l0_0 x74_3).f2) (((rd_T29 l0_0 x74_3).f2).length : Int) x91_5 l0_0 a0_1 ((rd_T29 l0_0 x74_3).f0) ((rd_T29 l0_0 x74_3).f1) ((rd_T29 l0_0 x74_3).f2) = some (r1, r2)) ∧ Aside0 (kq ≤ kj35) ∧ Aside0 (w'.heap[gb173]? = some (.cells #[(.slice (some ad177) l0_0.length c0_0), .int .i64 a0_1] 24 (0, 0))) ∧ Aside0 (w'.heap[gb178]? = some (.cells #[.int .i64 ((rd_T29 l0_0 x74_3).f0), .int .i64 ((rd_T29 l0_0 x74_3).f1), (.slice A177_2 ((rd_T29 l0_0 x74_3).f2).length c177_2)] 29 (0, 0))) ∧ Aside0 (Below w.heap.size w w'))
                case atStart => exact ⟨(0), (by first | rfl | (simp; done) | (simp [*]; done)), H', ⟨Nat.le_refl _⟩, ⟨BK173.out⟩, ⟨BK178.out⟩, ⟨by repeat (first | (with_reducible first | exact HB.out | apply below_alloc | apply pw_below_drewN | apply below_drew1 | refine below_set ?_ GE173.out | refine below_set ?_ GE178.out) | exact HB.out)⟩⟩
                case round =>
                 clear H'
                 try clear c1; try clear p1; try clear q1; try clear hx1; try clear c2; try clear p2; try clear c3; try clear c4
                 try clear c4b0; try clear c5; try clear c5b0; try clear c6; try clear c6b0; try clear p6; try clear c7; try clear c9
                 try clear c11; try clear c11b0; try clear c13; try clear c15; try clear c15b0; try clear c17; try clear p17; try clear q17
                 try clear hx17; try clear c20; try clear c22; try clear c24; try clear c24b0; try clear c26; try clear c26b0; try clear c28
                 try clear c28b0; try clear c29; try clear c29b0; try clear c31; try clear c33; try clear c33b0; try clear c34; try clear c34b0
                 try clear c35; try clear c35b0; try clear c38; try clear c40; try clear c40b0; try clear c41; try clear c43; try clear c45
                 try clear c46; try clear hcz10_0; try clear hcz10_1; try clear hcz10_2; try clear hcz14_0; try clear hcz14_1; try clear hcz14_2; try clear hcz18_0
                 try clear hcz18_1; try clear hcz18_2; try clear hcz21_0; try clear hcz21_1; try clear hcz21_2; try clear hcz25_0; try clear hcz25_1; try clear hcz27_0
                 try clear hcz27_1; try clear hcz30_0; try clear hcz30_1; try clear hcz32_0; try clear hcz32_1; try clear hcz39_0; try clear hcz39_1; try clear hcz39_2
                 try clear hcz3_0; try clear hcz3_1; try clear hcz42_0; try clear hcz42_1; try clear hcz42_2; try clear hcz44_0; try clear hcz44_1; try clear hcz44_2
                 try clear hcz47_0; try clear hcz47_1; try clear hcz47_2; try clear hfz10_0; try clear hfz10_1; try clear hfz10_2; try clear hfz14_0; try clear hfz14_1
                 try clear hfz14_2; try clear hfz18_0; try clear hfz18_1; try clear hfz18_2; try clear hfz21_0; try clear hfz21_1; try clear hfz21_2; try clear hfz25_0
                 try clear hfz25_1; try clear hfz27_0; try clear hfz27_1; try clear hfz30_0; try clear hfz30_1; try clear hfz32_0; try clear hfz32_1; try clear hfz39_0
                 try clear hfz39_1; try clear hfz39_2; try clear hfz3_0; try clear hfz3_1; try clear hfz42_0; try clear hfz42_1; try clear hfz42_2; try clear hfz44_0
                 try clear hfz44_1; try clear hfz44_2; try clear hfz47_0; try clear hfz47_1; try clear hfz47_2; try clear hx174_0; try clear hx174_1; try clear hx174_2
                 try clear hx176_0; try clear hx176_1; try clear hx176_2; try clear hx177_0; try clear hx177_1; try clear hx177_2; try clear p1; try clear p17
                 try clear p174; try clear p176; try clear p177; try clear p2; try clear p6; try clear q1; try clear q17; try clear q174
                 try clear q176; try clear q177
                 obtain ⟨x91_5, rfl, HA, HK5, BK173, BK178, HB⟩ := hrel
                 cases gk with
                 | zero => exact absurd HA.out (by simp [tourref5_ProgFault.l2])
                 | succ k5 =>
                  have H := HA.out
                  clear HA
                  simp only [tourref5_ProgFault.l2] at H
                  by_cases c48 : x91_5 < (((rd_T29 l0_0 x74_3).f2).length : Int)
                  ·rw [if_pos c48] at H
                   have c48b0 : decide (x91_5 < (((rd_T29 l0_0 x74_3).f2).length : Int)) = true := decide_eq_true c48
                   clear c48
                   by_cases c49 : 0 ≤ x91_5
                   ·rw [if_pos c49] at H
                    have c49b0 : decide (0 ≤ x91_5) = true := decide_eq_true c49
                    clear c49
                    by_cases c50 : x91_5 < (((rd_T29 l0_0 x74_3).f2).length : Int)
                    ·rw [if_pos c50] at H
                     have c50b0 : decide (x91_5 < (((rd_T29 l0_0 x74_3).f2).length : Int)) = true := decide_eq_true c50
                     clear c50
                     replace H := Option.bind_eq_some_iff.mp H
                     obtain ⟨⟨t181, t182, t183, t184⟩, A510, H⟩ := H
                     replace H : (if t184 = true then (if ((rd_T26 ((rd_T29 l0_0 x74_3).f2) x91_5).f0) = 1 then (if ((rd_T26 ((rd_T29 l0_0 x74_3).f2) x91_5).f0) = 20 then (if t181 > 6 then (some (([] : List (List Int)), 1)) else (tourref5_ProgFault.l2 k5 l0_0 (l0_0.length : Int) x74_3 ((rd_T29 l0_0 x74_3).f2) (((rd_T29 l0_0 x74_3).f2).length : Int) (wrap64 (x91_5 + 1)) l0_0 a0_1 ((rd_T29 l0_0 x74_3).f0) ((rd_T29 l0_0 x74_3).f1) ((rd_T29 l0_0 x74_3).f2))) else (tourref5_ProgFault.l2 k5 l0_0 (l0_0.length : Int) x74_3 ((rd_T29 l0_0 x74_3).f2) (((rd_T29 l0_0 x74_3).f2).length : Int) (wrap64 (x91_5 + 1)) l0_0 a0_1 ((rd_T29 l0_0 x74_3).f0) ((rd_T29 l0_0 x74_3).f1) ((rd_T29 l0_0 x74_3).f2))) else (if ((rd_T26 ((rd_T29 l0_0 x74_3).f2) x91_5).f1) < 0 then (some (([] : List (List Int)), 1)) else (if ((rd_T26 ((rd_T29 l0_0 x74_3).f2) x91_5).f1) ≥ t183 then (some (([] : List (List Int)), 1)) else (if ((rd_T26 ((rd_T29 l0_0 x74_3).f2) x91_5).f0) = 20 then (if t181 > 6 then (some (([] : List (List Int)), 1)) else (tourref5_ProgFault.l2 k5 l0_0 (l0_0.length : Int) x74_3 ((rd_T29 l0_0 x74_3).f2) (((rd_T29 l0_0 x74_3).f2).length : Int) (wrap64 (x91_5 + 1)) l0_0 a0_1 ((rd_T29 l0_0 x74_3).f0) ((rd_T29 l0_0 x74_3).f1) ((rd_T29 l0_0 x74_3).f2))) else (tourref5_ProgFault.l2 k5 l0_0 (l0_0.length : Int) x74_3 ((rd_T29 l0_0 x74_3).f2) (((rd_T29 l0_0 x74_3).f2).length : Int) (wrap64 (x91_5 + 1)) l0_0 a0_1 ((rd_T29 l0_0 x74_3).f0) ((rd_T29 l0_0 x74_3).f1) ((rd_T29 l0_0 x74_3).f2)))))) else (some (([] : List (List Int)), 3))) = some (r1, r2) := H
                     have A51 := Aside0.mk A510
                     clear A510
                     by_cases c52 : t184 = true
                     ·subst c52
                      have H1 : (if ((rd_T26 ((rd_T29 l0_0 x74_3).f2) x91_5).f0) = 1 then (if ((rd_T26 ((rd_T29 l0_0 x74_3).f2) x91_5).f0) = 20 then (if t181 > 6 then (some (([] : List (List Int)), 1)) else (tourref5_ProgFault.l2 k5 l0_0 (l0_0.length : Int) x74_3 ((rd_T29 l0_0 x74_3).f2) (((rd_T29 l0_0 x74_3).f2).length : Int) (wrap64 (x91_5 + 1)) l0_0 a0_1 ((rd_T29 l0_0 x74_3).f0) ((rd_T29 l0_0 x74_3).f1) ((rd_T29 l0_0 x74_3).f2))) else (tourref5_ProgFault.l2 k5 l0_0 (l0_0.length : Int) x74_3 ((rd_T29 l0_0 x74_3).f2) (((rd_T29 l0_0 x74_3).f2).length : Int) (wrap64 (x91_5 + 1)) l0_0 a0_1 ((rd_T29 l0_0 x74_3).f0) ((rd_T29 l0_0 x74_3).f1) ((rd_T29 l0_0 x74_3).f2))) else (if ((rd_T26 ((rd_T29 l0_0 x74_3).f2) x91_5).f1) < 0 then (some (([] : List (List Int)), 1)) else (if ((rd_T26 ((rd_T29 l0_0 x74_3).f2) x91_5).f1) ≥ t183 then (some (([] : List (List Int)), 1)) else (if ((rd_T26 ((rd_T29 l0_0 x74_3).f2) x91_5).f0) = 20 then (if t181 > 6 then (some (([] : List (List Int)), 1)) else (tourref5_ProgFault.l2 k5 l0_0 (l0_0.length : Int) x74_3 ((rd_T29 l0_0 x74_3).f2) (((rd_T29 l0_0 x74_3).f2).length : Int) (wrap64 (x91_5 + 1)) l0_0 a0_1 ((rd_T29 l0_0 x74_3).f0) ((rd_T29 l0_0 x74_3).f1) ((rd_T29 l0_0 x74_3).f2))) else (tourref5_ProgFault.l2 k5 l0_0 (l0_0.length : Int) x74_3 ((rd_T29 l0_0 x74_3).f2) (((rd_T29 l0_0 x74_3).f2).length : Int) (wrap64 (x91_5 + 1)) l0_0 a0_1 ((rd_T29 l0_0 x74_3).f0) ((rd_T29 l0_0 x74_3).f1) ((rd_T29 l0_0 x74_3).f2)))))) = some (r1, r2) := by rw [if_pos rfl] at H; exact H
                      clear H
                      have H := H1
                      clear H1
                      by_cases c53 : ((rd_T26 ((rd_T29 l0_0 x74_3).f2) x91_5).f0) = 1
                      ·rw [if_pos c53] at H
                       have c53b0 : (((rd_T26 ((rd_T29 l0_0 x74_3).f2) x91_5).f0) == 1) = true := beq_iff_eq.mpr c53
                       have c53b1 : (((rd_T26 ((rd_T29 l0_0 x74_3).f2) x91_5).f0) != 1) = false := bne_eq_false_iff_eq.mpr c53
                       clear c53
                       by_cases c54 : ((rd_T26 ((rd_T29 l0_0 x74_3).f2) x91_5).f0) = 20
                       ·rw [if_pos c54] at H
                        have c54b0 : (((rd_T26 ((rd_T29 l0_0 x74_3).f2) x91_5).f0) == 20) = true := beq_iff_eq.mpr c54
                        have c54b1 : (((rd_T26 ((rd_T29 l0_0 x74_3).f2) x91_5).f0) != 20) = false := bne_eq_false_iff_eq.mpr c54
                        clear c54
                        by_cases c55 : t181 > 6
                        ·rw [if_pos c55] at H
                         have c55b0 : decide (6 < t181) = true := decide_eq_true c55
                         clear c55
                         simp only [Option.some.injEq, Prod.mk.injEq] at H
                         obtain ⟨rfl, rfl⟩ := H
                         have p179 : 0 ≤ (x91_5 : Int) := of_decide_eq_true (by first | (with_reducible assumption) | assumption)
                         have q179 : x91_5 < (((rd_T29 l0_0 x74_3).f2).length : Int) := of_decide_eq_true (by first | (with_reducible assumption) | assumption)
                         obtain ⟨ad179, e179, hx179_0, hx179_1⟩ := at_T26 HR177_2.out x91_5 p179 q179
                         cases e179
                         replace hx179_0 := (HB.out.cell (World.block_lt_of_cell? w _ hx179_0)).trans hx179_0
                         replace hx179_1 := (HB.out.cell (World.block_lt_of_cell? w _ hx179_1)).trans hx179_1
                         replace p179 := eq_true p179
                         replace q179 := eq_true q179
                         go_wp2_with (first | ((with_reducible refine gate_dst (N := 10) rfl ?_); (try (refine gate_guard (by rfl) ?_; dsimp only)); refine box_event ?hg (N := 10) ?hd (cs := #[.int .i64 0, .int .i64 0]) (t := 26) ?hr ?_; (case hd => rfl); (case hg => rfl); (case hr => first | (go_simp; done) | (go_simp; rfl)); intro gb180 hg w56 hbox hb; have n0_ := Aside0.mk (bb hb BK173.out); have n1_ := Aside0.mk (bb hb BK178.out); have n2_ := Aside0.mk (below_step (by repeat (first | (with_reducible first | exact HB.out | apply below_alloc | apply pw_below_drewN | apply below_drew1 | refine below_set ?_ GE173.out | refine below_set ?_ GE178.out) | exact HB.out)) hb); have n3_ := Aside0.mk (hbox); have n4_ := Aside0.mk ((by rw [hg]; exact (below_size (by repeat (first | (with_reducible first | exact HB.out | apply below_alloc | apply pw_below_drewN | apply below_drew1 | refine below_set ?_ GE173.out | refine below_set ?_ GE178.out) | exact HB.out))) : w.heap.size ≤ gb180)); have n5_ := Aside0.mk ((by rw [hg]; exact (below_size (by repeat (first | (with_reducible first | exact HB.out | apply below_alloc | apply pw_below_drewN | apply below_drew1 | refine below_set ?_ GE173.out | refine below_set ?_ GE178.out) | exact HB.out))) : w.heap.size ≤ gb180)); have n6_ := Aside0.mk (nl hg BK173.out); have n7_ := Aside0.mk (ng hg BK173.out); have n8_ := Aside0.mk (nl hg BK178.out); have n9_ := Aside0.mk (ng hg BK178.out); clear BK173; clear BK178; clear HB; have BK173 := n0_; have BK178 := n1_; have HB := n2_; have BK180 := n3_; have GW180 := n4_; have GE180 := n5_; have NB173_180 := n6_; have NB180_173 := n7_; have NB178_180 := n8_; have NB180_178 := n9_; clear n0_ n1_ n2_ n3_ n4_ n5_ n6_ n7_ n8_ n9_; clear hb hbox hg; have hnb57 := NB180_173.out; have hnc57 := NB173_180.out; have hnb58 := NB180_178.out; have hnc58 := NB178_180.out; obtain ⟨hcz59_0, hcz59_1⟩ := blk2 BK180.out; obtain ⟨hfz59_0, hfz59_1⟩ := frz2 BK180.out; have hnb60 := NB173_178.out; have hnc60 := NB178_173.out; obtain ⟨hcz61_0, hcz61_1⟩ := blk2 BK173.out; obtain ⟨hfz61_0, hfz61_1⟩ := frz2 BK173.out; have hcz62_0 : w56.cell? ⟨gb178, 0, none⟩ = some (.int .i64 ((rd_T29 l0_0 x74_3).f0)) := (blk_cell BK178.out 0).trans rfl; have hcz62_1 : w56.cell? ⟨gb178, 1, none⟩ = some (.int .i64 ((rd_T29 l0_0 x74_3).f1)) := (blk_cell BK178.out 1).trans rfl; have hcz62_2 : w56.cell? ⟨gb178, 2, none⟩ = some (.slice (some ad179) ((rd_T29 l0_0 x74_3).f2).length c177_2) := (blk_cell BK178.out 2).trans rfl; have hfz62_0 := blk_frozen BK178.out 0; have hfz62_1 := blk_frozen BK178.out 1; have hfz62_2 := blk_frozen BK178.out 2) | ((with_reducible refine gate_callee (f := 41) rfl ?_); refine goesL_ (some 99) rfl rfl Try.func41 (by kernel_rfl) rfl #[.agg #[.slice (some ad177) l0_0.length c0_0, .int .i64 a0_1], .agg #[.int .i64 ((rd_T29 l0_0 x74_3).f0), .int .i64 ((rd_T29 l0_0 x74_3).f1), .slice (some ad179) ((rd_T29 l0_0 x74_3).f2).length c177_2], .agg #[.int .i64 ((rd_T26 ((rd_T29 l0_0 x74_3).f2) x91_5).f0), .int .i64 ((rd_T26 ((rd_T29 l0_0 x74_3).f2) x91_5).f1)]] rfl (by (try simp only [zm1, zm2, zm3]); first | done | rfl) ?_; (with_reducible refine (tourref5_opOf.calls _ _ l0_0 a0_1 ((rd_T29 l0_0 x74_3).f0) ((rd_T29 l0_0 x74_3).f1) _ _ ((rd_T29 l0_0 x74_3).f2) ((rd_T26 ((rd_T29 l0_0 x74_3).f2) x91_5).f0) ((rd_T26 ((rd_T29 l0_0 x74_3).f2) x91_5).f1) t181 t182 t183 true _ ?side1 ?side2 ?side3 ?side4 A51.out).mono ?_); (case side1 => exact Kd.C_below HR0_0.out (by repeat (first | (with_reducible first | exact HB.out | apply below_alloc | apply pw_below_drewN | apply below_drew1 | refine below_set ?_ GE173.out | refine below_set ?_ GE178.out | refine below_set ?_ GE180.out) | exact HB.out))); (case side2 => exact HC0_0.out); (case side3 => exact Kd.C_below HR177_2.out (by repeat (first | (with_reducible first | exact HB.out | apply below_alloc | apply pw_below_drewN | apply below_drew1 | refine below_set ?_ GE173.out | refine below_set ?_ GE178.out | refine below_set ?_ GE180.out) | exact HB.out))); (case side4 => exact HC177_2.out); rintro e w63 ⟨rfl, hb⟩; refine ⟨_, rfl, ?_⟩; have n0_ := Aside0.mk (blk_below (g := gb173) (o := .cells #[.slice (some ad177) l0_0.length c0_0, .int .i64 a0_1] 24 (0, 0)) (by (with_reducible repeat (first | refine blk_drewN ?_ _ | refine blk_drew ?_ | refine blk_alloc ?_ _)); refine blk_far ?_ NB173_180.out _; refine blk_far ?_ NB173_180.out _; exact BK173.out) hb); have n1_ := Aside0.mk (blk_below (g := gb178) (o := .cells #[.int .i64 ((rd_T29 l0_0 x74_3).f0), .int .i64 ((rd_T29 l0_0 x74_3).f1), .slice (some ad179) ((rd_T29 l0_0 x74_3).f2).length c177_2] 29 (0, 0)) (by (with_reducible repeat (first | refine blk_drewN ?_ _ | refine blk_drew ?_ | refine blk_alloc ?_ _)); refine blk_far ?_ NB178_180.out _; refine blk_far ?_ NB178_180.out _; exact BK178.out) hb); have n2_ := Aside0.mk (blk_below (g := gb180) (o := .cells #[.int .i64 ((rd_T26 ((rd_T29 l0_0 x74_3).f2) x91_5).f0), .int .i64 ((rd_T26 ((rd_T29 l0_0 x74_3).f2) x91_5).f1)] 26 (0, 0)) (by (with_reducible repeat (first | refine blk_drewN ?_ _ | refine blk_drew ?_ | refine blk_alloc ?_ _)); refine blk_put (cs := #[.int .i64 ((rd_T26 ((rd_T29 l0_0 x74_3).f2) x91_5).f0), .int .i64 0]) ?_ 1 _ rfl; refine blk_put (cs := #[.int .i64 0, .int .i64 0]) ?_ 0 _ rfl; exact BK180.out) hb); have n3_ := Aside0.mk (below_step (by repeat (first | (with_reducible first | exact HB.out | apply below_alloc | apply pw_below_drewN | apply below_drew1 | refine below_set ?_ GE173.out | refine below_set ?_ GE178.out | refine below_set ?_ GE180.out) | exact HB.out)) hb); clear BK173; clear BK178; clear BK180; clear HB; have BK173 := n0_; have BK178 := n1_; have BK180 := n2_; have HB := n3_; clear n0_ n1_ n2_ n3_; (try clear hb); (try clear hb2); (try clear hk); (try clear hi); obtain ⟨hcz64_0, hcz64_1⟩ := blk2 BK180.out; obtain ⟨hfz64_0, hfz64_1⟩ := frz2 BK180.out))
                         go_ret2
                         exact ⟨_, by first | rfl | (simp [errW_none, errW_some] <;> rfl) | (simp [*, errW_none, errW_some] <;> rfl), by first | exact Kd.S_nil _ _ _ _ _ | exact Kd.N_nil _ _ _ _ _ | exact Kd.V_nil _ _ _ _ _ | exact Kd.Q_nil _ _ _ _ _ | exact Kd.R_nil _ _ _ _ _, by repeat (first | (with_reducible first | exact HB.out | apply below_alloc | apply pw_below_drewN | apply below_drew1 | refine below_set ?_ GE173.out | refine below_set ?_ GE178.out | refine below_set ?_ GE180.out) | exact HB.out)⟩
                        ·rw [if_neg c55] at H
                         have c55b0 : decide (6 < t181) = false := decide_eq_false c55
                         clear c55
                         have H' := Aside0.mk H
                         clear H
                         have p179 : 0 ≤ (x91_5 : Int) := of_decide_eq_true (by first | (with_reducible assumption) | assumption)
                         have q179 : x91_5 < (((rd_T29 l0_0 x74_3).f2).length : Int) := of_decide_eq_true (by first | (with_reducible assumption) | assumption)
                         obtain ⟨ad179, e179, hx179_0, hx179_1⟩ := at_T26 HR177_2.out x91_5 p179 q179
                         cases e179
                         replace hx179_0 := (HB.out.cell (World.block_lt_of_cell? w _ hx179_0)).trans hx179_0
                         replace hx179_1 := (HB.out.cell (World.block_lt_of_cell? w _ hx179_1)).trans hx179_1
                         replace p179 := eq_true p179
                         replace q179 := eq_true q179
                         go_wp2_with (first | ((with_reducible refine gate_dst (N := 10) rfl ?_); (try (refine gate_guard (by rfl) ?_; dsimp only)); refine box_event ?hg (N := 10) ?hd (cs := #[.int .i64 0, .int .i64 0]) (t := 26) ?hr ?_; (case hd => rfl); (case hg => rfl); (case hr => first | (go_simp; done) | (go_simp; rfl)); intro gb180 hg w65 hbox hb; have n0_ := Aside0.mk (bb hb BK173.out); have n1_ := Aside0.mk (bb hb BK178.out); have n2_ := Aside0.mk (below_step (by repeat (first | (with_reducible first | exact HB.out | apply below_alloc | apply pw_below_drewN | apply below_drew1 | refine below_set ?_ GE173.out | refine below_set ?_ GE178.out) | exact HB.out)) hb); have n3_ := Aside0.mk (hbox); have n4_ := Aside0.mk ((by rw [hg]; exact (below_size (by repeat (first | (with_reducible first | exact HB.out | apply below_alloc | apply pw_below_drewN | apply below_drew1 | refine below_set ?_ GE173.out | refine below_set ?_ GE178.out) | exact HB.out))) : w.heap.size ≤ gb180)); have n5_ := Aside0.mk ((by rw [hg]; exact (below_size (by repeat (first | (with_reducible first | exact HB.out | apply below_alloc | apply pw_below_drewN | apply below_drew1 | refine below_set ?_ GE173.out | refine below_set ?_ GE178.out) | exact HB.out))) : w.heap.size ≤ gb180)); have n6_ := Aside0.mk (nl hg BK173.out); have n7_ := Aside0.mk (ng hg BK173.out); have n8_ := Aside0.mk (nl hg BK178.out); have n9_ := Aside0.mk (ng hg BK178.out); clear BK173; clear BK178; clear HB; have BK173 := n0_; have BK178 := n1_; have HB := n2_; have BK180 := n3_; have GW180 := n4_; have GE180 := n5_; have NB173_180 := n6_; have NB180_173 := n7_; have NB178_180 := n8_; have NB180_178 := n9_; clear n0_ n1_ n2_ n3_ n4_ n5_ n6_ n7_ n8_ n9_; clear hb hbox hg; have hnb66 := NB180_173.out; have hnc66 := NB173_180.out; have hnb67 := NB180_178.out; have hnc67 := NB178_180.out; obtain ⟨hcz68_0, hcz68_1⟩ := blk2 BK180.out; obtain ⟨hfz68_0, hfz68_1⟩ := frz2 BK180.out; have hnb69 := NB173_178.out; have hnc69 := NB178_173.out; obtain ⟨hcz70_0, hcz70_1⟩ := blk2 BK173.out; obtain ⟨hfz70_0, hfz70_1⟩ := frz2 BK173.out; have hcz71_0 : w65.cell? ⟨gb178, 0, none⟩ = some (.int .i64 ((rd_T29 l0_0 x74_3).f0)) := (blk_cell BK178.out 0).trans rfl; have hcz71_1 : w65.cell? ⟨gb178, 1, none⟩ = some (.int .i64 ((rd_T29 l0_0 x74_3).f1)) := (blk_cell BK178.out 1).trans rfl; have hcz71_2 : w65.cell? ⟨gb178, 2, none⟩ = some (.slice (some ad179) ((rd_T29 l0_0 x74_3).f2).length c177_2) := (blk_cell BK178.out 2).trans rfl; have hfz71_0 := blk_frozen BK178.out 0; have hfz71_1 := blk_frozen BK178.out 1; have hfz71_2 := blk_frozen BK178.out 2) | ((with_reducible refine gate_callee (f := 41) rfl ?_); refine goesL_ (some 99) rfl rfl Try.func41 (by kernel_rfl) rfl #[.agg #[.slice (some ad177) l0_0.length c0_0, .int .i64 a0_1], .agg #[.int .i64 ((rd_T29 l0_0 x74_3).f0), .int .i64 ((rd_T29 l0_0 x74_3).f1), .slice (some ad179) ((rd_T29 l0_0 x74_3).f2).length c177_2], .agg #[.int .i64 ((rd_T26 ((rd_T29 l0_0 x74_3).f2) x91_5).f0), .int .i64 ((rd_T26 ((rd_T29 l0_0 x74_3).f2) x91_5).f1)]] rfl (by (try simp only [zm1, zm2, zm3]); first | done | rfl) ?_; (with_reducible refine (tourref5_opOf.calls _ _ l0_0 a0_1 ((rd_T29 l0_0 x74_3).f0) ((rd_T29 l0_0 x74_3).f1) _ _ ((rd_T29 l0_0 x74_3).f2) ((rd_T26 ((rd_T29 l0_0 x74_3).f2) x91_5).f0) ((rd_T26 ((rd_T29 l0_0 x74_3).f2) x91_5).f1) t181 t182 t183 true _ ?side1 ?side2 ?side3 ?side4 A51.out).mono ?_); (case side1 => exact Kd.C_below HR0_0.out (by repeat (first | (with_reducible first | exact HB.out | apply below_alloc | apply pw_below_drewN | apply below_drew1 | refine below_set ?_ GE173.out | refine below_set ?_ GE178.out | refine below_set ?_ GE180.out) | exact HB.out))); (case side2 => exact HC0_0.out); (case side3 => exact Kd.C_below HR177_2.out (by repeat (first | (with_reducible first | exact HB.out | apply below_alloc | apply pw_below_drewN | apply below_drew1 | refine below_set ?_ GE173.out | refine below_set ?_ GE178.out | refine below_set ?_ GE180.out) | exact HB.out))); (case side4 => exact HC177_2.out); rintro e w72 ⟨rfl, hb⟩; refine ⟨_, rfl, ?_⟩; have n0_ := Aside0.mk (blk_below (g := gb173) (o := .cells #[.slice (some ad177) l0_0.length c0_0, .int .i64 a0_1] 24 (0, 0)) (by (with_reducible repeat (first | refine blk_drewN ?_ _ | refine blk_drew ?_ | refine blk_alloc ?_ _)); refine blk_far ?_ NB173_180.out _; refine blk_far ?_ NB173_180.out _; exact BK173.out) hb); have n1_ := Aside0.mk (blk_below (g := gb178) (o := .cells #[.int .i64 ((rd_T29 l0_0 x74_3).f0), .int .i64 ((rd_T29 l0_0 x74_3).f1), .slice (some ad179) ((rd_T29 l0_0 x74_3).f2).length c177_2] 29 (0, 0)) (by (with_reducible repeat (first | refine blk_drewN ?_ _ | refine blk_drew ?_ | refine blk_alloc ?_ _)); refine blk_far ?_ NB178_180.out _; refine blk_far ?_ NB178_180.out _; exact BK178.out) hb); have n2_ := Aside0.mk (blk_below (g := gb180) (o := .cells #[.int .i64 ((rd_T26 ((rd_T29 l0_0 x74_3).f2) x91_5).f0), .int .i64 ((rd_T26 ((rd_T29 l0_0 x74_3).f2) x91_5).f1)] 26 (0, 0)) (by (with_reducible repeat (first | refine blk_drewN ?_ _ | refine blk_drew ?_ | refine blk_alloc ?_ _)); refine blk_put (cs := #[.int .i64 ((rd_T26 ((rd_T29 l0_0 x74_3).f2) x91_5).f0), .int .i64 0]) ?_ 1 _ rfl; refine blk_put (cs := #[.int .i64 0, .int .i64 0]) ?_ 0 _ rfl; exact BK180.out) hb); have n3_ := Aside0.mk (below_step (by repeat (first | (with_reducible first | exact HB.out | apply below_alloc | apply pw_below_drewN | apply below_drew1 | refine below_set ?_ GE173.out | refine below_set ?_ GE178.out | refine below_set ?_ GE180.out) | exact HB.out)) hb); clear BK173; clear BK178; clear BK180; clear HB; have BK173 := n0_; have BK178 := n1_; have BK180 := n2_; have HB := n3_; clear n0_ n1_ n2_ n3_; (try clear hb); (try clear hb2); (try clear hk); (try clear hi); obtain ⟨hcz73_0, hcz73_1⟩ := blk2 BK180.out; obtain ⟨hfz73_0, hfz73_1⟩ := frz2 BK180.out))
                         go_roundg k5
                         case measure => have := HK1.out; have := HJ22.out; have := HK3.out; have := HJ35.out; have := HK5.out; omega
                         case rel => exact ⟨(wrap64 (x91_5 + 1)), (by first | rfl | (simp; done) | (simp [*]; done)), H', ⟨by have := HK1.out; have := HJ22.out; have := HK3.out; have := HJ35.out; have := HK5.out; omega⟩, ⟨BK173.out⟩, ⟨BK178.out⟩, ⟨by repeat (first | (with_reducible first | exact HB.out | apply below_alloc | apply pw_below_drewN | apply below_drew1 | refine below_set ?_ GE173.out | refine below_set ?_ GE178.out | refine below_set ?_ GE180.out) | exact HB.out)⟩⟩
                       ·rw [if_neg c54] at H
                        have c54b0 : (((rd_T26 ((rd_T29 l0_0 x74_3).f2) x91_5).f0) == 20) = false := beq_eq_false_iff_ne.mpr c54
                        have c54b1 : (((rd_T26 ((rd_T29 l0_0 x74_3).f2) x91_5).f0) != 20) = true := bne_iff_ne.mpr c54
                        have H' := Aside0.mk H
                        clear H
                        have p179 : 0 ≤ (x91_5 : Int) := of_decide_eq_true (by first | (with_reducible assumption) | assumption)
                        have q179 : x91_5 < (((rd_T29 l0_0 x74_3).f2).length : Int) := of_decide_eq_true (by first | (with_reducible assumption) | assumption)
                        obtain ⟨ad179, e179, hx179_0, hx179_1⟩ := at_T26 HR177_2.out x91_5 p179 q179
                        cases e179
                        replace hx179_0 := (HB.out.cell (World.block_lt_of_cell? w _ hx179_0)).trans hx179_0
                        replace hx179_1 := (HB.out.cell (World.block_lt_of_cell? w _ hx179_1)).trans hx179_1
                        replace p179 := eq_true p179
                        replace q179 := eq_true q179
                        go_wp2_with (first | ((with_reducible refine gate_dst (N := 10) rfl ?_); (try (refine gate_guard (by rfl) ?_; dsimp only)); refine box_event ?hg (N := 10) ?hd (cs := #[.int .i64 0, .int .i64 0]) (t := 26) ?hr ?_; (case hd => rfl); (case hg => rfl); (case hr => first | (go_simp; done) | (go_simp; rfl)); intro gb180 hg w74 hbox hb; have n0_ := Aside0.mk (bb hb BK173.out); have n1_ := Aside0.mk (bb hb BK178.out); have n2_ := Aside0.mk (below_step (by repeat (first | (with_reducible first | exact HB.out | apply below_alloc | apply pw_below_drewN | apply below_drew1 | refine below_set ?_ GE173.out | refine below_set ?_ GE178.out) | exact HB.out)) hb); have n3_ := Aside0.mk (hbox); have n4_ := Aside0.mk ((by rw [hg]; exact (below_size (by repeat (first | (with_reducible first | exact HB.out | apply below_alloc | apply pw_below_drewN | apply below_drew1 | refine below_set ?_ GE173.out | refine below_set ?_ GE178.out) | exact HB.out))) : w.heap.size ≤ gb180)); have n5_ := Aside0.mk ((by rw [hg]; exact (below_size (by repeat (first | (with_reducible first | exact HB.out | apply below_alloc | apply pw_below_drewN | apply below_drew1 | refine below_set ?_ GE173.out | refine below_set ?_ GE178.out) | exact HB.out))) : w.heap.size ≤ gb180)); have n6_ := Aside0.mk (nl hg BK173.out); have n7_ := Aside0.mk (ng hg BK173.out); have n8_ := Aside0.mk (nl hg BK178.out); have n9_ := Aside0.mk (ng hg BK178.out); clear BK173; clear BK178; clear HB; have BK173 := n0_; have BK178 := n1_; have HB := n2_; have BK180 := n3_; have GW180 := n4_; have GE180 := n5_; have NB173_180 := n6_; have NB180_173 := n7_; have NB178_180 := n8_; have NB180_178 := n9_; clear n0_ n1_ n2_ n3_ n4_ n5_ n6_ n7_ n8_ n9_; clear hb hbox hg; have hnb75 := NB180_173.out; have hnc75 := NB173_180.out; have hnb76 := NB180_178.out; have hnc76 := NB178_180.out; obtain ⟨hcz77_0, hcz77_1⟩ := blk2 BK180.out; obtain ⟨hfz77_0, hfz77_1⟩ := frz2 BK180.out; have hnb78 := NB173_178.out; have hnc78 := NB178_173.out; obtain ⟨hcz79_0, hcz79_1⟩ := blk2 BK173.out; obtain ⟨hfz79_0, hfz79_1⟩ := frz2 BK173.out; have hcz80_0 : w74.cell? ⟨gb178, 0, none⟩ = some (.int .i64 ((rd_T29 l0_0 x74_3).f0)) := (blk_cell BK178.out 0).trans rfl; have hcz80_1 : w74.cell? ⟨gb178, 1, none⟩ = some (.int .i64 ((rd_T29 l0_0 x74_3).f1)) := (blk_cell BK178.out 1).trans rfl; have hcz80_2 : w74.cell? ⟨gb178, 2, none⟩ = some (.slice (some ad179) ((rd_T29 l0_0 x74_3).f2).length c177_2) := (blk_cell BK178.out 2).trans rfl; have hfz80_0 := blk_frozen BK178.out 0; have hfz80_1 := blk_frozen BK178.out 1; have hfz80_2 := blk_frozen BK178.out 2) | ((with_reducible refine gate_callee (f := 41) rfl ?_); refine goesL_ (some 99) rfl rfl Try.func41 (by kernel_rfl) rfl #[.agg #[.slice (some ad177) l0_0.length c0_0, .int .i64 a0_1], .agg #[.int .i64 ((rd_T29 l0_0 x74_3).f0), .int .i64 ((rd_T29 l0_0 x74_3).f1), .slice (some ad179) ((rd_T29 l0_0 x74_3).f2).length c177_2], .agg #[.int .i64 ((rd_T26 ((rd_T29 l0_0 x74_3).f2) x91_5).f0), .int .i64 ((rd_T26 ((rd_T29 l0_0 x74_3).f2) x91_5).f1)]] rfl (by (try simp only [zm1, zm2, zm3]); first | done | rfl) ?_; (with_reducible refine (tourref5_opOf.calls _ _ l0_0 a0_1 ((rd_T29 l0_0 x74_3).f0) ((rd_T29 l0_0 x74_3).f1) _ _ ((rd_T29 l0_0 x74_3).f2) ((rd_T26 ((rd_T29 l0_0 x74_3).f2) x91_5).f0) ((rd_T26 ((rd_T29 l0_0 x74_3).f2) x91_5).f1) t181 t182 t183 true _ ?side1 ?side2 ?side3 ?side4 A51.out).mono ?_); (case side1 => exact Kd.C_below HR0_0.out (by repeat (first | (with_reducible first | exact HB.out | apply below_alloc | apply pw_below_drewN | apply below_drew1 | refine below_set ?_ GE173.out | refine below_set ?_ GE178.out | refine below_set ?_ GE180.out) | exact HB.out))); (case side2 => exact HC0_0.out); (case side3 => exact Kd.C_below HR177_2.out (by repeat (first | (with_reducible first | exact HB.out | apply below_alloc | apply pw_below_drewN | apply below_drew1 | refine below_set ?_ GE173.out | refine below_set ?_ GE178.out | refine below_set ?_ GE180.out) | exact HB.out))); (case side4 => exact HC177_2.out); rintro e w81 ⟨rfl, hb⟩; refine ⟨_, rfl, ?_⟩; have n0_ := Aside0.mk (blk_below (g := gb173) (o := .cells #[.slice (some ad177) l0_0.length c0_0, .int .i64 a0_1] 24 (0, 0)) (by (with_reducible repeat (first | refine blk_drewN ?_ _ | refine blk_drew ?_ | refine blk_alloc ?_ _)); refine blk_far ?_ NB173_180.out _; refine blk_far ?_ NB173_180.out _; exact BK173.out) hb); have n1_ := Aside0.mk (blk_below (g := gb178) (o := .cells #[.int .i64 ((rd_T29 l0_0 x74_3).f0), .int .i64 ((rd_T29 l0_0 x74_3).f1), .slice (some ad179) ((rd_T29 l0_0 x74_3).f2).length c177_2] 29 (0, 0)) (by (with_reducible repeat (first | refine blk_drewN ?_ _ | refine blk_drew ?_ | refine blk_alloc ?_ _)); refine blk_far ?_ NB178_180.out _; refine blk_far ?_ NB178_180.out _; exact BK178.out) hb); have n2_ := Aside0.mk (blk_below (g := gb180) (o := .cells #[.int .i64 ((rd_T26 ((rd_T29 l0_0 x74_3).f2) x91_5).f0), .int .i64 ((rd_T26 ((rd_T29 l0_0 x74_3).f2) x91_5).f1)] 26 (0, 0)) (by (with_reducible repeat (first | refine blk_drewN ?_ _ | refine blk_drew ?_ | refine blk_alloc ?_ _)); refine blk_put (cs := #[.int .i64 ((rd_T26 ((rd_T29 l0_0 x74_3).f2) x91_5).f0), .int .i64 0]) ?_ 1 _ rfl; refine blk_put (cs := #[.int .i64 0, .int .i64 0]) ?_ 0 _ rfl; exact BK180.out) hb); have n3_ := Aside0.mk (below_step (by repeat (first | (with_reducible first | exact HB.out | apply below_alloc | apply pw_below_drewN | apply below_drew1 | refine below_set ?_ GE173.out | refine below_set ?_ GE178.out | refine below_set ?_ GE180.out) | exact HB.out)) hb); clear BK173; clear BK178; clear BK180; clear HB; have BK173 := n0_; have BK178 := n1_; have BK180 := n2_; have HB := n3_; clear n0_ n1_ n2_ n3_; (try clear hb); (try clear hb2); (try clear hk); (try clear hi); obtain ⟨hcz82_0, hcz82_1⟩ := blk2 BK180.out; obtain ⟨hfz82_0, hfz82_1⟩ := frz2 BK180.out))
                        go_roundg k5
                        case measure => have := HK1.out; have := HJ22.out; have := HK3.out; have := HJ35.out; have := HK5.out; omega
                        case rel => exact ⟨(wrap64 (x91_5 + 1)), (by first | rfl | (simp; done) | (simp [*]; done)), H', ⟨by have := HK1.out; have := HJ22.out; have := HK3.out; have := HJ35.out; have := HK5.out; omega⟩, ⟨BK173.out⟩, ⟨BK178.out⟩, ⟨by repeat (first | (with_reducible first | exact HB.out | apply below_alloc | apply pw_below_drewN | apply below_drew1 | refine below_set ?_ GE173.out | refine below_set ?_ GE178.out | refine below_set ?_ GE180.out) | exact HB.out)⟩⟩
                      ·rw [if_neg c53] at H
                       have c53b0 : (((rd_T26 ((rd_T29 l0_0 x74_3).f2) x91_5).f0) == 1) = false := beq_eq_false_iff_ne.mpr c53
                       have c53b1 : (((rd_T26 ((rd_T29 l0_0 x74_3).f2) x91_5).f0) != 1) = true := bne_iff_ne.mpr c53
                       by_cases c83 : ((rd_T26 ((rd_T29 l0_0 x74_3).f2) x91_5).f1) < 0
                       ·rw [if_pos c83] at H
                        have c83b0 : decide (((rd_T26 ((rd_T29 l0_0 x74_3).f2) x91_5).f1) < 0) = true := decide_eq_true c83
                        clear c83
                        simp only [Option.some.injEq, Prod.mk.injEq] at H
                        obtain ⟨rfl, rfl⟩ := H
                        have p179 : 0 ≤ (x91_5 : Int) := of_decide_eq_true (by first | (with_reducible assumption) | assumption)
                        have q179 : x91_5 < (((rd_T29 l0_0 x74_3).f2).length : Int) := of_decide_eq_true (by first | (with_reducible assumption) | assumption)
                        obtain ⟨ad179, e179, hx179_0, hx179_1⟩ := at_T26 HR177_2.out x91_5 p179 q179
                        cases e179
                        replace hx179_0 := (HB.out.cell (World.block_lt_of_cell? w _ hx179_0)).trans hx179_0
                        replace hx179_1 := (HB.out.cell (World.block_lt_of_cell? w _ hx179_1)).trans hx179_1
                        replace p179 := eq_true p179
                        replace q179 := eq_true q179
                        go_wp2_with (first | ((with_reducible refine gate_dst (N := 10) rfl ?_); (try (refine gate_guard (by rfl) ?_; dsimp only)); refine box_event ?hg (N := 10) ?hd (cs := #[.int .i64 0, .int .i64 0]) (t := 26) ?hr ?_; (case hd => rfl); (case hg => rfl); (case hr => first | (go_simp; done) | (go_simp; rfl)); intro gb180 hg w84 hbox hb; have n0_ := Aside0.mk (bb hb BK173.out); have n1_ := Aside0.mk (bb hb BK178.out); have n2_ := Aside0.mk (below_step (by repeat (first | (with_reducible first | exact HB.out | apply below_alloc | apply pw_below_drewN | apply below_drew1 | refine below_set ?_ GE173.out | refine below_set ?_ GE178.out) | exact HB.out)) hb); have n3_ := Aside0.mk (hbox); have n4_ := Aside0.mk ((by rw [hg]; exact (below_size (by repeat (first | (with_reducible first | exact HB.out | apply below_alloc | apply pw_below_drewN | apply below_drew1 | refine below_set ?_ GE173.out | refine below_set ?_ GE178.out) | exact HB.out))) : w.heap.size ≤ gb180)); have n5_ := Aside0.mk ((by rw [hg]; exact (below_size (by repeat (first | (with_reducible first | exact HB.out | apply below_alloc | apply pw_below_drewN | apply below_drew1 | refine below_set ?_ GE173.out | refine below_set ?_ GE178.out) | exact HB.out))) : w.heap.size ≤ gb180)); have n6_ := Aside0.mk (nl hg BK173.out); have n7_ := Aside0.mk (ng hg BK173.out); have n8_ := Aside0.mk (nl hg BK178.out); have n9_ := Aside0.mk (ng hg BK178.out); clear BK173; clear BK178; clear HB; have BK173 := n0_; have BK178 := n1_; have HB := n2_; have BK180 := n3_; have GW180 := n4_; have GE180 := n5_; have NB173_180 := n6_; have NB180_173 := n7_; have NB178_180 := n8_; have NB180_178 := n9_; clear n0_ n1_ n2_ n3_ n4_ n5_ n6_ n7_ n8_ n9_; clear hb hbox hg; have hnb85 := NB180_173.out; have hnc85 := NB173_180.out; have hnb86 := NB180_178.out; have hnc86 := NB178_180.out; obtain ⟨hcz87_0, hcz87_1⟩ := blk2 BK180.out; obtain ⟨hfz87_0, hfz87_1⟩ := frz2 BK180.out; have hnb88 := NB173_178.out; have hnc88 := NB178_173.out; obtain ⟨hcz89_0, hcz89_1⟩ := blk2 BK173.out; obtain ⟨hfz89_0, hfz89_1⟩ := frz2 BK173.out; have hcz90_0 : w84.cell? ⟨gb178, 0, none⟩ = some (.int .i64 ((rd_T29 l0_0 x74_3).f0)) := (blk_cell BK178.out 0).trans rfl; have hcz90_1 : w84.cell? ⟨gb178, 1, none⟩ = some (.int .i64 ((rd_T29 l0_0 x74_3).f1)) := (blk_cell BK178.out 1).trans rfl; have hcz90_2 : w84.cell? ⟨gb178, 2, none⟩ = some (.slice (some ad179) ((rd_T29 l0_0 x74_3).f2).length c177_2) := (blk_cell BK178.out 2).trans rfl; have hfz90_0 := blk_frozen BK178.out 0; have hfz90_1 := blk_frozen BK178.out 1; have hfz90_2 := blk_frozen BK178.out 2) | ((with_reducible refine gate_callee (f := 41) rfl ?_); refine goesL_ (some 99) rfl rfl Try.func41 (by kernel_rfl) rfl #[.agg #[.slice (some ad177) l0_0.length c0_0, .int .i64 a0_1], .agg #[.int .i64 ((rd_T29 l0_0 x74_3).f0), .int .i64 ((rd_T29 l0_0 x74_3).f1), .slice (some ad179) ((rd_T29 l0_0 x74_3).f2).length c177_2], .agg #[.int .i64 ((rd_T26 ((rd_T29 l0_0 x74_3).f2) x91_5).f0), .int .i64 ((rd_T26 ((rd_T29 l0_0 x74_3).f2) x91_5).f1)]] rfl (by (try simp only [zm1, zm2, zm3]); first | done | rfl) ?_; (with_reducible refine (tourref5_opOf.calls _ _ l0_0 a0_1 ((rd_T29 l0_0 x74_3).f0) ((rd_T29 l0_0 x74_3).f1) _ _ ((rd_T29 l0_0 x74_3).f2) ((rd_T26 ((rd_T29 l0_0 x74_3).f2) x91_5).f0) ((rd_T26 ((rd_T29 l0_0 x74_3).f2) x91_5).f1) t181 t182 t183 true _ ?side1 ?side2 ?side3 ?side4 A51.out).mono ?_); (case side1 => exact Kd.C_below HR0_0.out (by repeat (first | (with_reducible first | exact HB.out | apply below_alloc | apply pw_below_drewN | apply below_drew1 | refine below_set ?_ GE173.out | refine below_set ?_ GE178.out | refine below_set ?_ GE180.out) | exact HB.out))); (case side2 => exact HC0_0.out); (case side3 => exact Kd.C_below HR177_2.out (by repeat (first | (with_reducible first | exact HB.out | apply below_alloc | apply pw_below_drewN | apply below_drew1 | refine below_set ?_ GE173.out | refine below_set ?_ GE178.out | refine below_set ?_ GE180.out) | exact HB.out))); (case side4 => exact HC177_2.out); rintro e w91 ⟨rfl, hb⟩; refine ⟨_, rfl, ?_⟩; have n0_ := Aside0.mk (blk_below (g := gb173) (o := .cells #[.slice (some ad177) l0_0.length c0_0, .int .i64 a0_1] 24 (0, 0)) (by (with_reducible repeat (first | refine blk_drewN ?_ _ | refine blk_drew ?_ | refine blk_alloc ?_ _)); refine blk_far ?_ NB173_180.out _; refine blk_far ?_ NB173_180.out _; exact BK173.out) hb); have n1_ := Aside0.mk (blk_below (g := gb178) (o := .cells #[.int .i64 ((rd_T29 l0_0 x74_3).f0), .int .i64 ((rd_T29 l0_0 x74_3).f1), .slice (some ad179) ((rd_T29 l0_0 x74_3).f2).length c177_2] 29 (0, 0)) (by (with_reducible repeat (first | refine blk_drewN ?_ _ | refine blk_drew ?_ | refine blk_alloc ?_ _)); refine blk_far ?_ NB178_180.out _; refine blk_far ?_ NB178_180.out _; exact BK178.out) hb); have n2_ := Aside0.mk (blk_below (g := gb180) (o := .cells #[.int .i64 ((rd_T26 ((rd_T29 l0_0 x74_3).f2) x91_5).f0), .int .i64 ((rd_T26 ((rd_T29 l0_0 x74_3).f2) x91_5).f1)] 26 (0, 0)) (by (with_reducible repeat (first | refine blk_drewN ?_ _ | refine blk_drew ?_ | refine blk_alloc ?_ _)); refine blk_put (cs := #[.int .i64 ((rd_T26 ((rd_T29 l0_0 x74_3).f2) x91_5).f0), .int .i64 0]) ?_ 1 _ rfl; refine blk_put (cs := #[.int .i64 0, .int .i64 0]) ?_ 0 _ rfl; exact BK180.out) hb); have n3_ := Aside0.mk (below_step (by repeat (first | (with_reducible first | exact HB.out | apply below_alloc | apply pw_below_drewN | apply below_drew1 | refine below_set ?_ GE173.out | refine below_set ?_ GE178.out | refine below_set ?_ GE180.out) | exact HB.out)) hb); clear BK173; clear BK178; clear BK180; clear HB; have BK173 := n0_; have BK178 := n1_; have BK180 := n2_; have HB := n3_; clear n0_ n1_ n2_ n3_; (try clear hb); (try clear hb2); (try clear hk); (try clear hi); obtain ⟨hcz92_0, hcz92_1⟩ := blk2 BK180.out; obtain ⟨hfz92_0, hfz92_1⟩ := frz2 BK180.out))
                        go_ret2
                        exact ⟨_, by first | rfl | (simp [errW_none, errW_some] <;> rfl) | (simp [*, errW_none, errW_some] <;> rfl), by first | exact Kd.S_nil _ _ _ _ _ | exact Kd.N_nil _ _ _ _ _ | exact Kd.V_nil _ _ _ _ _ | exact Kd.Q_nil _ _ _ _ _ | exact Kd.R_nil _ _ _ _ _, by repeat (first | (with_reducible first | exact HB.out | apply below_alloc | apply pw_below_drewN | apply below_drew1 | refine below_set ?_ GE173.out | refine below_set ?_ GE178.out | refine below_set ?_ GE180.out) | exact HB.out)⟩
                       ·rw [if_neg c83] at H
                        have c83b0 : decide (((rd_T26 ((rd_T29 l0_0 x74_3).f2) x91_5).f1) < 0) = false := decide_eq_false c83
                        clear c83
                        by_cases c93 : ((rd_T26 ((rd_T29 l0_0 x74_3).f2) x91_5).f1) ≥ t183
                        ·rw [if_pos c93] at H
                         have c93b0 : decide (t183 ≤ ((rd_T26 ((rd_T29 l0_0 x74_3).f2) x91_5).f1)) = true := decide_eq_true c93
                         clear c93
                         simp only [Option.some.injEq, Prod.mk.injEq] at H
                         obtain ⟨rfl, rfl⟩ := H
                         have p179 : 0 ≤ (x91_5 : Int) := of_decide_eq_true (by first | (with_reducible assumption) | assumption)
                         have q179 : x91_5 < (((rd_T29 l0_0 x74_3).f2).length : Int) := of_decide_eq_true (by first | (with_reducible assumption) | assumption)
                         obtain ⟨ad179, e179, hx179_0, hx179_1⟩ := at_T26 HR177_2.out x91_5 p179 q179
                         cases e179
                         replace hx179_0 := (HB.out.cell (World.block_lt_of_cell? w _ hx179_0)).trans hx179_0
                         replace hx179_1 := (HB.out.cell (World.block_lt_of_cell? w _ hx179_1)).trans hx179_1
                         replace p179 := eq_true p179
                         replace q179 := eq_true q179
                         go_wp2_with (first | ((with_reducible refine gate_dst (N := 10) rfl ?_); (try (refine gate_guard (by rfl) ?_; dsimp only)); refine box_event ?hg (N := 10) ?hd (cs := #[.int .i64 0, .int .i64 0]) (t := 26) ?hr ?_; (case hd => rfl); (case hg => rfl); (case hr => first | (go_simp; done) | (go_simp; rfl)); intro gb180 hg w94 hbox hb; have n0_ := Aside0.mk (bb hb BK173.out); have n1_ := Aside0.mk (bb hb BK178.out); have n2_ := Aside0.mk (below_step (by repeat (first | (with_reducible first | exact HB.out | apply below_alloc | apply pw_below_drewN | apply below_drew1 | refine below_set ?_ GE173.out | refine below_set ?_ GE178.out) | exact HB.out)) hb); have n3_ := Aside0.mk (hbox); have n4_ := Aside0.mk ((by rw [hg]; exact (below_size (by repeat (first | (with_reducible first | exact HB.out | apply below_alloc | apply pw_below_drewN | apply below_drew1 | refine below_set ?_ GE173.out | refine below_set ?_ GE178.out) | exact HB.out))) : w.heap.size ≤ gb180)); have n5_ := Aside0.mk ((by rw [hg]; exact (below_size (by repeat (first | (with_reducible first | exact HB.out | apply below_alloc | apply pw_below_drewN | apply below_drew1 | refine below_set ?_ GE173.out | refine below_set ?_ GE178.out) | exact HB.out))) : w.heap.size ≤ gb180)); have n6_ := Aside0.mk (nl hg BK173.out); have n7_ := Aside0.mk (ng hg BK173.out); have n8_ := Aside0.mk (nl hg BK178.out); have n9_ := Aside0.mk (ng hg BK178.out); clear BK173; clear BK178; clear HB; have BK173 := n0_; have BK178 := n1_; have HB := n2_; have BK180 := n3_; have GW180 := n4_; have GE180 := n5_; have NB173_180 := n6_; have NB180_173 := n7_; have NB178_180 := n8_; have NB180_178 := n9_; clear n0_ n1_ n2_ n3_ n4_ n5_ n6_ n7_ n8_ n9_; clear hb hbox hg; have hnb95 := NB180_173.out; have hnc95 := NB173_180.out; have hnb96 := NB180_178.out; have hnc96 := NB178_180.out; obtain ⟨hcz97_0, hcz97_1⟩ := blk2 BK180.out; obtain ⟨hfz97_0, hfz97_1⟩ := frz2 BK180.out; have hnb98 := NB173_178.out; have hnc98 := NB178_173.out; obtain ⟨hcz99_0, hcz99_1⟩ := blk2 BK173.out; obtain ⟨hfz99_0, hfz99_1⟩ := frz2 BK173.out; have hcz100_0 : w94.cell? ⟨gb178, 0, none⟩ = some (.int .i64 ((rd_T29 l0_0 x74_3).f0)) := (blk_cell BK178.out 0).trans rfl; have hcz100_1 : w94.cell? ⟨gb178, 1, none⟩ = some (.int .i64 ((rd_T29 l0_0 x74_3).f1)) := (blk_cell BK178.out 1).trans rfl; have hcz100_2 : w94.cell? ⟨gb178, 2, none⟩ = some (.slice (some ad179) ((rd_T29 l0_0 x74_3).f2).length c177_2) := (blk_cell BK178.out 2).trans rfl; have hfz100_0 := blk_frozen BK178.out 0; have hfz100_1 := blk_frozen BK178.out 1; have hfz100_2 := blk_frozen BK178.out 2) | ((with_reducible refine gate_callee (f := 41) rfl ?_); refine goesL_ (some 99) rfl rfl Try.func41 (by kernel_rfl) rfl #[.agg #[.slice (some ad177) l0_0.length c0_0, .int .i64 a0_1], .agg #[.int .i64 ((rd_T29 l0_0 x74_3).f0), .int .i64 ((rd_T29 l0_0 x74_3).f1), .slice (some ad179) ((rd_T29 l0_0 x74_3).f2).length c177_2], .agg #[.int .i64 ((rd_T26 ((rd_T29 l0_0 x74_3).f2) x91_5).f0), .int .i64 ((rd_T26 ((rd_T29 l0_0 x74_3).f2) x91_5).f1)]] rfl (by (try simp only [zm1, zm2, zm3]); first | done | rfl) ?_; (with_reducible refine (tourref5_opOf.calls _ _ l0_0 a0_1 ((rd_T29 l0_0 x74_3).f0) ((rd_T29 l0_0 x74_3).f1) _ _ ((rd_T29 l0_0 x74_3).f2) ((rd_T26 ((rd_T29 l0_0 x74_3).f2) x91_5).f0) ((rd_T26 ((rd_T29 l0_0 x74_3).f2) x91_5).f1) t181 t182 t183 true _ ?side1 ?side2 ?side3 ?side4 A51.out).mono ?_); (case side1 => exact Kd.C_below HR0_0.out (by repeat (first | (with_reducible first | exact HB.out | apply below_alloc | apply pw_below_drewN | apply below_drew1 | refine below_set ?_ GE173.out | refine below_set ?_ GE178.out | refine below_set ?_ GE180.out) | exact HB.out))); (case side2 => exact HC0_0.out); (case side3 => exact Kd.C_below HR177_2.out (by repeat (first | (with_reducible first | exact HB.out | apply below_alloc | apply pw_below_drewN | apply below_drew1 | refine below_set ?_ GE173.out | refine below_set ?_ GE178.out | refine below_set ?_ GE180.out) | exact HB.out))); (case side4 => exact HC177_2.out); rintro e w101 ⟨rfl, hb⟩; refine ⟨_, rfl, ?_⟩; have n0_ := Aside0.mk (blk_below (g := gb173) (o := .cells #[.slice (some ad177) l0_0.length c0_0, .int .i64 a0_1] 24 (0, 0)) (by (with_reducible repeat (first | refine blk_drewN ?_ _ | refine blk_drew ?_ | refine blk_alloc ?_ _)); refine blk_far ?_ NB173_180.out _; refine blk_far ?_ NB173_180.out _; exact BK173.out) hb); have n1_ := Aside0.mk (blk_below (g := gb178) (o := .cells #[.int .i64 ((rd_T29 l0_0 x74_3).f0), .int .i64 ((rd_T29 l0_0 x74_3).f1), .slice (some ad179) ((rd_T29 l0_0 x74_3).f2).length c177_2] 29 (0, 0)) (by (with_reducible repeat (first | refine blk_drewN ?_ _ | refine blk_drew ?_ | refine blk_alloc ?_ _)); refine blk_far ?_ NB178_180.out _; refine blk_far ?_ NB178_180.out _; exact BK178.out) hb); have n2_ := Aside0.mk (blk_below (g := gb180) (o := .cells #[.int .i64 ((rd_T26 ((rd_T29 l0_0 x74_3).f2) x91_5).f0), .int .i64 ((rd_T26 ((rd_T29 l0_0 x74_3).f2) x91_5).f1)] 26 (0, 0)) (by (with_reducible repeat (first | refine blk_drewN ?_ _ | refine blk_drew ?_ | refine blk_alloc ?_ _)); refine blk_put (cs := #[.int .i64 ((rd_T26 ((rd_T29 l0_0 x74_3).f2) x91_5).f0), .int .i64 0]) ?_ 1 _ rfl; refine blk_put (cs := #[.int .i64 0, .int .i64 0]) ?_ 0 _ rfl; exact BK180.out) hb); have n3_ := Aside0.mk (below_step (by repeat (first | (with_reducible first | exact HB.out | apply below_alloc | apply pw_below_drewN | apply below_drew1 | refine below_set ?_ GE173.out | refine below_set ?_ GE178.out | refine below_set ?_ GE180.out) | exact HB.out)) hb); clear BK173; clear BK178; clear BK180; clear HB; have BK173 := n0_; have BK178 := n1_; have BK180 := n2_; have HB := n3_; clear n0_ n1_ n2_ n3_; (try clear hb); (try clear hb2); (try clear hk); (try clear hi); obtain ⟨hcz102_0, hcz102_1⟩ := blk2 BK180.out; obtain ⟨hfz102_0, hfz102_1⟩ := frz2 BK180.out))
                         go_ret2
                         exact ⟨_, by first | rfl | (simp [errW_none, errW_some] <;> rfl) | (simp [*, errW_none, errW_some] <;> rfl), by first | exact Kd.S_nil _ _ _ _ _ | exact Kd.N_nil _ _ _ _ _ | exact Kd.V_nil _ _ _ _ _ | exact Kd.Q_nil _ _ _ _ _ | exact Kd.R_nil _ _ _ _ _, by repeat (first | (with_reducible first | exact HB.out | apply below_alloc | apply pw_below_drewN | apply below_drew1 | refine below_set ?_ GE173.out | refine below_set ?_ GE178.out | refine below_set ?_ GE180.out) | exact HB.out)⟩
                        ·rw [if_neg c93] at H
                         have c93b0 : decide (t183 ≤ ((rd_T26 ((rd_T29 l0_0 x74_3).f2) x91_5).f1)) = false := decide_eq_false c93
                         clear c93
                         by_cases c103 : ((rd_T26 ((rd_T29 l0_0 x74_3).f2) x91_5).f0) = 20
                         ·rw [if_pos c103] at H
                          have c103b0 : (((rd_T26 ((rd_T29 l0_0 x74_3).f2) x91_5).f0) == 20) = true := beq_iff_eq.mpr c103
                          have c103b1 : (((rd_T26 ((rd_T29 l0_0 x74_3).f2) x91_5).f0) != 20) = false := bne_eq_false_iff_eq.mpr c103
                          clear c103
                          by_cases c104 : t181 > 6
                          ·rw [if_pos c104] at H
                           have c104b0 : decide (6 < t181) = true := decide_eq_true c104
                           clear c104
                           simp only [Option.some.injEq, Prod.mk.injEq] at H
                           obtain ⟨rfl, rfl⟩ := H
                           have p179 : 0 ≤ (x91_5 : Int) := of_decide_eq_true (by first | (with_reducible assumption) | assumption)
                           have q179 : x91_5 < (((rd_T29 l0_0 x74_3).f2).length : Int) := of_decide_eq_true (by first | (with_reducible assumption) | assumption)
                           obtain ⟨ad179, e179, hx179_0, hx179_1⟩ := at_T26 HR177_2.out x91_5 p179 q179
                           cases e179
                           replace hx179_0 := (HB.out.cell (World.block_lt_of_cell? w _ hx179_0)).trans hx179_0
                           replace hx179_1 := (HB.out.cell (World.block_lt_of_cell? w _ hx179_1)).trans hx179_1
                           replace p179 := eq_true p179
                           replace q179 := eq_true q179
                           go_wp2_with (first | ((with_reducible refine gate_dst (N := 10) rfl ?_); (try (refine gate_guard (by rfl) ?_; dsimp only)); refine box_event ?hg (N := 10) ?hd (cs := #[.int .i64 0, .int .i64 0]) (t := 26) ?hr ?_; (case hd => rfl); (case hg => rfl); (case hr => first | (go_simp; done) | (go_simp; rfl)); intro gb180 hg w105 hbox hb; have n0_ := Aside0.mk (bb hb BK173.out); have n1_ := Aside0.mk (bb hb BK178.out); have n2_ := Aside0.mk (below_step (by repeat (first | (with_reducible first | exact HB.out | apply below_alloc | apply pw_below_drewN | apply below_drew1 | refine below_set ?_ GE173.out | refine below_set ?_ GE178.out) | exact HB.out)) hb); have n3_ := Aside0.mk (hbox); have n4_ := Aside0.mk ((by rw [hg]; exact (below_size (by repeat (first | (with_reducible first | exact HB.out | apply below_alloc | apply pw_below_drewN | apply below_drew1 | refine below_set ?_ GE173.out | refine below_set ?_ GE178.out) | exact HB.out))) : w.heap.size ≤ gb180)); have n5_ := Aside0.mk ((by rw [hg]; exact (below_size (by repeat (first | (with_reducible first | exact HB.out | apply below_alloc | apply pw_below_drewN | apply below_drew1 | refine below_set ?_ GE173.out | refine below_set ?_ GE178.out) | exact HB.out))) : w.heap.size ≤ gb180)); have n6_ := Aside0.mk (nl hg BK173.out); have n7_ := Aside0.mk (ng hg BK173.out); have n8_ := Aside0.mk (nl hg BK178.out); have n9_ := Aside0.mk (ng hg BK178.out); clear BK173; clear BK178; clear HB; have BK173 := n0_; have BK178 := n1_; have HB := n2_; have BK180 := n3_; have GW180 := n4_; have GE180 := n5_; have NB173_180 := n6_; have NB180_173 := n7_; have NB178_180 := n8_; have NB180_178 := n9_; clear n0_ n1_ n2_ n3_ n4_ n5_ n6_ n7_ n8_ n9_; clear hb hbox hg; have hnb106 := NB180_173.out; have hnc106 := NB173_180.out; have hnb107 := NB180_178.out; have hnc107 := NB178_180.out; obtain ⟨hcz108_0, hcz108_1⟩ := blk2 BK180.out; obtain ⟨hfz108_0, hfz108_1⟩ := frz2 BK180.out; have hnb109 := NB173_178.out; have hnc109 := NB178_173.out; obtain ⟨hcz110_0, hcz110_1⟩ := blk2 BK173.out; obtain ⟨hfz110_0, hfz110_1⟩ := frz2 BK173.out; have hcz111_0 : w105.cell? ⟨gb178, 0, none⟩ = some (.int .i64 ((rd_T29 l0_0 x74_3).f0)) := (blk_cell BK178.out 0).trans rfl; have hcz111_1 : w105.cell? ⟨gb178, 1, none⟩ = some (.int .i64 ((rd_T29 l0_0 x74_3).f1)) := (blk_cell BK178.out 1).trans rfl; have hcz111_2 : w105.cell? ⟨gb178, 2, none⟩ = some (.slice (some ad179) ((rd_T29 l0_0 x74_3).f2).length c177_2) := (blk_cell BK178.out 2).trans rfl; have hfz111_0 := blk_frozen BK178.out 0; have hfz111_1 := blk_frozen BK178.out 1; have hfz111_2 := blk_frozen BK178.out 2) | ((with_reducible refine gate_callee (f := 41) rfl ?_); refine goesL_ (some 99) rfl rfl Try.func41 (by kernel_rfl) rfl #[.agg #[.slice (some ad177) l0_0.length c0_0, .int .i64 a0_1], .agg #[.int .i64 ((rd_T29 l0_0 x74_3).f0), .int .i64 ((rd_T29 l0_0 x74_3).f1), .slice (some ad179) ((rd_T29 l0_0 x74_3).f2).length c177_2], .agg #[.int .i64 ((rd_T26 ((rd_T29 l0_0 x74_3).f2) x91_5).f0), .int .i64 ((rd_T26 ((rd_T29 l0_0 x74_3).f2) x91_5).f1)]] rfl (by (try simp only [zm1, zm2, zm3]); first | done | rfl) ?_; (with_reducible refine (tourref5_opOf.calls _ _ l0_0 a0_1 ((rd_T29 l0_0 x74_3).f0) ((rd_T29 l0_0 x74_3).f1) _ _ ((rd_T29 l0_0 x74_3).f2) ((rd_T26 ((rd_T29 l0_0 x74_3).f2) x91_5).f0) ((rd_T26 ((rd_T29 l0_0 x74_3).f2) x91_5).f1) t181 t182 t183 true _ ?side1 ?side2 ?side3 ?side4 A51.out).mono ?_); (case side1 => exact Kd.C_below HR0_0.out (by repeat (first | (with_reducible first | exact HB.out | apply below_alloc | apply pw_below_drewN | apply below_drew1 | refine below_set ?_ GE173.out | refine below_set ?_ GE178.out | refine below_set ?_ GE180.out) | exact HB.out))); (case side2 => exact HC0_0.out); (case side3 => exact Kd.C_below HR177_2.out (by repeat (first | (with_reducible first | exact HB.out | apply below_alloc | apply pw_below_drewN | apply below_drew1 | refine below_set ?_ GE173.out | refine below_set ?_ GE178.out | refine below_set ?_ GE180.out) | exact HB.out))); (case side4 => exact HC177_2.out); rintro e w112 ⟨rfl, hb⟩; refine ⟨_, rfl, ?_⟩; have n0_ := Aside0.mk (blk_below (g := gb173) (o := .cells #[.slice (some ad177) l0_0.length c0_0, .int .i64 a0_1] 24 (0, 0)) (by (with_reducible repeat (first | refine blk_drewN ?_ _ | refine blk_drew ?_ | refine blk_alloc ?_ _)); refine blk_far ?_ NB173_180.out _; refine blk_far ?_ NB173_180.out _; exact BK173.out) hb); have n1_ := Aside0.mk (blk_below (g := gb178) (o := .cells #[.int .i64 ((rd_T29 l0_0 x74_3).f0), .int .i64 ((rd_T29 l0_0 x74_3).f1), .slice (some ad179) ((rd_T29 l0_0 x74_3).f2).length c177_2] 29 (0, 0)) (by (with_reducible repeat (first | refine blk_drewN ?_ _ | refine blk_drew ?_ | refine blk_alloc ?_ _)); refine blk_far ?_ NB178_180.out _; refine blk_far ?_ NB178_180.out _; exact BK178.out) hb); have n2_ := Aside0.mk (blk_below (g := gb180) (o := .cells #[.int .i64 ((rd_T26 ((rd_T29 l0_0 x74_3).f2) x91_5).f0), .int .i64 ((rd_T26 ((rd_T29 l0_0 x74_3).f2) x91_5).f1)] 26 (0, 0)) (by (with_reducible repeat (first | refine blk_drewN ?_ _ | refine blk_drew ?_ | refine blk_alloc ?_ _)); refine blk_put (cs := #[.int .i64 ((rd_T26 ((rd_T29 l0_0 x74_3).f2) x91_5).f0), .int .i64 0]) ?_ 1 _ rfl; refine blk_put (cs := #[.int .i64 0, .int .i64 0]) ?_ 0 _ rfl; exact BK180.out) hb); have n3_ := Aside0.mk (below_step (by repeat (first | (with_reducible first | exact HB.out | apply below_alloc | apply pw_below_drewN | apply below_drew1 | refine below_set ?_ GE173.out | refine below_set ?_ GE178.out | refine below_set ?_ GE180.out) | exact HB.out)) hb); clear BK173; clear BK178; clear BK180; clear HB; have BK173 := n0_; have BK178 := n1_; have BK180 := n2_; have HB := n3_; clear n0_ n1_ n2_ n3_; (try clear hb); (try clear hb2); (try clear hk); (try clear hi); obtain ⟨hcz113_0, hcz113_1⟩ := blk2 BK180.out; obtain ⟨hfz113_0, hfz113_1⟩ := frz2 BK180.out))
                           go_ret2
                           exact ⟨_, by first | rfl | (simp [errW_none, errW_some] <;> rfl) | (simp [*, errW_none, errW_some] <;> rfl), by first | exact Kd.S_nil _ _ _ _ _ | exact Kd.N_nil _ _ _ _ _ | exact Kd.V_nil _ _ _ _ _ | exact Kd.Q_nil _ _ _ _ _ | exact Kd.R_nil _ _ _ _ _, by repeat (first | (with_reducible first | exact HB.out | apply below_alloc | apply pw_below_drewN | apply below_drew1 | refine below_set ?_ GE173.out | refine below_set ?_ GE178.out | refine below_set ?_ GE180.out) | exact HB.out)⟩
                          ·rw [if_neg c104] at H
                           have c104b0 : decide (6 < t181) = false := decide_eq_false c104
                           clear c104
                           have H' := Aside0.mk H
                           clear H
                           have p179 : 0 ≤ (x91_5 : Int) := of_decide_eq_true (by first | (with_reducible assumption) | assumption)
                           have q179 : x91_5 < (((rd_T29 l0_0 x74_3).f2).length : Int) := of_decide_eq_true (by first | (with_reducible assumption) | assumption)
                           obtain ⟨ad179, e179, hx179_0, hx179_1⟩ := at_T26 HR177_2.out x91_5 p179 q179
                           cases e179
                           replace hx179_0 := (HB.out.cell (World.block_lt_of_cell? w _ hx179_0)).trans hx179_0
                           replace hx179_1 := (HB.out.cell (World.block_lt_of_cell? w _ hx179_1)).trans hx179_1
                           replace p179 := eq_true p179
                           replace q179 := eq_true q179
                           go_wp2_with (first | ((with_reducible refine gate_dst (N := 10) rfl ?_); (try (refine gate_guard (by rfl) ?_; dsimp only)); refine box_event ?hg (N := 10) ?hd (cs := #[.int .i64 0, .int .i64 0]) (t := 26) ?hr ?_; (case hd => rfl); (case hg => rfl); (case hr => first | (go_simp; done) | (go_simp; rfl)); intro gb180 hg w114 hbox hb; have n0_ := Aside0.mk (bb hb BK173.out); have n1_ := Aside0.mk (bb hb BK178.out); have n2_ := Aside0.mk (below_step (by repeat (first | (with_reducible first | exact HB.out | apply below_alloc | apply pw_below_drewN | apply below_drew1 | refine below_set ?_ GE173.out | refine below_set ?_ GE178.out) | exact HB.out)) hb); have n3_ := Aside0.mk (hbox); have n4_ := Aside0.mk ((by rw [hg]; exact (below_size (by repeat (first | (with_reducible first | exact HB.out | apply below_alloc | apply pw_below_drewN | apply below_drew1 | refine below_set ?_ GE173.out | refine below_set ?_ GE178.out) | exact HB.out))) : w.heap.size ≤ gb180)); have n5_ := Aside0.mk ((by rw [hg]; exact (below_size (by repeat (first | (with_reducible first | exact HB.out | apply below_alloc | apply pw_below_drewN | apply below_drew1 | refine below_set ?_ GE173.out | refine below_set ?_ GE178.out) | exact HB.out))) : w.heap.size ≤ gb180)); have n6_ := Aside0.mk (nl hg BK173.out); have n7_ := Aside0.mk (ng hg BK173.out); have n8_ := Aside0.mk (nl hg BK178.out); have n9_ := Aside0.mk (ng hg BK178.out); clear BK173; clear BK178; clear HB; have BK173 := n0_; have BK178 := n1_; have HB := n2_; have BK180 := n3_; have GW180 := n4_; have GE180 := n5_; have NB173_180 := n6_; have NB180_173 := n7_; have NB178_180 := n8_; have NB180_178 := n9_; clear n0_ n1_ n2_ n3_ n4_ n5_ n6_ n7_ n8_ n9_; clear hb hbox hg; have hnb115 := NB180_173.out; have hnc115 := NB173_180.out; have hnb116 := NB180_178.out; have hnc116 := NB178_180.out; obtain ⟨hcz117_0, hcz117_1⟩ := blk2 BK180.out; obtain ⟨hfz117_0, hfz117_1⟩ := frz2 BK180.out; have hnb118 := NB173_178.out; have hnc118 := NB178_173.out; obtain ⟨hcz119_0, hcz119_1⟩ := blk2 BK173.out; obtain ⟨hfz119_0, hfz119_1⟩ := frz2 BK173.out; have hcz120_0 : w114.cell? ⟨gb178, 0, none⟩ = some (.int .i64 ((rd_T29 l0_0 x74_3).f0)) := (blk_cell BK178.out 0).trans rfl; have hcz120_1 : w114.cell? ⟨gb178, 1, none⟩ = some (.int .i64 ((rd_T29 l0_0 x74_3).f1)) := (blk_cell BK178.out 1).trans rfl; have hcz120_2 : w114.cell? ⟨gb178, 2, none⟩ = some (.slice (some ad179) ((rd_T29 l0_0 x74_3).f2).length c177_2) := (blk_cell BK178.out 2).trans rfl; have hfz120_0 := blk_frozen BK178.out 0; have hfz120_1 := blk_frozen BK178.out 1; have hfz120_2 := blk_frozen BK178.out 2) | ((with_reducible refine gate_callee (f := 41) rfl ?_); refine goesL_ (some 99) rfl rfl Try.func41 (by kernel_rfl) rfl #[.agg #[.slice (some ad177) l0_0.length c0_0, .int .i64 a0_1], .agg #[.int .i64 ((rd_T29 l0_0 x74_3).f0), .int .i64 ((rd_T29 l0_0 x74_3).f1), .slice (some ad179) ((rd_T29 l0_0 x74_3).f2).length c177_2], .agg #[.int .i64 ((rd_T26 ((rd_T29 l0_0 x74_3).f2) x91_5).f0), .int .i64 ((rd_T26 ((rd_T29 l0_0 x74_3).f2) x91_5).f1)]] rfl (by (try simp only [zm1, zm2, zm3]); first | done | rfl) ?_; (with_reducible refine (tourref5_opOf.calls _ _ l0_0 a0_1 ((rd_T29 l0_0 x74_3).f0) ((rd_T29 l0_0 x74_3).f1) _ _ ((rd_T29 l0_0 x74_3).f2) ((rd_T26 ((rd_T29 l0_0 x74_3).f2) x91_5).f0) ((rd_T26 ((rd_T29 l0_0 x74_3).f2) x91_5).f1) t181 t182 t183 true _ ?side1 ?side2 ?side3 ?side4 A51.out).mono ?_); (case side1 => exact Kd.C_below HR0_0.out (by repeat (first | (with_reducible first | exact HB.out | apply below_alloc | apply pw_below_drewN | apply below_drew1 | refine below_set ?_ GE173.out | refine below_set ?_ GE178.out | refine below_set ?_ GE180.out) | exact HB.out))); (case side2 => exact HC0_0.out); (case side3 => exact Kd.C_below HR177_2.out (by repeat (first | (with_reducible first | exact HB.out | apply below_alloc | apply pw_below_drewN | apply below_drew1 | refine below_set ?_ GE173.out | refine below_set ?_ GE178.out | refine below_set ?_ GE180.out) | exact HB.out))); (case side4 => exact HC177_2.out); rintro e w121 ⟨rfl, hb⟩; refine ⟨_, rfl, ?_⟩; have n0_ := Aside0.mk (blk_below (g := gb173) (o := .cells #[.slice (some ad177) l0_0.length c0_0, .int .i64 a0_1] 24 (0, 0)) (by (with_reducible repeat (first | refine blk_drewN ?_ _ | refine blk_drew ?_ | refine blk_alloc ?_ _)); refine blk_far ?_ NB173_180.out _; refine blk_far ?_ NB173_180.out _; exact BK173.out) hb); have n1_ := Aside0.mk (blk_below (g := gb178) (o := .cells #[.int .i64 ((rd_T29 l0_0 x74_3).f0), .int .i64 ((rd_T29 l0_0 x74_3).f1), .slice (some ad179) ((rd_T29 l0_0 x74_3).f2).length c177_2] 29 (0, 0)) (by (with_reducible repeat (first | refine blk_drewN ?_ _ | refine blk_drew ?_ | refine blk_alloc ?_ _)); refine blk_far ?_ NB178_180.out _; refine blk_far ?_ NB178_180.out _; exact BK178.out) hb); have n2_ := Aside0.mk (blk_below (g := gb180) (o := .cells #[.int .i64 ((rd_T26 ((rd_T29 l0_0 x74_3).f2) x91_5).f0), .int .i64 ((rd_T26 ((rd_T29 l0_0 x74_3).f2) x91_5).f1)] 26 (0, 0)) (by (with_reducible repeat (first | refine blk_drewN ?_ _ | refine blk_drew ?_ | refine blk_alloc ?_ _)); refine blk_put (cs := #[.int .i64 ((rd_T26 ((rd_T29 l0_0 x74_3).f2) x91_5).f0), .int .i64 0]) ?_ 1 _ rfl; refine blk_put (cs := #[.int .i64 0, .int .i64 0]) ?_ 0 _ rfl; exact BK180.out) hb); have n3_ := Aside0.mk (below_step (by repeat (first | (with_reducible first | exact HB.out | apply below_alloc | apply pw_below_drewN | apply below_drew1 | refine below_set ?_ GE173.out | refine below_set ?_ GE178.out | refine below_set ?_ GE180.out) | exact HB.out)) hb); clear BK173; clear BK178; clear BK180; clear HB; have BK173 := n0_; have BK178 := n1_; have BK180 := n2_; have HB := n3_; clear n0_ n1_ n2_ n3_; (try clear hb); (try clear hb2); (try clear hk); (try clear hi); obtain ⟨hcz122_0, hcz122_1⟩ := blk2 BK180.out; obtain ⟨hfz122_0, hfz122_1⟩ := frz2 BK180.out))
                           go_roundg k5
                           case measure => have := HK1.out; have := HJ22.out; have := HK3.out; have := HJ35.out; have := HK5.out; omega
                           case rel => exact ⟨(wrap64 (x91_5 + 1)), (by first | rfl | (simp; done) | (simp [*]; done)), H', ⟨by have := HK1.out; have := HJ22.out; have := HK3.out; have := HJ35.out; have := HK5.out; omega⟩, ⟨BK173.out⟩, ⟨BK178.out⟩, ⟨by repeat (first | (with_reducible first | exact HB.out | apply below_alloc | apply pw_below_drewN | apply below_drew1 | refine below_set ?_ GE173.out | refine below_set ?_ GE178.out | refine below_set ?_ GE180.out) | exact HB.out)⟩⟩
                         ·rw [if_neg c103] at H
                          have c103b0 : (((rd_T26 ((rd_T29 l0_0 x74_3).f2) x91_5).f0) == 20) = false := beq_eq_false_iff_ne.mpr c103
                          have c103b1 : (((rd_T26 ((rd_T29 l0_0 x74_3).f2) x91_5).f0) != 20) = true := bne_iff_ne.mpr c103
                          have H' := Aside0.mk H
                          clear H
                          have p179 : 0 ≤ (x91_5 : Int) := of_decide_eq_true (by first | (with_reducible assumption) | assumption)
                          have q179 : x91_5 < (((rd_T29 l0_0 x74_3).f2).length : Int) := of_decide_eq_true (by first | (with_reducible assumption) | assumption)
                          obtain ⟨ad179, e179, hx179_0, hx179_1⟩ := at_T26 HR177_2.out x91_5 p179 q179
                          cases e179
                          replace hx179_0 := (HB.out.cell (World.block_lt_of_cell? w _ hx179_0)).trans hx179_0
                          replace hx179_1 := (HB.out.cell (World.block_lt_of_cell? w _ hx179_1)).trans hx179_1
                          replace p179 := eq_true p179
                          replace q179 := eq_true q179
                          go_wp2_with (first | ((with_reducible refine gate_dst (N := 10) rfl ?_); (try (refine gate_guard (by rfl) ?_; dsimp only)); refine box_event ?hg (N := 10) ?hd (cs := #[.int .i64 0, .int .i64 0]) (t := 26) ?hr ?_; (case hd => rfl); (case hg => rfl); (case hr => first | (go_simp; done) | (go_simp; rfl)); intro gb180 hg w123 hbox hb; have n0_ := Aside0.mk (bb hb BK173.out); have n1_ := Aside0.mk (bb hb BK178.out); have n2_ := Aside0.mk (below_step (by repeat (first | (with_reducible first | exact HB.out | apply below_alloc | apply pw_below_drewN | apply below_drew1 | refine below_set ?_ GE173.out | refine below_set ?_ GE178.out) | exact HB.out)) hb); have n3_ := Aside0.mk (hbox); have n4_ := Aside0.mk ((by rw [hg]; exact (below_size (by repeat (first | (with_reducible first | exact HB.out | apply below_alloc | apply pw_below_drewN | apply below_drew1 | refine below_set ?_ GE173.out | refine below_set ?_ GE178.out) | exact HB.out))) : w.heap.size ≤ gb180)); have n5_ := Aside0.mk ((by rw [hg]; exact (below_size (by repeat (first | (with_reducible first | exact HB.out | apply below_alloc | apply pw_below_drewN | apply below_drew1 | refine below_set ?_ GE173.out | refine below_set ?_ GE178.out) | exact HB.out))) : w.heap.size ≤ gb180)); have n6_ := Aside0.mk (nl hg BK173.out); have n7_ := Aside0.mk (ng hg BK173.out); have n8_ := Aside0.mk (nl hg BK178.out); have n9_ := Aside0.mk (ng hg BK178.out); clear BK173; clear BK178; clear HB; have BK173 := n0_; have BK178 := n1_; have HB := n2_; have BK180 := n3_; have GW180 := n4_; have GE180 := n5_; have NB173_180 := n6_; have NB180_173 := n7_; have NB178_180 := n8_; have NB180_178 := n9_; clear n0_ n1_ n2_ n3_ n4_ n5_ n6_ n7_ n8_ n9_; clear hb hbox hg; have hnb124 := NB180_173.out; have hnc124 := NB173_180.out; have hnb125 := NB180_178.out; have hnc125 := NB178_180.out; obtain ⟨hcz126_0, hcz126_1⟩ := blk2 BK180.out; obtain ⟨hfz126_0, hfz126_1⟩ := frz2 BK180.out; have hnb127 := NB173_178.out; have hnc127 := NB178_173.out; obtain ⟨hcz128_0, hcz128_1⟩ := blk2 BK173.out; obtain ⟨hfz128_0, hfz128_1⟩ := frz2 BK173.out; have hcz129_0 : w123.cell? ⟨gb178, 0, none⟩ = some (.int .i64 ((rd_T29 l0_0 x74_3).f0)) := (blk_cell BK178.out 0).trans rfl; have hcz129_1 : w123.cell? ⟨gb178, 1, none⟩ = some (.int .i64 ((rd_T29 l0_0 x74_3).f1)) := (blk_cell BK178.out 1).trans rfl; have hcz129_2 : w123.cell? ⟨gb178, 2, none⟩ = some (.slice (some ad179) ((rd_T29 l0_0 x74_3).f2).length c177_2) := (blk_cell BK178.out 2).trans rfl; have hfz129_0 := blk_frozen BK178.out 0; have hfz129_1 := blk_frozen BK178.out 1; have hfz129_2 := blk_frozen BK178.out 2) | ((with_reducible refine gate_callee (f := 41) rfl ?_); refine goesL_ (some 99) rfl rfl Try.func41 (by kernel_rfl) rfl #[.agg #[.slice (some ad177) l0_0.length c0_0, .int .i64 a0_1], .agg #[.int .i64 ((rd_T29 l0_0 x74_3).f0), .int .i64 ((rd_T29 l0_0 x74_3).f1), .slice (some ad179) ((rd_T29 l0_0 x74_3).f2).length c177_2], .agg #[.int .i64 ((rd_T26 ((rd_T29 l0_0 x74_3).f2) x91_5).f0), .int .i64 ((rd_T26 ((rd_T29 l0_0 x74_3).f2) x91_5).f1)]] rfl (by (try simp only [zm1, zm2, zm3]); first | done | rfl) ?_; (with_reducible refine (tourref5_opOf.calls _ _ l0_0 a0_1 ((rd_T29 l0_0 x74_3).f0) ((rd_T29 l0_0 x74_3).f1) _ _ ((rd_T29 l0_0 x74_3).f2) ((rd_T26 ((rd_T29 l0_0 x74_3).f2) x91_5).f0) ((rd_T26 ((rd_T29 l0_0 x74_3).f2) x91_5).f1) t181 t182 t183 true _ ?side1 ?side2 ?side3 ?side4 A51.out).mono ?_); (case side1 => exact Kd.C_below HR0_0.out (by repeat (first | (with_reducible first | exact HB.out | apply below_alloc | apply pw_below_drewN | apply below_drew1 | refine below_set ?_ GE173.out | refine below_set ?_ GE178.out | refine below_set ?_ GE180.out) | exact HB.out))); (case side2 => exact HC0_0.out); (case side3 => exact Kd.C_below HR177_2.out (by repeat (first | (with_reducible first | exact HB.out | apply below_alloc | apply pw_below_drewN | apply below_drew1 | refine below_set ?_ GE173.out | refine below_set ?_ GE178.out | refine below_set ?_ GE180.out) | exact HB.out))); (case side4 => exact HC177_2.out); rintro e w130 ⟨rfl, hb⟩; refine ⟨_, rfl, ?_⟩; have n0_ := Aside0.mk (blk_below (g := gb173) (o := .cells #[.slice (some ad177) l0_0.length c0_0, .int .i64 a0_1] 24 (0, 0)) (by (with_reducible repeat (first | refine blk_drewN ?_ _ | refine blk_drew ?_ | refine blk_alloc ?_ _)); refine blk_far ?_ NB173_180.out _; refine blk_far ?_ NB173_180.out _; exact BK173.out) hb); have n1_ := Aside0.mk (blk_below (g := gb178) (o := .cells #[.int .i64 ((rd_T29 l0_0 x74_3).f0), .int .i64 ((rd_T29 l0_0 x74_3).f1), .slice (some ad179) ((rd_T29 l0_0 x74_3).f2).length c177_2] 29 (0, 0)) (by (with_reducible repeat (first | refine blk_drewN ?_ _ | refine blk_drew ?_ | refine blk_alloc ?_ _)); refine blk_far ?_ NB178_180.out _; refine blk_far ?_ NB178_180.out _; exact BK178.out) hb); have n2_ := Aside0.mk (blk_below (g := gb180) (o := .cells #[.int .i64 ((rd_T26 ((rd_T29 l0_0 x74_3).f2) x91_5).f0), .int .i64 ((rd_T26 ((rd_T29 l0_0 x74_3).f2) x91_5).f1)] 26 (0, 0)) (by (with_reducible repeat (first | refine blk_drewN ?_ _ | refine blk_drew ?_ | refine blk_alloc ?_ _)); refine blk_put (cs := #[.int .i64 ((rd_T26 ((rd_T29 l0_0 x74_3).f2) x91_5).f0), .int .i64 0]) ?_ 1 _ rfl; refine blk_put (cs := #[.int .i64 0, .int .i64 0]) ?_ 0 _ rfl; exact BK180.out) hb); have n3_ := Aside0.mk (below_step (by repeat (first | (with_reducible first | exact HB.out | apply below_alloc | apply pw_below_drewN | apply below_drew1 | refine below_set ?_ GE173.out | refine below_set ?_ GE178.out | refine below_set ?_ GE180.out) | exact HB.out)) hb); clear BK173; clear BK178; clear BK180; clear HB; have BK173 := n0_; have BK178 := n1_; have BK180 := n2_; have HB := n3_; clear n0_ n1_ n2_ n3_; (try clear hb); (try clear hb2); (try clear hk); (try clear hi); obtain ⟨hcz131_0, hcz131_1⟩ := blk2 BK180.out; obtain ⟨hfz131_0, hfz131_1⟩ := frz2 BK180.out))
                          go_roundg k5
                          case measure => have := HK1.out; have := HJ22.out; have := HK3.out; have := HJ35.out; have := HK5.out; omega
                          case rel => exact ⟨(wrap64 (x91_5 + 1)), (by first | rfl | (simp; done) | (simp [*]; done)), H', ⟨by have := HK1.out; have := HJ22.out; have := HK3.out; have := HJ35.out; have := HK5.out; omega⟩, ⟨BK173.out⟩, ⟨BK178.out⟩, ⟨by repeat (first | (with_reducible first | exact HB.out | apply below_alloc | apply pw_below_drewN | apply below_drew1 | refine below_set ?_ GE173.out | refine below_set ?_ GE178.out | refine below_set ?_ GE180.out) | exact HB.out)⟩⟩
                     ·replace c52 := Bool.eq_false_iff.mpr c52
                      subst c52
                      have H1 : (some (([] : List (List Int)), 3)) = some (r1, r2) := by rw [if_neg (show ¬ (false = true) by decide)] at H; exact H
                      clear H
                      have H := H1
                      clear H1
                      simp only [Option.some.injEq, Prod.mk.injEq] at H
                      obtain ⟨rfl, rfl⟩ := H
                      have p179 : 0 ≤ (x91_5 : Int) := of_decide_eq_true (by first | (with_reducible assumption) | assumption)
                      have q179 : x91_5 < (((rd_T29 l0_0 x74_3).f2).length : Int) := of_decide_eq_true (by first | (with_reducible assumption) | assumption)
                      obtain ⟨ad179, e179, hx179_0, hx179_1⟩ := at_T26 HR177_2.out x91_5 p179 q179
                      cases e179
                      replace hx179_0 := (HB.out.cell (World.block_lt_of_cell? w _ hx179_0)).trans hx179_0
                      replace hx179_1 := (HB.out.cell (World.block_lt_of_cell? w _ hx179_1)).trans hx179_1
                      replace p179 := eq_true p179
                      replace q179 := eq_true q179
                      go_wp2_with (first | ((with_reducible refine gate_dst (N := 10) rfl ?_); (try (refine gate_guard (by rfl) ?_; dsimp only)); refine box_event ?hg (N := 10) ?hd (cs := #[.int .i64 0, .int .i64 0]) (t := 26) ?hr ?_; (case hd => rfl); (case hg => rfl); (case hr => first | (go_simp; done) | (go_simp; rfl)); intro gb180 hg w132 hbox hb; have n0_ := Aside0.mk (bb hb BK173.out); have n1_ := Aside0.mk (bb hb BK178.out); have n2_ := Aside0.mk (below_step (by repeat (first | (with_reducible first | exact HB.out | apply below_alloc | apply pw_below_drewN | apply below_drew1 | refine below_set ?_ GE173.out | refine below_set ?_ GE178.out) | exact HB.out)) hb); have n3_ := Aside0.mk (hbox); have n4_ := Aside0.mk ((by rw [hg]; exact (below_size (by repeat (first | (with_reducible first | exact HB.out | apply below_alloc | apply pw_below_drewN | apply below_drew1 | refine below_set ?_ GE173.out | refine below_set ?_ GE178.out) | exact HB.out))) : w.heap.size ≤ gb180)); have n5_ := Aside0.mk ((by rw [hg]; exact (below_size (by repeat (first | (with_reducible first | exact HB.out | apply below_alloc | apply pw_below_drewN | apply below_drew1 | refine below_set ?_ GE173.out | refine below_set ?_ GE178.out) | exact HB.out))) : w.heap.size ≤ gb180)); have n6_ := Aside0.mk (nl hg BK173.out); have n7_ := Aside0.mk (ng hg BK173.out); have n8_ := Aside0.mk (nl hg BK178.out); have n9_ := Aside0.mk (ng hg BK178.out); clear BK173; clear BK178; clear HB; have BK173 := n0_; have BK178 := n1_; have HB := n2_; have BK180 := n3_; have GW180 := n4_; have GE180 := n5_; have NB173_180 := n6_; have NB180_173 := n7_; have NB178_180 := n8_; have NB180_178 := n9_; clear n0_ n1_ n2_ n3_ n4_ n5_ n6_ n7_ n8_ n9_; clear hb hbox hg; have hnb133 := NB180_173.out; have hnc133 := NB173_180.out; have hnb134 := NB180_178.out; have hnc134 := NB178_180.out; obtain ⟨hcz135_0, hcz135_1⟩ := blk2 BK180.out; obtain ⟨hfz135_0, hfz135_1⟩ := frz2 BK180.out; have hnb136 := NB173_178.out; have hnc136 := NB178_173.out; obtain ⟨hcz137_0, hcz137_1⟩ := blk2 BK173.out; obtain ⟨hfz137_0, hfz137_1⟩ := frz2 BK173.out; have hcz138_0 : w132.cell? ⟨gb178, 0, none⟩ = some (.int .i64 ((rd_T29 l0_0 x74_3).f0)) := (blk_cell BK178.out 0).trans rfl; have hcz138_1 : w132.cell? ⟨gb178, 1, none⟩ = some (.int .i64 ((rd_T29 l0_0 x74_3).f1)) := (blk_cell BK178.out 1).trans rfl; have hcz138_2 : w132.cell? ⟨gb178, 2, none⟩ = some (.slice (some ad179) ((rd_T29 l0_0 x74_3).f2).length c177_2) := (blk_cell BK178.out 2).trans rfl; have hfz138_0 := blk_frozen BK178.out 0; have hfz138_1 := blk_frozen BK178.out 1; have hfz138_2 := blk_frozen BK178.out 2) | ((with_reducible refine gate_callee (f := 41) rfl ?_); refine goesL_ (some 99) rfl rfl Try.func41 (by kernel_rfl) rfl #[.agg #[.slice (some ad177) l0_0.length c0_0, .int .i64 a0_1], .agg #[.int .i64 ((rd_T29 l0_0 x74_3).f0), .int .i64 ((rd_T29 l0_0 x74_3).f1), .slice (some ad179) ((rd_T29 l0_0 x74_3).f2).length c177_2], .agg #[.int .i64 ((rd_T26 ((rd_T29 l0_0 x74_3).f2) x91_5).f0), .int .i64 ((rd_T26 ((rd_T29 l0_0 x74_3).f2) x91_5).f1)]] rfl (by (try simp only [zm1, zm2, zm3]); first | done | rfl) ?_; (with_reducible refine (tourref5_opOf.calls _ _ l0_0 a0_1 ((rd_T29 l0_0 x74_3).f0) ((rd_T29 l0_0 x74_3).f1) _ _ ((rd_T29 l0_0 x74_3).f2) ((rd_T26 ((rd_T29 l0_0 x74_3).f2) x91_5).f0) ((rd_T26 ((rd_T29 l0_0 x74_3).f2) x91_5).f1) t181 t182 t183 false _ ?side1 ?side2 ?side3 ?side4 A51.out).mono ?_); (case side1 => exact Kd.C_below HR0_0.out (by repeat (first | (with_reducible first | exact HB.out | apply below_alloc | apply pw_below_drewN | apply below_drew1 | refine below_set ?_ GE173.out | refine below_set ?_ GE178.out | refine below_set ?_ GE180.out) | exact HB.out))); (case side2 => exact HC0_0.out); (case side3 => exact Kd.C_below HR177_2.out (by repeat (first | (with_reducible first | exact HB.out | apply below_alloc | apply pw_below_drewN | apply below_drew1 | refine below_set ?_ GE173.out | refine below_set ?_ GE178.out | refine below_set ?_ GE180.out) | exact HB.out))); (case side4 => exact HC177_2.out); rintro e w139 ⟨rfl, hb⟩; refine ⟨_, rfl, ?_⟩; have n0_ := Aside0.mk (blk_below (g := gb173) (o := .cells #[.slice (some ad177) l0_0.length c0_0, .int .i64 a0_1] 24 (0, 0)) (by (with_reducible repeat (first | refine blk_drewN ?_ _ | refine blk_drew ?_ | refine blk_alloc ?_ _)); refine blk_far ?_ NB173_180.out _; refine blk_far ?_ NB173_180.out _; exact BK173.out) hb); have n1_ := Aside0.mk (blk_below (g := gb178) (o := .cells #[.int .i64 ((rd_T29 l0_0 x74_3).f0), .int .i64 ((rd_T29 l0_0 x74_3).f1), .slice (some ad179) ((rd_T29 l0_0 x74_3).f2).length c177_2] 29 (0, 0)) (by (with_reducible repeat (first | refine blk_drewN ?_ _ | refine blk_drew ?_ | refine blk_alloc ?_ _)); refine blk_far ?_ NB178_180.out _; refine blk_far ?_ NB178_180.out _; exact BK178.out) hb); have n2_ := Aside0.mk (blk_below (g := gb180) (o := .cells #[.int .i64 ((rd_T26 ((rd_T29 l0_0 x74_3).f2) x91_5).f0), .int .i64 ((rd_T26 ((rd_T29 l0_0 x74_3).f2) x91_5).f1)] 26 (0, 0)) (by (with_reducible repeat (first | refine blk_drewN ?_ _ | refine blk_drew ?_ | refine blk_alloc ?_ _)); refine blk_put (cs := #[.int .i64 ((rd_T26 ((rd_T29 l0_0 x74_3).f2) x91_5).f0), .int .i64 0]) ?_ 1 _ rfl; refine blk_put (cs := #[.int .i64 0, .int .i64 0]) ?_ 0 _ rfl; exact BK180.out) hb); have n3_ := Aside0.mk (below_step (by repeat (first | (with_reducible first | exact HB.out | apply below_alloc | apply pw_below_drewN | apply below_drew1 | refine below_set ?_ GE173.out | refine below_set ?_ GE178.out | refine below_set ?_ GE180.out) | exact HB.out)) hb); clear BK173; clear BK178; clear BK180; clear HB; have BK173 := n0_; have BK178 := n1_; have BK180 := n2_; have HB := n3_; clear n0_ n1_ n2_ n3_; (try clear hb); (try clear hb2); (try clear hk); (try clear hi)))
                      go_ret2
                      exact ⟨_, by first | rfl | (simp [errW_none, errW_some] <;> rfl) | (simp [*, errW_none, errW_some] <;> rfl), by first | exact Kd.S_nil _ _ _ _ _ | exact Kd.N_nil _ _ _ _ _ | exact Kd.V_nil _ _ _ _ _ | exact Kd.Q_nil _ _ _ _ _ | exact Kd.R_nil _ _ _ _ _, by repeat (first | (with_reducible first | exact HB.out | apply below_alloc | apply pw_below_drewN | apply below_drew1 | refine below_set ?_ GE173.out | refine below_set ?_ GE178.out | refine below_set ?_ GE180.out) | exact HB.out)⟩
                    ·rw [if_neg c50] at H
                     exact absurd H (by simp)
                   ·rw [if_neg c49] at H
                    exact absurd H (by simp)
                  ·rw [if_neg c48] at H
                   have c48b0 : decide (x91_5 < (((rd_T29 l0_0 x74_3).f2).length : Int)) = false := decide_eq_false c48
                   clear c48
                   have H' := Aside0.mk H
                   clear H
                   go_wp2
                   go_roundg k5
                   case measure => have := HK1.out; have := HJ22.out; have := HK3.out; have := HJ35.out; have := HK5.out; omega
                   case rel => exact ⟨(wrap64 (x74_3 + 1)), (by first | rfl | (simp; done) | (simp [*]; done)), H', ⟨by have := HK1.out; have := HJ22.out; have := HK3.out; have := HJ35.out; have := HK5.out; omega⟩, ⟨BK173.out⟩, ⟨by repeat (first | (with_reducible first | exact HB.out | apply below_alloc | apply pw_below_drewN | apply below_drew1 | refine below_set ?_ GE173.out | refine below_set ?_ GE178.out) | exact HB.out)⟩⟩
            ·rw [if_neg c35] at H
             exact absurd H (by simp)
           ·rw [if_neg c34] at H
            exact absurd H (by simp)
          ·rw [if_neg c33] at H
           have c33b0 : decide (x74_3 < (l0_0.length : Int)) = false := decide_eq_false c33
           clear c33
           have H' := Aside0.mk H
           clear H
           obtain ⟨hcz140_0, hcz140_1⟩ := blk2 BK173.out
           obtain ⟨hfz140_0, hfz140_1⟩ := frz2 BK173.out
           go_wp2
           go_loopg [15, 134] k3 (fun kq v15 v134 w' => ∃ (x15_4 : List (List Int)) (x134_4 : Int), v134 = .int .i64 x134_4 ∧ Aside0 (tourref5_ProgFault.l3 kq x15_4 l0_0 (l0_0.length : Int) x134_4 l0_0 a0_1 = some (r1, r2)) ∧ Aside0 (kq ≤ k3) ∧ Aside0 (Kd.S (Kd.slice 3 (Kd.int .i64)) 36 w' w.heap.size (fun _ => True) v15 x15_4) ∧ Aside0 (w'.heap[gb173]? = some (.cells #[(.slice A0_0 l0_0.length c0_0), .int .i64 a0_1] 24 (0, 0))) ∧ Aside0 (Below w.heap.size w w'))
           case atStart => exact ⟨(([] : List (List Int))), (0), (by first | rfl | (simp; done) | (simp [*]; done)), H', ⟨Nat.le_refl _⟩, ⟨by first | exact Kd.S_nil _ _ _ _ _ | exact Kd.N_nil _ _ _ _ _ | exact Kd.V_nil _ _ _ _ _ | exact Kd.Q_nil _ _ _ _ _ | exact Kd.R_nil _ _ _ _ _⟩, ⟨BK173.out⟩, ⟨by repeat (first | (with_reducible first | exact HB.out | apply below_alloc | apply pw_below_drewN | apply below_drew1 | refine below_set ?_ GE173.out) | exact HB.out)⟩⟩
           case round =>
            clear H'
            try clear c1; try clear p1; try clear q1; try clear hx1; try clear c2; try clear p2; try clear c3; try clear c4
            try clear c4b0; try clear c5; try clear c5b0; try clear c6; try clear c6b0; try clear p6; try clear c7; try clear c8
            try clear c9; try clear c10; try clear c11; try clear c11b0; try clear c12; try clear c13; try clear c15; try clear c15b0
            try clear c17; try clear p17; try clear q17; try clear hx17; try clear c20; try clear c22; try clear c24; try clear c24b0
            try clear c26; try clear c26b0; try clear c28; try clear c28b0; try clear c29; try clear c29b0; try clear c31; try clear c33
            try clear c33b0; try clear c34; try clear c34b0; try clear c35; try clear c35b0; try clear c38; try clear c40; try clear c40b0
            try clear c41; try clear c43; try clear c45; try clear c46; try clear c48; try clear c48b0; try clear c49; try clear c49b0
            try clear c50; try clear c50b0; try clear c52; try clear c53; try clear c53b0; try clear c53b1; try clear c54; try clear c54b0
            try clear c54b1; try clear c55; try clear c55b0; try clear c57; try clear c58; try clear c60; try clear p64; try clear c66
            try clear c67; try clear c69; try clear c75; try clear c76; try clear c78; try clear c83; try clear c83b0; try clear c85
            try clear c86; try clear c88; try clear c93; try clear c93b0; try clear c95; try clear c96; try clear c98; try clear c103
            try clear c103b0; try clear c103b1; try clear c104; try clear c104b0; try clear c106; try clear c107; try clear c109; try clear c115
            try clear c116; try clear c118; try clear c124; try clear c125; try clear c127; try clear c133; try clear c134; try clear c136
            try clear hcz100_0; try clear hcz100_1; try clear hcz100_2; try clear hcz102_0; try clear hcz102_1; try clear hcz108_0; try clear hcz108_1; try clear hcz10_0
            try clear hcz10_1; try clear hcz10_2; try clear hcz110_0; try clear hcz110_1; try clear hcz111_0; try clear hcz111_1; try clear hcz111_2; try clear hcz113_0
            try clear hcz113_1; try clear hcz117_0; try clear hcz117_1; try clear hcz119_0; try clear hcz119_1; try clear hcz120_0; try clear hcz120_1; try clear hcz120_2
            try clear hcz122_0; try clear hcz122_1; try clear hcz126_0; try clear hcz126_1; try clear hcz128_0; try clear hcz128_1; try clear hcz129_0; try clear hcz129_1
            try clear hcz129_2; try clear hcz131_0; try clear hcz131_1; try clear hcz135_0; try clear hcz135_1; try clear hcz137_0; try clear hcz137_1; try clear hcz138_0
            try clear hcz138_1; try clear hcz138_2; try clear hcz140_0; try clear hcz140_1; try clear hcz14_0; try clear hcz14_1; try clear hcz14_2; try clear hcz18_0
            try clear hcz18_1; try clear hcz18_2; try clear hcz21_0; try clear hcz21_1; try clear hcz21_2; try clear hcz25_0; try clear hcz25_1; try clear hcz27_0
            try clear hcz27_1; try clear hcz30_0; try clear hcz30_1; try clear hcz32_0; try clear hcz32_1; try clear hcz39_0; try clear hcz39_1; try clear hcz39_2
            try clear hcz3_0; try clear hcz3_1; try clear hcz42_0; try clear hcz42_1; try clear hcz42_2; try clear hcz44_0; try clear hcz44_1; try clear hcz44_2
            try clear hcz47_0; try clear hcz47_1; try clear hcz47_2; try clear hcz59_0; try clear hcz59_1; try clear hcz61_0; try clear hcz61_1; try clear hcz62_0
            try clear hcz62_1; try clear hcz62_2; try clear hcz64_0; try clear hcz64_1; try clear hcz68_0; try clear hcz68_1; try clear hcz70_0; try clear hcz70_1
            try clear hcz71_0; try clear hcz71_1; try clear hcz71_2; try clear hcz73_0; try clear hcz73_1; try clear hcz77_0; try clear hcz77_1; try clear hcz79_0
            try clear hcz79_1; try clear hcz80_0; try clear hcz80_1; try clear hcz80_2; try clear hcz82_0; try clear hcz82_1; try clear hcz87_0; try clear hcz87_1
            try clear hcz89_0; try clear hcz89_1; try clear hcz90_0; try clear hcz90_1; try clear hcz90_2; try clear hcz92_0; try clear hcz92_1; try clear hcz97_0
            try clear hcz97_1; try clear hcz99_0; try clear hcz99_1; try clear hfz100_0; try clear hfz100_1; try clear hfz100_2; try clear hfz102_0; try clear hfz102_1
            try clear hfz108_0; try clear hfz108_1; try clear hfz10_0; try clear hfz10_1; try clear hfz10_2; try clear hfz110_0; try clear hfz110_1; try clear hfz111_0
            try clear hfz111_1; try clear hfz111_2; try clear hfz113_0; try clear hfz113_1; try clear hfz117_0; try clear hfz117_1; try clear hfz119_0; try clear hfz119_1
            try clear hfz120_0; try clear hfz120_1; try clear hfz120_2; try clear hfz122_0; try clear hfz122_1; try clear hfz126_0; try clear hfz126_1; try clear hfz128_0
            try clear hfz128_1; try clear hfz129_0; try clear hfz129_1; try clear hfz129_2; try clear hfz131_0; try clear hfz131_1; try clear hfz135_0; try clear hfz135_1
            try clear hfz137_0; try clear hfz137_1; try clear hfz138_0; try clear hfz138_1; try clear hfz138_2; try clear hfz140_0; try clear hfz140_1; try clear hfz14_0
            try clear hfz14_1; try clear hfz14_2; try clear hfz18_0; try clear hfz18_1; try clear hfz18_2; try clear hfz21_0; try clear hfz21_1; try clear hfz21_2
            try clear hfz25_0; try clear hfz25_1; try clear hfz27_0; try clear hfz27_1; try clear hfz30_0; try clear hfz30_1; try clear hfz32_0; try clear hfz32_1
            try clear hfz39_0; try clear hfz39_1; try clear hfz39_2; try clear hfz3_0; try clear hfz3_1; try clear hfz42_0; try clear hfz42_1; try clear hfz42_2
            try clear hfz44_0; try clear hfz44_1; try clear hfz44_2; try clear hfz47_0; try clear hfz47_1; try clear hfz47_2; try clear hfz59_0; try clear hfz59_1
            try clear hfz61_0; try clear hfz61_1; try clear hfz62_0; try clear hfz62_1; try clear hfz62_2; try clear hfz64_0; try clear hfz64_1; try clear hfz68_0
            try clear hfz68_1; try clear hfz70_0; try clear hfz70_1; try clear hfz71_0; try clear hfz71_1; try clear hfz71_2; try clear hfz73_0; try clear hfz73_1
            try clear hfz77_0; try clear hfz77_1; try clear hfz79_0; try clear hfz79_1; try clear hfz80_0; try clear hfz80_1; try clear hfz80_2; try clear hfz82_0
            try clear hfz82_1; try clear hfz87_0; try clear hfz87_1; try clear hfz89_0; try clear hfz89_1; try clear hfz90_0; try clear hfz90_1; try clear hfz90_2
            try clear hfz92_0; try clear hfz92_1; try clear hfz97_0; try clear hfz97_1; try clear hfz99_0; try clear hfz99_1; try clear hx174_0; try clear hx174_1
            try clear hx174_2; try clear hx176_0; try clear hx176_1; try clear hx176_2; try clear hx177_0; try clear hx177_1; try clear hx177_2; try clear hx179_0
            try clear hx179_1; try clear p1; try clear p17; try clear p174; try clear p176; try clear p177; try clear p179; try clear p2
            try clear p6; try clear q1; try clear q17; try clear q174; try clear q176; try clear q177; try clear q179
            obtain ⟨x15_4, x134_4, rfl, HA, HK4, HO_15, BK173, HB⟩ := hrel
            cases gk with
            | zero => exact absurd HA.out (by simp [tourref5_ProgFault.l3])
            | succ k4 =>
             have H := HA.out
             clear HA
             simp only [tourref5_ProgFault.l3] at H
             by_cases c141 : x134_4 < (l0_0.length : Int)
             ·rw [if_pos c141] at H
              have c141b0 : decide (x134_4 < (l0_0.length : Int)) = true := decide_eq_true c141
              clear c141
              by_cases c142 : 0 ≤ x134_4
              ·rw [if_pos c142] at H
               have c142b0 : decide (0 ≤ x134_4) = true := decide_eq_true c142
               clear c142
               by_cases c143 : x134_4 < (l0_0.length : Int)
               ·rw [if_pos c143] at H
                have c143b0 : decide (x134_4 < (l0_0.length : Int)) = true := decide_eq_true c143
                clear c143
                replace H := Option.bind_eq_some_iff.mp H
                obtain ⟨⟨t187, t190⟩, A1440, H⟩ := H
                replace H : (if t190 = 0 then (if x15_4.length < 5864062014805 then (tourref5_ProgFault.l3 k4 (x15_4 ++ [t187]) l0_0 (l0_0.length : Int) (wrap64 (x134_4 + 1)) l0_0 a0_1) else (none)) else (some (([] : List (List Int)), t190))) = some (r1, r2) := H
                have A144 := Aside0.mk A1440
                clear A1440
                by_cases c145 : t190 = 0
                ·rw [if_pos c145] at H
                 have c145b0 : (t190 == 0) = true := beq_iff_eq.mpr c145
                 have c145b1 : (t190 != 0) = false := bne_eq_false_iff_eq.mpr c145
                 clear c145
                 by_cases c146 : x15_4.length < 5864062014805
                 ·rw [if_pos c146] at H
                  have LMc146 := Aside0.mk c146
                  clear c146
                  obtain ⟨y191, hy191⟩ : ∃ y_ : List (List Int), y_ = (x15_4 ++ [t187]) := ⟨_, rfl⟩
                  replace H : (tourref5_ProgFault.l3 k4 y191 l0_0 (l0_0.length : Int) (wrap64 (x134_4 + 1)) l0_0 a0_1) = some (r1, r2) := by first | (rw [hy191]; with_reducible exact H) | (have H2_ := (Option.bind_some _ _).symm.trans H; rw [hy191]; with_reducible exact H2_) | (have H2_ := (Option.bind_some _ _).symm.trans H; with_reducible exact H2_) | with_reducible exact H | (rw [hy191]; exact H) | exact H
                  have Ny191 := Aside0.mk hy191
                  clear hy191
                  have H' := Aside0.mk H
                  clear H
                  have p185 : 0 ≤ (x134_4 : Int) := of_decide_eq_true (by first | (with_reducible assumption) | assumption)
                  have q185 : x134_4 < (l0_0.length : Int) := of_decide_eq_true (by first | (with_reducible assumption) | assumption)
                  obtain ⟨ad185, A185_2, c185_2, e185, hx185_0, hx185_1, hx185_2, hl185_2, hi185_2⟩ := at_T29 HR0_0.out x134_4 p185 q185
                  cases e185
                  replace hx185_0 := (HB.out.cell (World.block_lt_of_cell? w _ hx185_0)).trans hx185_0
                  replace hx185_1 := (HB.out.cell (World.block_lt_of_cell? w _ hx185_1)).trans hx185_1
                  replace hx185_2 := (HB.out.cell (World.block_lt_of_cell? w _ hx185_2)).trans hx185_2
                  have HR185_2 := Aside0.mk hi185_2
                  have HC185_2 := Aside0.mk hl185_2
                  clear hi185_2 hl185_2
                  replace p185 := eq_true p185
                  replace q185 := eq_true q185
                  go_wp2_with (first | ((with_reducible refine gate_dst (N := 17) rfl ?_); (try (refine gate_guard (by rfl) ?_; dsimp only)); refine box_event ?hg (N := 17) ?hd (cs := #[.int .i64 0, .int .i64 0, .slice none 0 0]) (t := 29) ?hr ?_; (case hd => rfl); (case hg => rfl); (case hr => first | (go_simp; done) | (go_simp; rfl)); intro gb186 hg w147 hbox hb; have n0_ := Aside0.mk (Kd.S_below (by (with_reducible repeat (first | apply Kd.S_alloc | apply Kd.S_drewN | apply Kd.S_drew)); exact HO_15.out) hb); have n1_ := Aside0.mk (bb hb BK173.out); have n2_ := Aside0.mk (below_step (by repeat (first | (with_reducible first | exact HB.out | apply below_alloc | apply pw_below_drewN | apply below_drew1 | refine below_set ?_ GE173.out) | exact HB.out)) hb); have n3_ := Aside0.mk (hbox); have n4_ := Aside0.mk ((by rw [hg]; exact (below_size (by repeat (first | (with_reducible first | exact HB.out | apply below_alloc | apply pw_below_drewN | apply below_drew1 | refine below_set ?_ GE173.out) | exact HB.out))) : w.heap.size ≤ gb186)); have n5_ := Aside0.mk ((by rw [hg]; exact (below_size (by repeat (first | (with_reducible first | exact HB.out | apply below_alloc | apply pw_below_drewN | apply below_drew1 | refine below_set ?_ GE173.out) | exact HB.out))) : w.heap.size ≤ gb186)); have n6_ := Aside0.mk (nl hg BK173.out); have n7_ := Aside0.mk (ng hg BK173.out); clear HO_15; clear BK173; clear HB; have HO_15 := n0_; have BK173 := n1_; have HB := n2_; have BK186 := n3_; have GW186 := n4_; have GE186 := n5_; have NB173_186 := n6_; have NB186_173 := n7_; clear n0_ n1_ n2_ n3_ n4_ n5_ n6_ n7_; clear hb hbox hg; have hnb148 := NB186_173.out; have hnc148 := NB173_186.out; have hcz149_0 : w147.cell? ⟨gb186, 0, none⟩ = some (.int .i64 0) := (blk_cell BK186.out 0).trans rfl; have hcz149_1 : w147.cell? ⟨gb186, 1, none⟩ = some (.int .i64 0) := (blk_cell BK186.out 1).trans rfl; have hcz149_2 : w147.cell? ⟨gb186, 2, none⟩ = some (.slice none 0 0) := (blk_cell BK186.out 2).trans rfl; have hfz149_0 := blk_frozen BK186.out 0; have hfz149_1 := blk_frozen BK186.out 1; have hfz149_2 := blk_frozen BK186.out 2; obtain ⟨hcz150_0, hcz150_1⟩ := blk2 BK173.out; obtain ⟨hfz150_0, hfz150_1⟩ := frz2 BK173.out) | ((with_reducible refine gate_callee (f := 42) rfl ?_); refine goesL_ (some 141) rfl rfl Try.func42 (by kernel_rfl) rfl #[.agg #[.slice (some ad185) l0_0.length c0_0, .int .i64 a0_1], .agg #[.int .i64 ((rd_T29 l0_0 x134_4).f0), .int .i64 ((rd_T29 l0_0 x134_4).f1), .slice A185_2 ((rd_T29 l0_0 x134_4).f2).length c185_2]] rfl (by (try simp only [zm1, zm2, zm3]); first | done | rfl) ?_; (with_reducible refine (tourref5_heightsOf.calls k4 _ _ l0_0 a0_1 ((rd_T29 l0_0 x134_4).f0) ((rd_T29 l0_0 x134_4).f1) _ _ ((rd_T29 l0_0 x134_4).f2) t187 t190 _ ?side1 ?side2 ?side3 ?side4 A144.out).mono ?_); (case side1 => exact Kd.C_below HR0_0.out (by repeat (first | (with_reducible first | exact HB.out | apply below_alloc | apply pw_below_drewN | apply below_drew1 | refine below_set ?_ GE173.out | refine below_set ?_ GE186.out) | exact HB.out))); (case side2 => exact HC0_0.out); (case side3 => exact Kd.C_below HR185_2.out (by repeat (first | (with_reducible first | exact HB.out | apply below_alloc | apply pw_below_drewN | apply below_drew1 | refine below_set ?_ GE173.out | refine below_set ?_ GE186.out) | exact HB.out))); (case side4 => exact HC185_2.out); rintro e w151 ⟨v188, rfl, ho0, hb⟩; refine ⟨_, rfl, ?_⟩; have n0_ := Aside0.mk (Kd.S_elder' (by (with_reducible repeat (first | apply Kd.S_alloc | apply Kd.S_drewN | apply Kd.S_drew)); exact (Kd.S_mono (Kd.S_far (p := ⟨gb186, 2, none⟩) (Kd.S_far (p := ⟨gb186, 1, none⟩) (Kd.S_far (p := ⟨gb186, 0, none⟩) (Kd.S_types HO_15.out BK186.out (by decide)) (fun _ hk => hk.2) (.int .i64 ((rd_T29 l0_0 x134_4).f0))) (fun _ hk => hk.2) (.int .i64 ((rd_T29 l0_0 x134_4).f1))) (fun _ hk => hk.2) (.slice A185_2 ((rd_T29 l0_0 x134_4).f2).length c185_2)) (fun _ h_ => h_.1))) (Kd.R_base ho0) hb); have n1_ := Aside0.mk (Kd.R_lower ho0 (below_size (by repeat (first | (with_reducible first | exact HB.out | apply below_alloc | apply pw_below_drewN | apply below_drew1 | refine below_set ?_ GE173.out | refine below_set ?_ GE186.out) | exact HB.out)))); have n2_ := Aside0.mk (blk_below (g := gb173) (o := .cells #[.slice (some ad185) l0_0.length c0_0, .int .i64 a0_1] 24 (0, 0)) (by (with_reducible repeat (first | refine blk_drewN ?_ _ | refine blk_drew ?_ | refine blk_alloc ?_ _)); refine blk_far ?_ NB173_186.out _; refine blk_far ?_ NB173_186.out _; refine blk_far ?_ NB173_186.out _; exact BK173.out) hb); have n3_ := Aside0.mk (blk_below (g := gb186) (o := .cells #[.int .i64 ((rd_T29 l0_0 x134_4).f0), .int .i64 ((rd_T29 l0_0 x134_4).f1), .slice A185_2 ((rd_T29 l0_0 x134_4).f2).length c185_2] 29 (0, 0)) (by (with_reducible repeat (first | refine blk_drewN ?_ _ | refine blk_drew ?_ | refine blk_alloc ?_ _)); refine blk_put (cs := #[.int .i64 ((rd_T29 l0_0 x134_4).f0), .int .i64 ((rd_T29 l0_0 x134_4).f1), .slice none 0 0]) ?_ 2 _ rfl; refine blk_put (cs := #[.int .i64 ((rd_T29 l0_0 x134_4).f0), .int .i64 0, .slice none 0 0]) ?_ 1 _ rfl; refine blk_put (cs := #[.int .i64 0, .int .i64 0, .slice none 0 0]) ?_ 0 _ rfl; exact BK186.out) hb); have n4_ := Aside0.mk (below_step (by repeat (first | (with_reducible first | exact HB.out | apply below_alloc | apply pw_below_drewN | apply below_drew1 | refine below_set ?_ GE173.out | refine below_set ?_ GE186.out) | exact HB.out)) hb); clear HO_15; clear BK173; clear BK186; clear HB; have HO_15 := n0_; have HO189 := n1_; have BK173 := n2_; have BK186 := n3_; have HB := n4_; clear n0_ n1_ n2_ n3_ n4_; (try clear hb); (try clear hb2); (try clear hk); (try clear hi); (try clear ho0); obtain ⟨Ao153, co153, eo153⟩ := Kd.R_slice HO189.out; subst eo153) | ((with_reducible refine gate_builtin (b := .append) (xs := #[.tmp 147, .tmp 149]) rfl ?_); (try (refine gate_guard (by rfl) ?_; dsimp only)); at_builtin; refine Kd.S_append (Kd.slice 3 (Kd.int .i64)) (w0 := w) w.heap.size rfl (.tmp 147) (.tmp 149) 30 36 (.slice none 0 0) 24 rfl Try.underlying30 info36 rfl (by decide) (by omega) u15 x15_4 t187 [.slice Ao153 t187.length co153] (fun _ => True) (fun k_ => some k_ = (.slice Ao153 t187.length co153 : Value).ownBlock) rfl rfl ?aP (fun k_ hk_ => ((Kd.R_mono (ok' := fun k_ => ((fun _ => True)) k_ ∧ some k_ ≠ (u15 : Value).ownBlock) (Kd.R_apart' (HO189.out) (Kd.S_typed HO_15.out) (by decide)) (fun k_ hk => ⟨trivial, hk.2⟩))).1 k_ hk_.symm) ?aF ?aO ?aB ?aS ?aL ?_; (case aP => exact Kd.M_row (Kd.R_mono (Kd.R_tight rfl (Kd.R_mono (ok' := fun k_ => ((fun _ => True)) k_ ∧ some k_ ≠ (u15 : Value).ownBlock) (Kd.R_apart' (HO189.out) (Kd.S_typed HO_15.out) (by decide)) (fun k_ hk => ⟨trivial, hk.2⟩))) (fun _ h_ => h_))); (case aB => exact (by repeat (first | (with_reducible first | exact HB.out | apply below_alloc | apply pw_below_drewN | apply below_drew1 | refine below_set ?_ GE173.out | refine below_set ?_ GE186.out) | exact HB.out))); (case aF => exact (fun _ _ => trivial)); (case aO => exact (by (with_reducible repeat (first | apply Kd.S_alloc | apply Kd.S_drewN | apply Kd.S_drew)); exact Kd.S_mono HO_15.out (fun k_ hk => ⟨trivial, fun e_ => hk.2 e_⟩))); (case aS => exact (below_size (by repeat (first | (with_reducible first | exact HB.out | apply below_alloc | apply pw_below_drewN | apply below_drew1 | refine below_set ?_ GE173.out | refine below_set ?_ GE186.out) | exact HB.out)))); (case aL => have := LMc146.out; omega); intro v192 w152 ho hb hg hat; rw [← Ny191.out] at ho; have n0_ := Aside0.mk (blk_grown (g := gb173) (o := .cells #[.slice (some ad185) l0_0.length c0_0, .int .i64 a0_1] 24 (0, 0)) (by (with_reducible repeat (first | refine blk_drewN ?_ _ | refine blk_drew ?_ | refine blk_alloc ?_ _)); exact BK173.out) hg (Kd.S_ne HO_15.out BK173.out (by decide))); have n1_ := Aside0.mk (blk_grown (g := gb186) (o := .cells #[.int .i64 ((rd_T29 l0_0 x134_4).f0), .int .i64 ((rd_T29 l0_0 x134_4).f1), .slice A185_2 ((rd_T29 l0_0 x134_4).f2).length c185_2] 29 (0, 0)) (by (with_reducible repeat (first | refine blk_drewN ?_ _ | refine blk_drew ?_ | refine blk_alloc ?_ _)); exact BK186.out) hg (Kd.S_ne HO_15.out BK186.out (by decide))); have n2_ := Aside0.mk (hb); have n3_ := Aside0.mk (ho); clear BK173; clear BK186; clear HB; clear HO_15; clear HO189; have BK173 := n0_; have BK186 := n1_; have HB := n2_; have HO193 := n3_; clear n0_ n1_ n2_ n3_; clear ho hb hg hat))
                  go_roundg k4
                  case measure => have := HK1.out; have := HJ22.out; have := HK3.out; have := HK4.out; omega
                  case rel => exact ⟨(y191), (wrap64 (x134_4 + 1)), (by first | rfl | (simp; done) | (simp [*]; done)), H', ⟨by have := HK1.out; have := HJ22.out; have := HK3.out; have := HK4.out; omega⟩, ⟨by (with_reducible repeat (first | apply Kd.S_alloc | apply Kd.S_drewN | apply Kd.S_drew)); exact HO193.out⟩, ⟨BK173.out⟩, ⟨by repeat (first | (with_reducible first | exact HB.out | apply below_alloc | apply pw_below_drewN | apply below_drew1 | refine below_set ?_ GE173.out | refine below_set ?_ GE186.out) | exact HB.out)⟩⟩
                 ·rw [if_neg c146] at H
                  exact absurd H (by simp)
                ·rw [if_neg c145] at H
                 have c145b0 : (t190 == 0) = false := beq_eq_false_iff_ne.mpr c145
                 have c145b1 : (t190 != 0) = true := bne_iff_ne.mpr c145
                 simp only [Option.some.injEq, Prod.mk.injEq] at H
                 obtain ⟨rfl, rfl⟩ := H
                 have p185 : 0 ≤ (x134_4 : Int) := of_decide_eq_true (by first | (with_reducible assumption) | assumption)
                 have q185 : x134_4 < (l0_0.length : Int) := of_decide_eq_true (by first | (with_reducible assumption) | assumption)
                 obtain ⟨ad185, A185_2, c185_2, e185, hx185_0, hx185_1, hx185_2, hl185_2, hi185_2⟩ := at_T29 HR0_0.out x134_4 p185 q185
                 cases e185
                 replace hx185_0 := (HB.out.cell (World.block_lt_of_cell? w _ hx185_0)).trans hx185_0
                 replace hx185_1 := (HB.out.cell (World.block_lt_of_cell? w _ hx185_1)).trans hx185_1
                 replace hx185_2 := (HB.out.cell (World.block_lt_of_cell? w _ hx185_2)).trans hx185_2
                 have HR185_2 := Aside0.mk hi185_2
                 have HC185_2 := Aside0.mk hl185_2
                 clear hi185_2 hl185_2
                 replace p185 := eq_true p185
                 replace q185 := eq_true q185
                 go_wp2_with (first | ((with_reducible refine gate_dst (N := 17) rfl ?_); (try (refine gate_guard (by rfl) ?_; dsimp only)); refine box_event ?hg (N := 17) ?hd (cs := #[.int .i64 0, .int .i64 0, .slice none 0 0]) (t := 29) ?hr ?_; (case hd => rfl); (case hg => rfl); (case hr => first | (go_simp; done) | (go_simp; rfl)); intro gb186 hg w154 hbox hb; have n0_ := Aside0.mk (Kd.S_below (by (with_reducible repeat (first | apply Kd.S_alloc | apply Kd.S_drewN | apply Kd.S_drew)); exact HO_15.out) hb); have n1_ := Aside0.mk (bb hb BK173.out); have n2_ := Aside0.mk (below_step (by repeat (first | (with_reducible first | exact HB.out | apply below_alloc | apply pw_below_drewN | apply below_drew1 | refine below_set ?_ GE173.out) | exact HB.out)) hb); have n3_ := Aside0.mk (hbox); have n4_ := Aside0.mk ((by rw [hg]; exact (below_size (by repeat (first | (with_reducible first | exact HB.out | apply below_alloc | apply pw_below_drewN | apply below_drew1 | refine below_set ?_ GE173.out) | exact HB.out))) : w.heap.size ≤ gb186)); have n5_ := Aside0.mk ((by rw [hg]; exact (below_size (by repeat (first | (with_reducible first | exact HB.out | apply below_alloc | apply pw_below_drewN | apply below_drew1 | refine below_set ?_ GE173.out) | exact HB.out))) : w.heap.size ≤ gb186)); have n6_ := Aside0.mk (nl hg BK173.out); have n7_ := Aside0.mk (ng hg BK173.out); clear HO_15; clear BK173; clear HB; have HO_15 := n0_; have BK173 := n1_; have HB := n2_; have BK186 := n3_; have GW186 := n4_; have GE186 := n5_; have NB173_186 := n6_; have NB186_173 := n7_; clear n0_ n1_ n2_ n3_ n4_ n5_ n6_ n7_; clear hb hbox hg; have hnb155 := NB186_173.out; have hnc155 := NB173_186.out; have hcz156_0 : w154.cell? ⟨gb186, 0, none⟩ = some (.int .i64 0) := (blk_cell BK186.out 0).trans rfl; have hcz156_1 : w154.cell? ⟨gb186, 1, none⟩ = some (.int .i64 0) := (blk_cell BK186.out 1).trans rfl; have hcz156_2 : w154.cell? ⟨gb186, 2, none⟩ = some (.slice none 0 0) := (blk_cell BK186.out 2).trans rfl; have hfz156_0 := blk_frozen BK186.out 0; have hfz156_1 := blk_frozen BK186.out 1; have hfz156_2 := blk_frozen BK186.out 2; obtain ⟨hcz157_0, hcz157_1⟩ := blk2 BK173.out; obtain ⟨hfz157_0, hfz157_1⟩ := frz2 BK173.out) | ((with_reducible refine gate_callee (f := 42) rfl ?_); refine goesL_ (some 141) rfl rfl Try.func42 (by kernel_rfl) rfl #[.agg #[.slice (some ad185) l0_0.length c0_0, .int .i64 a0_1], .agg #[.int .i64 ((rd_T29 l0_0 x134_4).f0), .int .i64 ((rd_T29 l0_0 x134_4).f1), .slice A185_2 ((rd_T29 l0_0 x134_4).f2).length c185_2]] rfl (by (try simp only [zm1, zm2, zm3]); first | done | rfl) ?_; (with_reducible refine (tourref5_heightsOf.calls k4 _ _ l0_0 a0_1 ((rd_T29 l0_0 x134_4).f0) ((rd_T29 l0_0 x134_4).f1) _ _ ((rd_T29 l0_0 x134_4).f2) t187 t190 _ ?side1 ?side2 ?side3 ?side4 A144.out).mono ?_); (case side1 => exact Kd.C_below HR0_0.out (by repeat (first | (with_reducible first | exact HB.out | apply below_alloc | apply pw_below_drewN | apply below_drew1 | refine below_set ?_ GE173.out | refine below_set ?_ GE186.out) | exact HB.out))); (case side2 => exact HC0_0.out); (case side3 => exact Kd.C_below HR185_2.out (by repeat (first | (with_reducible first | exact HB.out | apply below_alloc | apply pw_below_drewN | apply below_drew1 | refine below_set ?_ GE173.out | refine below_set ?_ GE186.out) | exact HB.out))); (case side4 => exact HC185_2.out); rintro e w158 ⟨v188, rfl, ho0, hb⟩; refine ⟨_, rfl, ?_⟩; have n0_ := Aside0.mk (Kd.S_elder' (by (with_reducible repeat (first | apply Kd.S_alloc | apply Kd.S_drewN | apply Kd.S_drew)); exact (Kd.S_mono (Kd.S_far (p := ⟨gb186, 2, none⟩) (Kd.S_far (p := ⟨gb186, 1, none⟩) (Kd.S_far (p := ⟨gb186, 0, none⟩) (Kd.S_types HO_15.out BK186.out (by decide)) (fun _ hk => hk.2) (.int .i64 ((rd_T29 l0_0 x134_4).f0))) (fun _ hk => hk.2) (.int .i64 ((rd_T29 l0_0 x134_4).f1))) (fun _ hk => hk.2) (.slice A185_2 ((rd_T29 l0_0 x134_4).f2).length c185_2)) (fun _ h_ => h_.1))) (Kd.R_base ho0) hb); have n1_ := Aside0.mk (Kd.R_lower ho0 (below_size (by repeat (first | (with_reducible first | exact HB.out | apply below_alloc | apply pw_below_drewN | apply below_drew1 | refine below_set ?_ GE173.out | refine below_set ?_ GE186.out) | exact HB.out)))); have n2_ := Aside0.mk (blk_below (g := gb173) (o := .cells #[.slice (some ad185) l0_0.length c0_0, .int .i64 a0_1] 24 (0, 0)) (by (with_reducible repeat (first | refine blk_drewN ?_ _ | refine blk_drew ?_ | refine blk_alloc ?_ _)); refine blk_far ?_ NB173_186.out _; refine blk_far ?_ NB173_186.out _; refine blk_far ?_ NB173_186.out _; exact BK173.out) hb); have n3_ := Aside0.mk (blk_below (g := gb186) (o := .cells #[.int .i64 ((rd_T29 l0_0 x134_4).f0), .int .i64 ((rd_T29 l0_0 x134_4).f1), .slice A185_2 ((rd_T29 l0_0 x134_4).f2).length c185_2] 29 (0, 0)) (by (with_reducible repeat (first | refine blk_drewN ?_ _ | refine blk_drew ?_ | refine blk_alloc ?_ _)); refine blk_put (cs := #[.int .i64 ((rd_T29 l0_0 x134_4).f0), .int .i64 ((rd_T29 l0_0 x134_4).f1), .slice none 0 0]) ?_ 2 _ rfl; refine blk_put (cs := #[.int .i64 ((rd_T29 l0_0 x134_4).f0), .int .i64 0, .slice none 0 0]) ?_ 1 _ rfl; refine blk_put (cs := #[.int .i64 0, .int .i64 0, .slice none 0 0]) ?_ 0 _ rfl; exact BK186.out) hb); have n4_ := Aside0.mk (below_step (by repeat (first | (with_reducible first | exact HB.out | apply below_alloc | apply pw_below_drewN | apply below_drew1 | refine below_set ?_ GE173.out | refine below_set ?_ GE186.out) | exact HB.out)) hb); clear HO_15; clear BK173; clear BK186; clear HB; have HO_15 := n0_; have HO189 := n1_; have BK173 := n2_; have BK186 := n3_; have HB := n4_; clear n0_ n1_ n2_ n3_ n4_; (try clear hb); (try clear hb2); (try clear hk); (try clear hi); (try clear ho0)))
                 go_ret2
                 exact ⟨_, by first | rfl | (simp [errW_none, errW_some] <;> rfl) | (simp [*, errW_none, errW_some] <;> rfl), by first | exact Kd.S_nil _ _ _ _ _ | exact Kd.N_nil _ _ _ _ _ | exact Kd.V_nil _ _ _ _ _ | exact Kd.Q_nil _ _ _ _ _ | exact Kd.R_nil _ _ _ _ _, by repeat (first | (with_reducible first | exact HB.out | apply below_alloc | apply pw_below_drewN | apply below_drew1 | refine below_set ?_ GE173.out | refine below_set ?_ GE186.out) | exact HB.out)⟩
               ·rw [if_neg c143] at H
                exact absurd H (by simp)
              ·rw [if_neg c142] at H
               exact absurd H (by simp)
             ·rw [if_neg c141] at H
              have c141b0 : decide (x134_4 < (l0_0.length : Int)) = false := decide_eq_false c141
              clear c141
              simp only [Option.some.injEq, Prod.mk.injEq] at H
              obtain ⟨rfl, rfl⟩ := H
              go_wp2
              go_ret2
              exact ⟨_, by first | rfl | (simp [errW_none, errW_some] <;> rfl) | (simp [*, errW_none, errW_some] <;> rfl), by (with_reducible repeat (first | apply Kd.S_alloc | apply Kd.S_drewN | apply Kd.S_drew)); exact HO_15.out, by repeat (first | (with_reducible first | exact HB.out | apply below_alloc | apply pw_below_drewN | apply below_drew1 | refine below_set ?_ GE173.out) | exact HB.out)⟩

end Go.Proofs.Ytkoopdoeehoigaa.PSoundTells
