-- Printed by a program: the print with changes of this session (wip/printpatch.py).
import Derived.Test.YtfallkiaojefnaaPBonesTellx0
import Derived.Test.YtfallkiaojefnaaPBonesTellx6
import Derived.Test.YtfallkiaojefnaaPBonesTellx10
import Derived.Test.YtfallkiaojefnaaPBonesTellx12
namespace Go.Proofs.Ytfallkiaojefnaa.PBonesTell
open Go.Proofs.Ytfallkiaojefnaa.Fnv Go.Proofs.Ytfallkiaojefnaa.Ary Go.Proofs.Ytfallkiaojefnaa.Ext
open Go.RowKit Go.Proofs.YtfallkiaojefnaaW.PrintWords Go.Proofs.YtfallkiaojefnaaW.PrintLast Go.Proofs.YtfallkiaojefnaaW.PrintMore
attribute [local go_sem] max2_int min2_int max_two min_two max_three min_three max_four min_four   -- for this text's walks alone
set_option linter.unusedVariables false
set_option linter.unusedSimpArgs false

/-! ### tourref5_PlaceOf: function 17 -/
mutual
def tourref5_PlaceOf.l0 : Nat → Int → Int → Int → Int → Int → Int → Int → Int → Int → Int → Int → Int → Int → Int → Int → Option (Int × Int × Int × Int × Int × Int × Int)
 | 0, _, _, _, _, _, _, _, _, _, _, _, _, _, _, _ => none
 | k + 1, x45, x303000, x303001, x303002, x303003, x314000, x314001, x314002, x314003, x314004, x314005, x314006, x319000, x319001, x319002 => if x45 < 3 then (if x45 = 0 then ((fix_Add.f x319000 x314000).bind fun t319 => (tourref5_PlaceOf.l0 k (wrap64 (x45 + 1)) x303000 x303001 x303002 x303003 x314000 x314001 x314002 x314003 x314004 x314005 x314006 t319 x319001 x319002)) else (if x45 = 1 then ((fix_Add.f x319001 x314001).bind fun t320 => (tourref5_PlaceOf.l0 k (wrap64 (x45 + 1)) x303000 x303001 x303002 x303003 x314000 x314001 x314002 x314003 x314004 x314005 x314006 x319000 t320 x319002)) else (if x45 = 2 then ((fix_Add.f x319002 x314002).bind fun t321 => (tourref5_PlaceOf.l0 k (wrap64 (x45 + 1)) x303000 x303001 x303002 x303003 x314000 x314001 x314002 x314003 x314004 x314005 x314006 x319000 x319001 t321)) else (none)))) else ((quat_Mul.f k x314003 x314004 x314005 x314006 x303000 x303001 x303002 x303003).bind fun bt322 => ((quat_Unit.f k bt322.1 bt322.2.1 bt322.2.2.1 bt322.2.2.2).bind fun bt326 => (some (x319000, x319001, x319002, bt326.1, bt326.2.1, bt326.2.2.1, bt326.2.2.2))))
def tourref5_PlaceOf.f : Nat → List (S35) → List (S37) → Int → Option (Int × Int × Int × Int × Int × Int × Int)
 | 0, _, _, _ => none
 | k + 1, l0, l1, a2 => if 0 ≤ a2 then (if a2 < (l1.length : Int) then ((quat_Unit.f k ((rd_T37 l1 a2).f0) ((rd_T37 l1 a2).f1) ((rd_T37 l1 a2).f2) ((rd_T37 l1 a2).f3)).bind fun bt298 => (if a2 < (l0.length : Int) then (if ((rd_T35 l0 a2).f0) < 0 then (some ((rd_T35 l0 a2).f1.f0, (rd_T35 l0 a2).f1.f1, (rd_T35 l0 a2).f1.f2, bt298.1, bt298.2.1, bt298.2.2.1, bt298.2.2.2)) else ((tourref5_PlaceOf.f k l0 l1 ((rd_T35 l0 a2).f0)).bind fun bt306 => ((quat_Turn.f k bt306.2.2.2.1 bt306.2.2.2.2.1 bt306.2.2.2.2.2.1 bt306.2.2.2.2.2.2 ((rd_T35 l0 a2).f1.f0) ((rd_T35 l0 a2).f1.f1) ((rd_T35 l0 a2).f1.f2)).bind fun bt315 => (tourref5_PlaceOf.l0 k 0 bt298.1 bt298.2.1 bt298.2.2.1 bt298.2.2.2 bt306.1 bt306.2.1 bt306.2.2.1 bt306.2.2.2.1 bt306.2.2.2.2.1 bt306.2.2.2.2.2.1 bt306.2.2.2.2.2.2 bt315.1 bt315.2.1 bt315.2.2)))) else (none))) else (none)) else (none)
end
theorem tourref5_PlaceOf.mono_l : ∀ k, (∀ y0 y1 y2, LeO (tourref5_PlaceOf.f k y0 y1 y2) (tourref5_PlaceOf.f (k + 1) y0 y1 y2)) ∧ (∀ y0 y1 y2 y3 y4 y5 y6 y7 y8 y9 y10 y11 y12 y13 y14, LeO (tourref5_PlaceOf.l0 k y0 y1 y2 y3 y4 y5 y6 y7 y8 y9 y10 y11 y12 y13 y14) (tourref5_PlaceOf.l0 (k + 1) y0 y1 y2 y3 y4 y5 y6 y7 y8 y9 y10 y11 y12 y13 y14))
 | 0 => ⟨fun _ _ _ r h => by simp [tourref5_PlaceOf.f] at h, fun _ _ _ _ _ _ _ _ _ _ _ _ _ _ _ r h => by simp [tourref5_PlaceOf.l0] at h⟩
 | k + 1 => by
  obtain ⟨ih0, ih1⟩ := tourref5_PlaceOf.mono_l k
  refine ⟨?_, ?_⟩
  ·intro y0 y1 y2
   unfold tourref5_PlaceOf.f
   repeat' first
   | (with_reducible exact ih0 _ _ _)
   | (with_reducible exact ih1 _ _ _ _ _ _ _ _ _ _ _ _ _ _ _)
   | (with_reducible exact quat_Mul.mono _ _ _ _ _ _ _ _ _)
   | (with_reducible exact quat_Turn.mono _ _ _ _ _ _ _ _)
   | (with_reducible exact quat_Unit.mono _ _ _ _ _)
   | (with_reducible exact LeO.refl _)
   | (with_reducible exact LeO.none _)
   | (with_reducible refine LeO.ite ?_ ?_)
   | (with_reducible refine LeO.bind ?_ (fun _ => ?_))
   | exact ih0 _ _ _
   | exact ih1 _ _ _ _ _ _ _ _ _ _ _ _ _ _ _
   | exact quat_Mul.mono _ _ _ _ _ _ _ _ _
   | exact quat_Turn.mono _ _ _ _ _ _ _ _
   | exact quat_Unit.mono _ _ _ _ _
   | exact LeO.none _
   | refine LeO.ite ?_ ?_
   | refine LeO.bind ?_ (fun _ => ?_)
  ·intro y0 y1 y2 y3 y4 y5 y6 y7 y8 y9 y10 y11 y12 y13 y14
   unfold tourref5_PlaceOf.l0
   repeat' first
   | (with_reducible exact ih0 _ _ _)
   | (with_reducible exact ih1 _ _ _ _ _ _ _ _ _ _ _ _ _ _ _)
   | (with_reducible exact quat_Mul.mono _ _ _ _ _ _ _ _ _)
   | (with_reducible exact quat_Turn.mono _ _ _ _ _ _ _ _)
   | (with_reducible exact quat_Unit.mono _ _ _ _ _)
   | (with_reducible exact LeO.refl _)
   | (with_reducible exact LeO.none _)
   | (with_reducible refine LeO.ite ?_ ?_)
   | (with_reducible refine LeO.bind ?_ (fun _ => ?_))
   | exact ih0 _ _ _
   | exact ih1 _ _ _ _ _ _ _ _ _ _ _ _ _ _ _
   | exact quat_Mul.mono _ _ _ _ _ _ _ _ _
   | exact quat_Turn.mono _ _ _ _ _ _ _ _
   | exact quat_Unit.mono _ _ _ _ _
   | exact LeO.none _
   | refine LeO.ite ?_ ?_
   | refine LeO.bind ?_ (fun _ => ?_)
theorem tourref5_PlaceOf.mono : ∀ a0 a1 a2 k, LeO (tourref5_PlaceOf.f k a0 a1 a2) (tourref5_PlaceOf.f (k + 1) a0 a1 a2) := by
 intro a0 a1 a2 k
 obtain ⟨ih0, ih1⟩ := tourref5_PlaceOf.mono_l k
 exact ih0 a0 a1 a2
def tourref5_PlaceOf.T3 : Bool × List (List Nat × List Nat) := (true, [([], []), ([], []), ([0, 1], [0, 1]), ([2], [2]), ([3], [3]), ([], []), ([4, 5], [4, 5]), ([6, 0, 1, 2, 3, 4, 5, 6], [6])])
def tourref5_PlaceOf.B3 : List Nat := [0, 0, 3, 7, 15, 0, 63, 127]
theorem tourref5_PlaceOf.tab3 : rtab .any (opsOf Try.f17 3) = tourref5_PlaceOf.T3 := by kernel_rfl
theorem tourref5_PlaceOf.bits3 : waitsOk tourref5_PlaceOf.T3.2 tourref5_PlaceOf.B3 = true := by kernel_rfl
def tourref5_PlaceOf.T5 : Bool × List (List Nat × List Nat) := (true, [([], []), ([0], [0]), ([], []), ([], []), ([2, 3], [2, 3]), ([4], [4]), ([5], [5]), ([1, 6], [1, 6]), ([], []), ([8, 7, 7, 0, 1, 2, 3, 4, 5, 6, 7, 8], [7, 8])])
def tourref5_PlaceOf.B5 : List Nat := [0, 1, 0, 0, 12, 28, 60, 127, 0, 511]
theorem tourref5_PlaceOf.tab5 : rtab .any (opsOf Try.f17 5) = tourref5_PlaceOf.T5 := by kernel_rfl
theorem tourref5_PlaceOf.bits5 : waitsOk tourref5_PlaceOf.T5.2 tourref5_PlaceOf.B5 = true := by kernel_rfl
def tourref5_PlaceOf.T9 : Bool × List (List Nat × List Nat) := (true, [([], []), ([], []), ([1], [1]), ([2], [2]), ([], []), ([], []), ([5, 4], [4, 5]), ([6], [6]), ([3, 7], [3, 7]), ([0, 0, 1, 2, 3, 4, 5, 6, 7, 8], [0]), ([9, 8, 8, 0, 1, 2, 3, 4, 5, 6, 7, 8], [8, 9])])
def tourref5_PlaceOf.B9 : List Nat := [0, 0, 2, 6, 0, 0, 48, 112, 254, 511, 1023]
theorem tourref5_PlaceOf.tab9 : rtab .any (opsOf Try.f17 9) = tourref5_PlaceOf.T9 := by kernel_rfl
theorem tourref5_PlaceOf.bits9 : waitsOk tourref5_PlaceOf.T9.2 tourref5_PlaceOf.B9 = true := by kernel_rfl
def tourref5_PlaceOf.T11 : Bool × List (List Nat × List Nat) := (true, [([], []), ([], []), ([1], [1]), ([], []), ([2, 3], [2, 3]), ([4, 4], [4]), ([0, 5], [0, 5]), ([6, 5, 0, 1, 2, 3, 4, 5, 6], [6])])
def tourref5_PlaceOf.B11 : List Nat := [0, 0, 2, 0, 14, 30, 63, 127]
theorem tourref5_PlaceOf.tab11 : rtab .any (opsOf Try.f17 11) = tourref5_PlaceOf.T11 := by kernel_rfl
theorem tourref5_PlaceOf.bits11 : waitsOk tourref5_PlaceOf.T11.2 tourref5_PlaceOf.B11 = true := by kernel_rfl
set_option maxHeartbeats 8000000 in
set_option maxRecDepth 100000 in
theorem tourref5_PlaceOf.calls (k : Nat) : ∀ (A0 : Option Addr) (c0 : Nat) (l0 : List (S35)) (A1 : Option Addr) (c1 : Nat) (l1 : List (S37)) (a2 : Int) (r1 : Int) (r2 : Int) (r3 : Int) (r4 : Int) (r5 : Int) (r6 : Int) (r7 : Int) (w : World) (hr0 : Kd.C k35 w A0 l0.length l0) (hc0 : l0.length ≤ c0) (hr1 : Kd.C k37 w A1 l1.length l1) (hc1 : l1.length ≤ c1) (h : tourref5_PlaceOf.f k l0 l1 a2 = some (r1, r2, r3, r4, r5, r6, r7)),
  Calls Try.prog 17 #[.slice A0 l0.length c0, .slice A1 l1.length c1, .int .i64 a2] w fun e w' => e = .returned (.agg #[.int .i64 r1, .int .i64 r2, .int .i64 r3, .int .i64 r4, .int .i64 r5, .int .i64 r6, .int .i64 r7]) ∧ Below w.heap.size w w' := by
 induction k using Nat.strongRecOn with
 | _ k ih =>
 intro A0 c0 l0 A1 c1 l1 a2 r1 r2 r3 r4 r5 r6 r7 w hr0 hc0 hr1 hc1 h
 cases k with
 | zero => exact absurd h (by simp [tourref5_PlaceOf.f])
 | succ k =>
 simp only [tourref5_PlaceOf.f] at h
 have hu39 := Try.underlying39
 have hu37 := Try.underlying37
 have hu33 := Try.underlying33
 have HR0 := Aside0.mk hr0
 have HC0 := Aside0.mk hc0
 clear hr0 hc0
 have HR1 := Aside0.mk hr1
 have HC1 := Aside0.mk hc1
 clear hr1 hc1
 have HB := Aside0.mk (Below.refl w.heap.size w)
 have H : (if 0 ≤ a2 then (if a2 < (l1.length : Int) then ((quat_Unit.f k ((rd_T37 l1 a2).f0) ((rd_T37 l1 a2).f1) ((rd_T37 l1 a2).f2) ((rd_T37 l1 a2).f3)).bind fun bt298 => (if a2 < (l0.length : Int) then (if ((rd_T35 l0 a2).f0) < 0 then (some ((rd_T35 l0 a2).f1.f0, (rd_T35 l0 a2).f1.f1, (rd_T35 l0 a2).f1.f2, bt298.1, bt298.2.1, bt298.2.2.1, bt298.2.2.2)) else ((tourref5_PlaceOf.f k l0 l1 ((rd_T35 l0 a2).f0)).bind fun bt306 => ((quat_Turn.f k bt306.2.2.2.1 bt306.2.2.2.2.1 bt306.2.2.2.2.2.1 bt306.2.2.2.2.2.2 ((rd_T35 l0 a2).f1.f0) ((rd_T35 l0 a2).f1.f1) ((rd_T35 l0 a2).f1.f2)).bind fun bt315 => (tourref5_PlaceOf.l0 k 0 bt298.1 bt298.2.1 bt298.2.2.1 bt298.2.2.2 bt306.1 bt306.2.1 bt306.2.2.1 bt306.2.2.2.1 bt306.2.2.2.2.1 bt306.2.2.2.2.2.1 bt306.2.2.2.2.2.2 bt315.1 bt315.2.1 bt315.2.2)))) else (none))) else (none)) else (none)) = some (r1, r2, r3, r4, r5, r6, r7) := h
 clear h
 by_cases c4 : 0 ≤ a2
 ·rw [if_pos c4] at H
  have c4b0 : decide (0 ≤ a2) = true := decide_eq_true c4
  clear c4
  by_cases c5 : a2 < (l1.length : Int)
  ·rw [if_pos c5] at H
   have c5b0 : decide (a2 < (l1.length : Int)) = true := decide_eq_true c5
   clear c5
   replace H := Option.bind_eq_some_iff.mp H
   obtain ⟨⟨t298, t299, t300, t301⟩, A60, H⟩ := H
   replace H : (if a2 < (l0.length : Int) then (if ((rd_T35 l0 a2).f0) < 0 then (some ((rd_T35 l0 a2).f1.f0, (rd_T35 l0 a2).f1.f1, (rd_T35 l0 a2).f1.f2, t298, t299, t300, t301)) else ((tourref5_PlaceOf.f k l0 l1 ((rd_T35 l0 a2).f0)).bind fun bt306 => ((quat_Turn.f k bt306.2.2.2.1 bt306.2.2.2.2.1 bt306.2.2.2.2.2.1 bt306.2.2.2.2.2.2 ((rd_T35 l0 a2).f1.f0) ((rd_T35 l0 a2).f1.f1) ((rd_T35 l0 a2).f1.f2)).bind fun bt315 => (tourref5_PlaceOf.l0 k 0 t298 t299 t300 t301 bt306.1 bt306.2.1 bt306.2.2.1 bt306.2.2.2.1 bt306.2.2.2.2.1 bt306.2.2.2.2.2.1 bt306.2.2.2.2.2.2 bt315.1 bt315.2.1 bt315.2.2)))) else (none)) = some (r1, r2, r3, r4, r5, r6, r7) := H
   have A6 := Aside0.mk A60
   clear A60
   by_cases c7 : a2 < (l0.length : Int)
   ·rw [if_pos c7] at H
    have c7b0 : decide (a2 < (l0.length : Int)) = true := decide_eq_true c7
    clear c7
    by_cases c8 : ((rd_T35 l0 a2).f0) < 0
    ·rw [if_pos c8] at H
     have c8b0 : decide (((rd_T35 l0 a2).f0) < 0) = true := decide_eq_true c8
     clear c8
     simp only [Option.some.injEq, Prod.mk.injEq] at H
     obtain ⟨rfl, rfl, rfl, rfl, rfl, rfl, rfl⟩ := H
     go_enter Try.func17, Try.ntmps17
     try go_wp2_with (first | ((with_reducible refine gate_dst (N := 6) rfl ?_); refine box_event ?hg (N := 6) ?hd (cs := #[.int .i64 0, .int .i64 0, .int .i64 0, .int .i64 0, .int .i64 0, .int .i64 0, .int .i64 0]) (t := 39) ?hr ?_; (case hd => rfl); (case hg => rfl); (case hr => first | (go_simp; done) | (go_simp; rfl)); intro gb296 hg w9 hbox hb; have n0_ := Aside0.mk (below_step (by repeat (first | (with_reducible first | exact HB.out | apply below_alloc | apply pw_below_drewN | apply below_drew1) | exact HB.out)) hb); have n1_ := Aside0.mk (hbox); have n2_ := Aside0.mk ((by rw [hg]; exact (below_size (by repeat (first | (with_reducible first | exact HB.out | apply below_alloc | apply pw_below_drewN | apply below_drew1) | exact HB.out))) : w.heap.size ≤ gb296)); have n3_ := Aside0.mk ((by rw [hg]; exact (below_size (by repeat (first | (with_reducible first | exact HB.out | apply below_alloc | apply pw_below_drewN | apply below_drew1) | exact HB.out))) : w.heap.size ≤ gb296)); clear HB; have HB := n0_; have BK296 := n1_; have GW296 := n2_; have GE296 := n3_; clear n0_ n1_ n2_ n3_; clear hb hbox hg; have p297 : 0 ≤ (a2 : Int) := of_decide_eq_true (by first | (with_reducible assumption) | assumption); have q297 : a2 < (l1.length : Int) := of_decide_eq_true (by first | (with_reducible assumption) | assumption); obtain ⟨ad297, e297, hx297_0, hx297_1, hx297_2, hx297_3⟩ := at_T37 HR1.out a2 p297 q297; cases e297; replace hx297_0 := (HB.out.cell (World.block_lt_of_cell? w _ hx297_0)).trans hx297_0; replace hx297_1 := (HB.out.cell (World.block_lt_of_cell? w _ hx297_1)).trans hx297_1; replace hx297_2 := (HB.out.cell (World.block_lt_of_cell? w _ hx297_2)).trans hx297_2; replace hx297_3 := (HB.out.cell (World.block_lt_of_cell? w _ hx297_3)).trans hx297_3; replace p297 := eq_true p297; replace q297 := eq_true q297) | ((with_reducible refine gate_callee (f := 22) rfl ?_); refine goesL_ (some 15) rfl rfl Try.func22 (by kernel_rfl) rfl #[.agg #[.int .i64 ((rd_T37 l1 a2).f0), .int .i64 ((rd_T37 l1 a2).f1), .int .i64 ((rd_T37 l1 a2).f2), .int .i64 ((rd_T37 l1 a2).f3)]] rfl (by (try simp only [zm1, zm2, zm3]); first | done | rfl) ?_; (with_reducible refine (quat_Unit.calls k ((rd_T37 l1 a2).f0) ((rd_T37 l1 a2).f1) ((rd_T37 l1 a2).f2) ((rd_T37 l1 a2).f3) t298 t299 t300 t301 _ A6.out).mono ?_); rintro e w10 ⟨rfl, hb⟩; refine ⟨_, rfl, ?_⟩; have n0_ := Aside0.mk (bb hb BK296.out); have n1_ := Aside0.mk (below_step (by repeat (first | (with_reducible first | exact HB.out | apply below_alloc | apply pw_below_drewN | apply below_drew1 | refine below_set ?_ GE296.out) | exact HB.out)) hb); clear BK296; clear HB; have BK296 := n0_; have HB := n1_; clear n0_ n1_; (try clear hb); (try clear hb2); (try clear hk); (try clear hi)) | ((with_reducible refine gate_dst (N := 7) rfl ?_); refine box_event ?hg (N := 7) ?hd (cs := #[.int .i64 0, .int .i64 0, .int .i64 0, .int .i64 0]) (t := 37) ?hr ?_; (case hd => rfl); (case hg => rfl); (case hr => first | (go_simp; done) | (go_simp; rfl)); intro gb302 hg w11 hbox hb; have n0_ := Aside0.mk (bb hb BK296.out); have n1_ := Aside0.mk (below_step (by repeat (first | (with_reducible first | exact HB.out | apply below_alloc | apply pw_below_drewN | apply below_drew1 | refine below_set ?_ GE296.out) | exact HB.out)) hb); have n2_ := Aside0.mk (hbox); have n3_ := Aside0.mk ((by rw [hg]; exact (below_size (by repeat (first | (with_reducible first | exact HB.out | apply below_alloc | apply pw_below_drewN | apply below_drew1 | refine below_set ?_ GE296.out) | exact HB.out))) : w.heap.size ≤ gb302)); have n4_ := Aside0.mk ((by rw [hg]; exact (below_size (by repeat (first | (with_reducible first | exact HB.out | apply below_alloc | apply pw_below_drewN | apply below_drew1 | refine below_set ?_ GE296.out) | exact HB.out))) : w.heap.size ≤ gb302)); have n5_ := Aside0.mk (nl hg BK296.out); have n6_ := Aside0.mk (ng hg BK296.out); clear BK296; clear HB; have BK296 := n0_; have HB := n1_; have BK302 := n2_; have GW302 := n3_; have GE302 := n4_; have NB296_302 := n5_; have NB302_296 := n6_; clear n0_ n1_ n2_ n3_ n4_ n5_ n6_; clear hb hbox hg; have hnb12 := NB302_296.out; have hnc12 := NB296_302.out; obtain ⟨hcz13_0, hcz13_1, hcz13_2, hcz13_3⟩ := blk4 BK302.out; obtain ⟨hfz13_0, hfz13_1, hfz13_2, hfz13_3⟩ := frz4 BK302.out; have p303 : 0 ≤ (a2 : Int) := of_decide_eq_true (by first | (with_reducible assumption) | assumption); have q303 : a2 < (l0.length : Int) := of_decide_eq_true (by first | (with_reducible assumption) | assumption); obtain ⟨ad303, e303, hx303_0, hx303_1, hx303_2, hx303_3⟩ := at_T35 HR0.out a2 p303 q303; cases e303; have hn303_0 : ad303.block ≠ gb302 := Nat.ne_of_lt (Nat.lt_of_lt_of_le (by have := World.block_lt_of_cell? _ _ hx303_0; first | rwa [add_block] at this | exact this) GW302.out); have hn303_1 : ad303.block ≠ gb302 := Nat.ne_of_lt (Nat.lt_of_lt_of_le (by have := World.block_lt_of_cell? _ _ hx303_0; first | rwa [add_block] at this | exact this) GW302.out); have hn303_2 : ad303.block ≠ gb302 := Nat.ne_of_lt (Nat.lt_of_lt_of_le (by have := World.block_lt_of_cell? _ _ hx303_0; first | rwa [add_block] at this | exact this) GW302.out); have hn303_3 : ad303.block ≠ gb302 := Nat.ne_of_lt (Nat.lt_of_lt_of_le (by have := World.block_lt_of_cell? _ _ hx303_0; first | rwa [add_block] at this | exact this) GW302.out); replace hx303_0 := (HB.out.cell (World.block_lt_of_cell? w _ hx303_0)).trans hx303_0; replace hx303_1 := (HB.out.cell (World.block_lt_of_cell? w _ hx303_1)).trans hx303_1; replace hx303_2 := (HB.out.cell (World.block_lt_of_cell? w _ hx303_2)).trans hx303_2; replace hx303_3 := (HB.out.cell (World.block_lt_of_cell? w _ hx303_3)).trans hx303_3; replace hx303_0 := (cell_far (p := ⟨gb302, 0, none⟩) (by first | exact nb hn303_0 | exact hn303_0) (.int .i64 t298)).trans hx303_0; replace hx303_1 := (cell_far (p := ⟨gb302, 0, none⟩) (by first | exact nb hn303_0 | exact hn303_0) (.int .i64 t298)).trans hx303_1; replace hx303_2 := (cell_far (p := ⟨gb302, 0, none⟩) (by first | exact nb hn303_0 | exact hn303_0) (.int .i64 t298)).trans hx303_2; replace hx303_3 := (cell_far (p := ⟨gb302, 0, none⟩) (by first | exact nb hn303_0 | exact hn303_0) (.int .i64 t298)).trans hx303_3; replace hx303_0 := (cell_far (p := ⟨gb302, 1, none⟩) (by first | exact nb hn303_1 | exact hn303_1) (.int .i64 t299)).trans hx303_0; replace hx303_1 := (cell_far (p := ⟨gb302, 1, none⟩) (by first | exact nb hn303_1 | exact hn303_1) (.int .i64 t299)).trans hx303_1; replace hx303_2 := (cell_far (p := ⟨gb302, 1, none⟩) (by first | exact nb hn303_1 | exact hn303_1) (.int .i64 t299)).trans hx303_2; replace hx303_3 := (cell_far (p := ⟨gb302, 1, none⟩) (by first | exact nb hn303_1 | exact hn303_1) (.int .i64 t299)).trans hx303_3; replace hx303_0 := (cell_far (p := ⟨gb302, 2, none⟩) (by first | exact nb hn303_2 | exact hn303_2) (.int .i64 t300)).trans hx303_0; replace hx303_1 := (cell_far (p := ⟨gb302, 2, none⟩) (by first | exact nb hn303_2 | exact hn303_2) (.int .i64 t300)).trans hx303_1; replace hx303_2 := (cell_far (p := ⟨gb302, 2, none⟩) (by first | exact nb hn303_2 | exact hn303_2) (.int .i64 t300)).trans hx303_2; replace hx303_3 := (cell_far (p := ⟨gb302, 2, none⟩) (by first | exact nb hn303_2 | exact hn303_2) (.int .i64 t300)).trans hx303_3; replace hx303_0 := (cell_far (p := ⟨gb302, 3, none⟩) (by first | exact nb hn303_3 | exact hn303_3) (.int .i64 t301)).trans hx303_0; replace hx303_1 := (cell_far (p := ⟨gb302, 3, none⟩) (by first | exact nb hn303_3 | exact hn303_3) (.int .i64 t301)).trans hx303_1; replace hx303_2 := (cell_far (p := ⟨gb302, 3, none⟩) (by first | exact nb hn303_3 | exact hn303_3) (.int .i64 t301)).trans hx303_2; replace hx303_3 := (cell_far (p := ⟨gb302, 3, none⟩) (by first | exact nb hn303_3 | exact hn303_3) (.int .i64 t301)).trans hx303_3; clear hn303_0; clear hn303_1; clear hn303_2; clear hn303_3; replace p303 := eq_true p303; replace q303 := eq_true q303))
     have n0_ : Aside0 (((((w11.setCell ⟨gb302, 0, none⟩ (.int .i64 t298)).setCell ⟨gb302, 1, none⟩ (.int .i64 t299)).setCell ⟨gb302, 2, none⟩ (.int .i64 t300)).setCell ⟨gb302, 3, none⟩ (.int .i64 t301)).heap[gb296]? = some (.cells #[.int .i64 0, .int .i64 0, .int .i64 0, .int .i64 0, .int .i64 0, .int .i64 0, .int .i64 0] 39 (0, 0))) := ⟨by (with_reducible repeat (first | refine blk_drewN ?_ _ | refine blk_drew ?_ | refine blk_alloc ?_ _)); refine blk_far ?_ NB296_302.out _; refine blk_far ?_ NB296_302.out _; refine blk_far ?_ NB296_302.out _; refine blk_far ?_ NB296_302.out _; exact BK296.out⟩
     have n1_ : Aside0 (((((w11.setCell ⟨gb302, 0, none⟩ (.int .i64 t298)).setCell ⟨gb302, 1, none⟩ (.int .i64 t299)).setCell ⟨gb302, 2, none⟩ (.int .i64 t300)).setCell ⟨gb302, 3, none⟩ (.int .i64 t301)).heap[gb302]? = some (.cells #[.int .i64 t298, .int .i64 t299, .int .i64 t300, .int .i64 t301] 37 (0, 0))) := ⟨by (with_reducible repeat (first | refine blk_drewN ?_ _ | refine blk_drew ?_ | refine blk_alloc ?_ _)); refine blk_put (cs := #[.int .i64 t298, .int .i64 t299, .int .i64 t300, .int .i64 0]) ?_ 3 _ rfl; refine blk_put (cs := #[.int .i64 t298, .int .i64 t299, .int .i64 0, .int .i64 0]) ?_ 2 _ rfl; refine blk_put (cs := #[.int .i64 t298, .int .i64 0, .int .i64 0, .int .i64 0]) ?_ 1 _ rfl; refine blk_put (cs := #[.int .i64 0, .int .i64 0, .int .i64 0, .int .i64 0]) ?_ 0 _ rfl; exact BK302.out⟩
     have n2_ : Aside0 (Below w.heap.size w ((((w11.setCell ⟨gb302, 0, none⟩ (.int .i64 t298)).setCell ⟨gb302, 1, none⟩ (.int .i64 t299)).setCell ⟨gb302, 2, none⟩ (.int .i64 t300)).setCell ⟨gb302, 3, none⟩ (.int .i64 t301))) := ⟨by repeat (first | (with_reducible first | exact HB.out | apply below_alloc | apply pw_below_drewN | apply below_drew1 | refine below_set ?_ GE296.out | refine below_set ?_ GE302.out) | exact HB.out)⟩
     (try clear BK296)
     (try clear BK302)
     (try clear HB)
     generalize ((((w11.setCell ⟨gb302, 0, none⟩ (.int .i64 t298)).setCell ⟨gb302, 1, none⟩ (.int .i64 t299)).setCell ⟨gb302, 2, none⟩ (.int .i64 t300)).setCell ⟨gb302, 3, none⟩ (.int .i64 t301)) = w14 at n0_ n1_ n2_ ⊢
     have BK296 := n0_
     have BK302 := n1_
     have HB := n2_
     clear n0_ n1_ n2_
     have n0_ := Aside0.mk (blk_drew BK296.out)
     have n1_ := Aside0.mk (blk_drew BK302.out)
     have n2_ := Aside0.mk (below_drew1 HB.out)
     clear BK296
     clear BK302
     clear HB
     have BK296 := n0_
     have BK302 := n1_
     have HB := n2_
     clear n0_ n1_ n2_
     have p304 : 0 ≤ (a2 : Int) := of_decide_eq_true (by first | (with_reducible assumption) | assumption)
     have q304 : a2 < (l0.length : Int) := of_decide_eq_true (by first | (with_reducible assumption) | assumption)
     obtain ⟨ad304, e304, hx304_0, hx304_1, hx304_2, hx304_3⟩ := at_T35 HR0.out a2 p304 q304
     have hw304_3 := hx304_3
     have hw304_2 := hx304_2
     have hw304_1 := hx304_1
     have hw304_0 := hx304_0
     obtain rfl : ad303 = ad304 := (by injection e304)
     replace hx304_0 := (HB.out.cell (World.block_lt_of_cell? w _ hx304_0)).trans hx304_0
     replace hx304_1 := (HB.out.cell (World.block_lt_of_cell? w _ hx304_1)).trans hx304_1
     replace hx304_2 := (HB.out.cell (World.block_lt_of_cell? w _ hx304_2)).trans hx304_2
     replace hx304_3 := (HB.out.cell (World.block_lt_of_cell? w _ hx304_3)).trans hx304_3
     replace p304 := eq_true p304
     replace q304 := eq_true q304
     refine start_ (n := 8) (S := fun w' => w'.cell? ⟨gb302, 0, none⟩ = some (.int .i64 t298) ∧ w'.cell? ⟨gb302, 1, none⟩ = some (.int .i64 t299) ∧ w'.cell? ⟨gb302, 2, none⟩ = some (.int .i64 t300) ∧ w'.cell? ⟨gb302, 3, none⟩ = some (.int .i64 t301) ∧ w'.cell? (ad303.add ((a2).toNat * 4)) = some (.int .i64 ((rd_T35 l0 a2).f0)) ∧ w'.cell? ⟨(ad303.add ((a2).toNat * 4)).block, (ad303.add ((a2).toNat * 4)).off + 1, none⟩ = some (.int .i64 ((rd_T35 l0 a2).f1.f0)) ∧ w'.cell? ⟨(ad303.add ((a2).toNat * 4)).block, (ad303.add ((a2).toNat * 4)).off + 2, none⟩ = some (.int .i64 ((rd_T35 l0 a2).f1.f1)) ∧ w'.cell? ⟨(ad303.add ((a2).toNat * 4)).block, (ad303.add ((a2).toNat * 4)).off + 3, none⟩ = some (.int .i64 ((rd_T35 l0 a2).f1.f2))) (ds := []) (ab 8 0) (by kernel_rfl) rfl rfl ⟨(blk_cell BK302.out 0).trans rfl, (blk_cell BK302.out 1).trans rfl, (blk_cell BK302.out 2).trans rfl, (blk_cell BK302.out 3).trans rfl, ((HB.out.cell (World.block_lt_of_cell? w _ hw304_0)).trans hw304_0), ((HB.out.cell (World.block_lt_of_cell? w _ hw304_1)).trans hw304_1), ((HB.out.cell (World.block_lt_of_cell? w _ hw304_2)).trans hw304_2), ((HB.out.cell (World.block_lt_of_cell? w _ hw304_3)).trans hw304_3)⟩ (fun hHeld => ?_); refine with_tabW tourref5_PlaceOf.tab3 tourref5_PlaceOf.bits3 (fun HT_ HW_ => ?_)
     generalize w14.drew = w15 at BK296 BK302 HB hx304_0 hx304_1 hx304_2 hx304_3 hHeld ⊢
     refine pure_ (i := 0) (N := some 22) (v := ?_) (a' := ?_) (ab 8 1) rfl rfl (any_of HT_.out (by kernel_rfl)) (fun _ _ _ h => h) (Or.inl ⟨by rfl, ?_⟩) ?_ ?_
     rotate_left
     ·intro w'
      go_simp
      with_reducible rfl
     rotate_left
     ·simp only [Act.put, zq1, zq2, zq3, i64_w, i32_w]
      rfl
     refine pure_ (i := 1) (N := some 23) (v := ?_) (a' := ?_) (ab 8 3) rfl rfl (any_of HT_.out (by kernel_rfl)) (fun _ _ _ h => h) (Or.inl ⟨by rfl, ?_⟩) ?_ ?_
     rotate_left
     ·intro w'
      go_simp
      with_reducible rfl
     rotate_left
     ·simp only [Act.put, zq1, zq2, zq3, i64_w, i32_w]
      rfl
     refine pure_ (i := 2) (N := some 24) (v := ?_) (a' := ?_) (ab 8 7) rfl rfl (any_of HT_.out (by kernel_rfl)) (fun _ _ _ h => h) (Or.inl ⟨by rfl, ?_⟩) ?_ ?_
     rotate_left
     ·intro w'
      go_simp
      with_reducible rfl
     rotate_left
     ·simp only [Act.put, zq1, zq2, zq3, i64_w, i32_w]
      rfl
     refine pure_ (i := 3) (N := some 25) (v := ?_) (a' := ?_) (ab 8 15) rfl rfl (any_of HT_.out (by kernel_rfl)) (fun _ _ _ h => h) (Or.inl ⟨by rfl, ?_⟩) ?_ ?_
     rotate_left
     ·intro w'
      go_simp
      with_reducible rfl
     rotate_left
     ·simp only [Act.put, zq1, zq2, zq3, i64_w, i32_w]
      rfl
     refine take_ (i := 4) (N := some 26) (v := ?_) (a' := ?_) (ab 8 31) rfl rfl (take_ofW HT_.out HW_.out (by kernel_rfl)) (fun _ _ _ h => h) (Or.inl ⟨by rfl, ?_⟩) hHeld ?_ ?_
     rotate_left
     ·rintro w' ⟨s0, s1, s2, s3, s4, s5, s6, s7⟩
      go_simp
      with_reducible rfl
     rotate_left
     ·simp only [Act.put, zq1, zq2, zq3, i64_w, i32_w]
      rfl
     refine take_ (i := 5) (N := some 27) (v := ?_) (a' := ?_) (ab 8 63) rfl rfl (take_ofW HT_.out HW_.out (by kernel_rfl)) (fun _ _ _ h => h) (Or.inl ⟨by rfl, ?_⟩) hHeld ?_ ?_
     rotate_left
     ·rintro w' ⟨s0, s1, s2, s3, s4, s5, s6, s7⟩
      go_simp
      with_reducible rfl
     rotate_left
     ·simp only [Act.put, zq1, zq2, zq3, i64_w, i32_w]
      rfl
     refine pure_ (i := 6) (N := some 28) (v := ?_) (a' := ?_) (ab 8 127) rfl rfl (any_of HT_.out (by kernel_rfl)) (fun _ _ _ h => h) (Or.inl ⟨by rfl, ?_⟩) ?_ ?_
     rotate_left
     ·intro w'
      go_simp
      with_reducible rfl
     rotate_left
     ·simp only [Act.put, zq1, zq2, zq3, i64_w, i32_w]
      rfl
     refine one_ (i := 7) (N := none) (ab 8 255) rfl rfl (one_of HT_.out (by kernel_rfl)) (by decide) (fun K hK => ?_)
     have hs16 : w15.cell? ⟨gb296, 0, none⟩ = some (.int .i64 0) := (blk_cell BK296.out 0).trans rfl
     have hfs16 := blk_frozen BK296.out 0
     have hns16_1 := NB302_296.out
     have hms16_1 := NB296_302.out
     have hs17 : w15.cell? ⟨gb296, 1, none⟩ = some (.int .i64 0) := (blk_cell BK296.out 1).trans rfl
     have hfs17 := blk_frozen BK296.out 1
     have hns17_1 := NB302_296.out
     have hms17_1 := NB296_302.out
     have hs18 : w15.cell? ⟨gb296, 2, none⟩ = some (.int .i64 0) := (blk_cell BK296.out 2).trans rfl
     have hfs18 := blk_frozen BK296.out 2
     have hns18_1 := NB302_296.out
     have hms18_1 := NB296_302.out
     have hs19 : w15.cell? ⟨gb296, 3, none⟩ = some (.int .i64 0) := (blk_cell BK296.out 3).trans rfl
     have hfs19 := blk_frozen BK296.out 3
     have hns19_1 := NB302_296.out
     have hms19_1 := NB296_302.out
     have hs20 : w15.cell? ⟨gb296, 4, none⟩ = some (.int .i64 0) := (blk_cell BK296.out 4).trans rfl
     have hfs20 := blk_frozen BK296.out 4
     have hns20_1 := NB302_296.out
     have hms20_1 := NB296_302.out
     have hs21 : w15.cell? ⟨gb296, 5, none⟩ = some (.int .i64 0) := (blk_cell BK296.out 5).trans rfl
     have hfs21 := blk_frozen BK296.out 5
     have hns21_1 := NB302_296.out
     have hms21_1 := NB296_302.out
     have hs22 : w15.cell? ⟨gb296, 6, none⟩ = some (.int .i64 0) := (blk_cell BK296.out 6).trans rfl
     have hfs22 := blk_frozen BK296.out 6
     have hns22_1 := NB302_296.out
     have hms22_1 := NB296_302.out
     refine skip_ (w1 := ?_) (by rfl) rfl ?_ ?_
     rotate_left
     ·go_simp
      rfl
     refine hK.out _ _ ⟨(cf NB302_296.out ((cf NB302_296.out ((cf NB302_296.out ((cf NB302_296.out ((cf NB302_296.out ((cf NB302_296.out ((cf NB302_296.out (hHeld.1)))))))))))))), (cf NB302_296.out ((cf NB302_296.out ((cf NB302_296.out ((cf NB302_296.out ((cf NB302_296.out ((cf NB302_296.out ((cf NB302_296.out (hHeld.2.1)))))))))))))), (cf NB302_296.out ((cf NB302_296.out ((cf NB302_296.out ((cf NB302_296.out ((cf NB302_296.out ((cf NB302_296.out ((cf NB302_296.out (hHeld.2.2.1)))))))))))))), (cf NB302_296.out ((cf NB302_296.out ((cf NB302_296.out ((cf NB302_296.out ((cf NB302_296.out ((cf NB302_296.out ((cf NB302_296.out (hHeld.2.2.2.1)))))))))))))), (cf (by exact (lb hw304_0 GW296.out :)) ((cf (by exact (lb hw304_0 GW296.out :)) ((cf (by exact (lb hw304_0 GW296.out :)) ((cf (by exact (lb hw304_0 GW296.out :)) ((cf (by exact (lb hw304_0 GW296.out :)) ((cf (by exact (lb hw304_0 GW296.out :)) ((cf (by exact (lb hw304_0 GW296.out :)) (hHeld.2.2.2.2.1)))))))))))))), (cf (by exact (lb hw304_1 GW296.out :)) ((cf (by exact (lb hw304_1 GW296.out :)) ((cf (by exact (lb hw304_1 GW296.out :)) ((cf (by exact (lb hw304_1 GW296.out :)) ((cf (by exact (lb hw304_1 GW296.out :)) ((cf (by exact (lb hw304_1 GW296.out :)) ((cf (by exact (lb hw304_1 GW296.out :)) (hHeld.2.2.2.2.2.1)))))))))))))), (cf (by exact (lb hw304_2 GW296.out :)) ((cf (by exact (lb hw304_2 GW296.out :)) ((cf (by exact (lb hw304_2 GW296.out :)) ((cf (by exact (lb hw304_2 GW296.out :)) ((cf (by exact (lb hw304_2 GW296.out :)) ((cf (by exact (lb hw304_2 GW296.out :)) ((cf (by exact (lb hw304_2 GW296.out :)) (hHeld.2.2.2.2.2.2.1)))))))))))))), (cf (by exact (lb hw304_3 GW296.out :)) ((cf (by exact (lb hw304_3 GW296.out :)) ((cf (by exact (lb hw304_3 GW296.out :)) ((cf (by exact (lb hw304_3 GW296.out :)) ((cf (by exact (lb hw304_3 GW296.out :)) ((cf (by exact (lb hw304_3 GW296.out :)) ((cf (by exact (lb hw304_3 GW296.out :)) (hHeld.2.2.2.2.2.2.2))))))))))))))⟩ (fun hHeld => ?_)
     clear hK K
     refine done_ (done_of HT_.out (by kernel_rfl)) ?_
     try go_wp2
     refine bodyPost_ret (results_cell_row rfl _ _ gb296 39 #[.int .i64 ((rd_T35 l0 a2).f1.f0), .int .i64 ((rd_T35 l0 a2).f1.f1), .int .i64 ((rd_T35 l0 a2).f1.f2), .int .i64 t298, .int .i64 t299, .int .i64 t300, .int .i64 t301] (0, 0) _ rfl (by (with_reducible repeat (first | refine blk_drewN ?_ _ | refine blk_drew ?_ | refine blk_alloc ?_ _)); refine blk_put (cs := #[.int .i64 ((rd_T35 l0 a2).f1.f0), .int .i64 ((rd_T35 l0 a2).f1.f1), .int .i64 ((rd_T35 l0 a2).f1.f2), .int .i64 t298, .int .i64 t299, .int .i64 t300, .int .i64 0]) ?_ 6 _ rfl; refine blk_put (cs := #[.int .i64 ((rd_T35 l0 a2).f1.f0), .int .i64 ((rd_T35 l0 a2).f1.f1), .int .i64 ((rd_T35 l0 a2).f1.f2), .int .i64 t298, .int .i64 t299, .int .i64 0, .int .i64 0]) ?_ 5 _ rfl; refine blk_put (cs := #[.int .i64 ((rd_T35 l0 a2).f1.f0), .int .i64 ((rd_T35 l0 a2).f1.f1), .int .i64 ((rd_T35 l0 a2).f1.f2), .int .i64 t298, .int .i64 0, .int .i64 0, .int .i64 0]) ?_ 4 _ rfl; refine blk_put (cs := #[.int .i64 ((rd_T35 l0 a2).f1.f0), .int .i64 ((rd_T35 l0 a2).f1.f1), .int .i64 ((rd_T35 l0 a2).f1.f2), .int .i64 0, .int .i64 0, .int .i64 0, .int .i64 0]) ?_ 3 _ rfl; refine blk_put (cs := #[.int .i64 ((rd_T35 l0 a2).f1.f0), .int .i64 ((rd_T35 l0 a2).f1.f1), .int .i64 0, .int .i64 0, .int .i64 0, .int .i64 0, .int .i64 0]) ?_ 2 _ rfl; refine blk_put (cs := #[.int .i64 ((rd_T35 l0 a2).f1.f0), .int .i64 0, .int .i64 0, .int .i64 0, .int .i64 0, .int .i64 0, .int .i64 0]) ?_ 1 _ rfl; refine blk_put (cs := #[.int .i64 0, .int .i64 0, .int .i64 0, .int .i64 0, .int .i64 0, .int .i64 0, .int .i64 0]) ?_ 0 _ rfl; exact BK296.out) Try.underlying39 rfl (by kernel_rfl)) rfl ?_
     exact ⟨by first | rfl | (simp [errW_none, errW_some] <;> rfl) | (simp [*, errW_none, errW_some] <;> rfl), by repeat (first | (with_reducible first | exact HB.out | apply below_alloc | apply pw_below_drewN | apply below_drew1 | refine below_set ?_ GE296.out | refine below_set ?_ GE302.out) | exact HB.out)⟩
    ·rw [if_neg c8] at H
     have c8b0 : decide (((rd_T35 l0 a2).f0) < 0) = false := decide_eq_false c8
     clear c8
     replace H := Option.bind_eq_some_iff.mp H
     obtain ⟨⟨t306, t307, t308, t309, t310, t311, t312⟩, A230, H⟩ := H
     replace H : ((quat_Turn.f k t309 t310 t311 t312 ((rd_T35 l0 a2).f1.f0) ((rd_T35 l0 a2).f1.f1) ((rd_T35 l0 a2).f1.f2)).bind fun bt315 => (tourref5_PlaceOf.l0 k 0 t298 t299 t300 t301 t306 t307 t308 t309 t310 t311 t312 bt315.1 bt315.2.1 bt315.2.2)) = some (r1, r2, r3, r4, r5, r6, r7) := H
     have A23 := Aside0.mk A230
     clear A230
     replace H := Option.bind_eq_some_iff.mp H
     obtain ⟨⟨t315, t316, t317⟩, A240, H⟩ := H
     replace H : (tourref5_PlaceOf.l0 k 0 t298 t299 t300 t301 t306 t307 t308 t309 t310 t311 t312 t315 t316 t317) = some (r1, r2, r3, r4, r5, r6, r7) := H
     have A24 := Aside0.mk A240
     clear A240
     have H' := Aside0.mk H
     clear H
     go_enter Try.func17, Try.ntmps17
     try go_wp2_with (first | ((with_reducible refine gate_dst (N := 6) rfl ?_); refine box_event ?hg (N := 6) ?hd (cs := #[.int .i64 0, .int .i64 0, .int .i64 0, .int .i64 0, .int .i64 0, .int .i64 0, .int .i64 0]) (t := 39) ?hr ?_; (case hd => rfl); (case hg => rfl); (case hr => first | (go_simp; done) | (go_simp; rfl)); intro gb296 hg w25 hbox hb; have n0_ := Aside0.mk (below_step (by repeat (first | (with_reducible first | exact HB.out | apply below_alloc | apply pw_below_drewN | apply below_drew1) | exact HB.out)) hb); have n1_ := Aside0.mk (hbox); have n2_ := Aside0.mk ((by rw [hg]; exact (below_size (by repeat (first | (with_reducible first | exact HB.out | apply below_alloc | apply pw_below_drewN | apply below_drew1) | exact HB.out))) : w.heap.size ≤ gb296)); have n3_ := Aside0.mk ((by rw [hg]; exact (below_size (by repeat (first | (with_reducible first | exact HB.out | apply below_alloc | apply pw_below_drewN | apply below_drew1) | exact HB.out))) : w.heap.size ≤ gb296)); clear HB; have HB := n0_; have BK296 := n1_; have GW296 := n2_; have GE296 := n3_; clear n0_ n1_ n2_ n3_; clear hb hbox hg; have p297 : 0 ≤ (a2 : Int) := of_decide_eq_true (by first | (with_reducible assumption) | assumption); have q297 : a2 < (l1.length : Int) := of_decide_eq_true (by first | (with_reducible assumption) | assumption); obtain ⟨ad297, e297, hx297_0, hx297_1, hx297_2, hx297_3⟩ := at_T37 HR1.out a2 p297 q297; cases e297; replace hx297_0 := (HB.out.cell (World.block_lt_of_cell? w _ hx297_0)).trans hx297_0; replace hx297_1 := (HB.out.cell (World.block_lt_of_cell? w _ hx297_1)).trans hx297_1; replace hx297_2 := (HB.out.cell (World.block_lt_of_cell? w _ hx297_2)).trans hx297_2; replace hx297_3 := (HB.out.cell (World.block_lt_of_cell? w _ hx297_3)).trans hx297_3; replace p297 := eq_true p297; replace q297 := eq_true q297) | ((with_reducible refine gate_callee (f := 22) rfl ?_); refine goesL_ (some 15) rfl rfl Try.func22 (by kernel_rfl) rfl #[.agg #[.int .i64 ((rd_T37 l1 a2).f0), .int .i64 ((rd_T37 l1 a2).f1), .int .i64 ((rd_T37 l1 a2).f2), .int .i64 ((rd_T37 l1 a2).f3)]] rfl (by (try simp only [zm1, zm2, zm3]); first | done | rfl) ?_; (with_reducible refine (quat_Unit.calls k ((rd_T37 l1 a2).f0) ((rd_T37 l1 a2).f1) ((rd_T37 l1 a2).f2) ((rd_T37 l1 a2).f3) t298 t299 t300 t301 _ A6.out).mono ?_); rintro e w26 ⟨rfl, hb⟩; refine ⟨_, rfl, ?_⟩; have n0_ := Aside0.mk (bb hb BK296.out); have n1_ := Aside0.mk (below_step (by repeat (first | (with_reducible first | exact HB.out | apply below_alloc | apply pw_below_drewN | apply below_drew1 | refine below_set ?_ GE296.out) | exact HB.out)) hb); clear BK296; clear HB; have BK296 := n0_; have HB := n1_; clear n0_ n1_; (try clear hb); (try clear hb2); (try clear hk); (try clear hi)) | ((with_reducible refine gate_dst (N := 7) rfl ?_); refine box_event ?hg (N := 7) ?hd (cs := #[.int .i64 0, .int .i64 0, .int .i64 0, .int .i64 0]) (t := 37) ?hr ?_; (case hd => rfl); (case hg => rfl); (case hr => first | (go_simp; done) | (go_simp; rfl)); intro gb302 hg w27 hbox hb; have n0_ := Aside0.mk (bb hb BK296.out); have n1_ := Aside0.mk (below_step (by repeat (first | (with_reducible first | exact HB.out | apply below_alloc | apply pw_below_drewN | apply below_drew1 | refine below_set ?_ GE296.out) | exact HB.out)) hb); have n2_ := Aside0.mk (hbox); have n3_ := Aside0.mk ((by rw [hg]; exact (below_size (by repeat (first | (with_reducible first | exact HB.out | apply below_alloc | apply pw_below_drewN | apply below_drew1 | refine below_set ?_ GE296.out) | exact HB.out))) : w.heap.size ≤ gb302)); have n4_ := Aside0.mk ((by rw [hg]; exact (below_size (by repeat (first | (with_reducible first | exact HB.out | apply below_alloc | apply pw_below_drewN | apply below_drew1 | refine below_set ?_ GE296.out) | exact HB.out))) : w.heap.size ≤ gb302)); have n5_ := Aside0.mk (nl hg BK296.out); have n6_ := Aside0.mk (ng hg BK296.out); clear BK296; clear HB; have BK296 := n0_; have HB := n1_; have BK302 := n2_; have GW302 := n3_; have GE302 := n4_; have NB296_302 := n5_; have NB302_296 := n6_; clear n0_ n1_ n2_ n3_ n4_ n5_ n6_; clear hb hbox hg; have hnb28 := NB302_296.out; have hnc28 := NB296_302.out; obtain ⟨hcz29_0, hcz29_1, hcz29_2, hcz29_3⟩ := blk4 BK302.out; obtain ⟨hfz29_0, hfz29_1, hfz29_2, hfz29_3⟩ := frz4 BK302.out; have p303 : 0 ≤ (a2 : Int) := of_decide_eq_true (by first | (with_reducible assumption) | assumption); have q303 : a2 < (l0.length : Int) := of_decide_eq_true (by first | (with_reducible assumption) | assumption); obtain ⟨ad303, e303, hx303_0, hx303_1, hx303_2, hx303_3⟩ := at_T35 HR0.out a2 p303 q303; cases e303; have hn303_0 : ad303.block ≠ gb302 := Nat.ne_of_lt (Nat.lt_of_lt_of_le (by have := World.block_lt_of_cell? _ _ hx303_0; first | rwa [add_block] at this | exact this) GW302.out); have hn303_1 : ad303.block ≠ gb302 := Nat.ne_of_lt (Nat.lt_of_lt_of_le (by have := World.block_lt_of_cell? _ _ hx303_0; first | rwa [add_block] at this | exact this) GW302.out); have hn303_2 : ad303.block ≠ gb302 := Nat.ne_of_lt (Nat.lt_of_lt_of_le (by have := World.block_lt_of_cell? _ _ hx303_0; first | rwa [add_block] at this | exact this) GW302.out); have hn303_3 : ad303.block ≠ gb302 := Nat.ne_of_lt (Nat.lt_of_lt_of_le (by have := World.block_lt_of_cell? _ _ hx303_0; first | rwa [add_block] at this | exact this) GW302.out); replace hx303_0 := (HB.out.cell (World.block_lt_of_cell? w _ hx303_0)).trans hx303_0; replace hx303_1 := (HB.out.cell (World.block_lt_of_cell? w _ hx303_1)).trans hx303_1; replace hx303_2 := (HB.out.cell (World.block_lt_of_cell? w _ hx303_2)).trans hx303_2; replace hx303_3 := (HB.out.cell (World.block_lt_of_cell? w _ hx303_3)).trans hx303_3; replace hx303_0 := (cell_far (p := ⟨gb302, 0, none⟩) (by first | exact nb hn303_0 | exact hn303_0) (.int .i64 t298)).trans hx303_0; replace hx303_1 := (cell_far (p := ⟨gb302, 0, none⟩) (by first | exact nb hn303_0 | exact hn303_0) (.int .i64 t298)).trans hx303_1; replace hx303_2 := (cell_far (p := ⟨gb302, 0, none⟩) (by first | exact nb hn303_0 | exact hn303_0) (.int .i64 t298)).trans hx303_2; replace hx303_3 := (cell_far (p := ⟨gb302, 0, none⟩) (by first | exact nb hn303_0 | exact hn303_0) (.int .i64 t298)).trans hx303_3; replace hx303_0 := (cell_far (p := ⟨gb302, 1, none⟩) (by first | exact nb hn303_1 | exact hn303_1) (.int .i64 t299)).trans hx303_0; replace hx303_1 := (cell_far (p := ⟨gb302, 1, none⟩) (by first | exact nb hn303_1 | exact hn303_1) (.int .i64 t299)).trans hx303_1; replace hx303_2 := (cell_far (p := ⟨gb302, 1, none⟩) (by first | exact nb hn303_1 | exact hn303_1) (.int .i64 t299)).trans hx303_2; replace hx303_3 := (cell_far (p := ⟨gb302, 1, none⟩) (by first | exact nb hn303_1 | exact hn303_1) (.int .i64 t299)).trans hx303_3; replace hx303_0 := (cell_far (p := ⟨gb302, 2, none⟩) (by first | exact nb hn303_2 | exact hn303_2) (.int .i64 t300)).trans hx303_0; replace hx303_1 := (cell_far (p := ⟨gb302, 2, none⟩) (by first | exact nb hn303_2 | exact hn303_2) (.int .i64 t300)).trans hx303_1; replace hx303_2 := (cell_far (p := ⟨gb302, 2, none⟩) (by first | exact nb hn303_2 | exact hn303_2) (.int .i64 t300)).trans hx303_2; replace hx303_3 := (cell_far (p := ⟨gb302, 2, none⟩) (by first | exact nb hn303_2 | exact hn303_2) (.int .i64 t300)).trans hx303_3; replace hx303_0 := (cell_far (p := ⟨gb302, 3, none⟩) (by first | exact nb hn303_3 | exact hn303_3) (.int .i64 t301)).trans hx303_0; replace hx303_1 := (cell_far (p := ⟨gb302, 3, none⟩) (by first | exact nb hn303_3 | exact hn303_3) (.int .i64 t301)).trans hx303_1; replace hx303_2 := (cell_far (p := ⟨gb302, 3, none⟩) (by first | exact nb hn303_3 | exact hn303_3) (.int .i64 t301)).trans hx303_2; replace hx303_3 := (cell_far (p := ⟨gb302, 3, none⟩) (by first | exact nb hn303_3 | exact hn303_3) (.int .i64 t301)).trans hx303_3; clear hn303_0; clear hn303_1; clear hn303_2; clear hn303_3; replace p303 := eq_true p303; replace q303 := eq_true q303; have p305 : 0 ≤ (a2 : Int) := of_decide_eq_true (by first | (with_reducible assumption) | assumption); have q305 : a2 < (l0.length : Int) := of_decide_eq_true (by first | (with_reducible assumption) | assumption); obtain ⟨ad305, e305, hx305_0, hx305_1, hx305_2, hx305_3⟩ := at_T35 HR0.out a2 p305 q305; obtain rfl : ad303 = ad305 := (by injection e305); have hn305_0 : ad303.block ≠ gb302 := Nat.ne_of_lt (Nat.lt_of_lt_of_le (by have := World.block_lt_of_cell? _ _ hx305_0; first | rwa [add_block] at this | exact this) GW302.out); have hn305_1 : ad303.block ≠ gb302 := Nat.ne_of_lt (Nat.lt_of_lt_of_le (by have := World.block_lt_of_cell? _ _ hx305_0; first | rwa [add_block] at this | exact this) GW302.out); have hn305_2 : ad303.block ≠ gb302 := Nat.ne_of_lt (Nat.lt_of_lt_of_le (by have := World.block_lt_of_cell? _ _ hx305_0; first | rwa [add_block] at this | exact this) GW302.out); have hn305_3 : ad303.block ≠ gb302 := Nat.ne_of_lt (Nat.lt_of_lt_of_le (by have := World.block_lt_of_cell? _ _ hx305_0; first | rwa [add_block] at this | exact this) GW302.out); replace hx305_0 := (HB.out.cell (World.block_lt_of_cell? w _ hx305_0)).trans hx305_0; replace hx305_1 := (HB.out.cell (World.block_lt_of_cell? w _ hx305_1)).trans hx305_1; replace hx305_2 := (HB.out.cell (World.block_lt_of_cell? w _ hx305_2)).trans hx305_2; replace hx305_3 := (HB.out.cell (World.block_lt_of_cell? w _ hx305_3)).trans hx305_3; replace hx305_0 := (cell_far (p := ⟨gb302, 0, none⟩) (by first | exact nb hn305_0 | exact hn305_0) (.int .i64 t298)).trans hx305_0; replace hx305_1 := (cell_far (p := ⟨gb302, 0, none⟩) (by first | exact nb hn305_0 | exact hn305_0) (.int .i64 t298)).trans hx305_1; replace hx305_2 := (cell_far (p := ⟨gb302, 0, none⟩) (by first | exact nb hn305_0 | exact hn305_0) (.int .i64 t298)).trans hx305_2; replace hx305_3 := (cell_far (p := ⟨gb302, 0, none⟩) (by first | exact nb hn305_0 | exact hn305_0) (.int .i64 t298)).trans hx305_3; replace hx305_0 := (cell_far (p := ⟨gb302, 1, none⟩) (by first | exact nb hn305_1 | exact hn305_1) (.int .i64 t299)).trans hx305_0; replace hx305_1 := (cell_far (p := ⟨gb302, 1, none⟩) (by first | exact nb hn305_1 | exact hn305_1) (.int .i64 t299)).trans hx305_1; replace hx305_2 := (cell_far (p := ⟨gb302, 1, none⟩) (by first | exact nb hn305_1 | exact hn305_1) (.int .i64 t299)).trans hx305_2; replace hx305_3 := (cell_far (p := ⟨gb302, 1, none⟩) (by first | exact nb hn305_1 | exact hn305_1) (.int .i64 t299)).trans hx305_3; replace hx305_0 := (cell_far (p := ⟨gb302, 2, none⟩) (by first | exact nb hn305_2 | exact hn305_2) (.int .i64 t300)).trans hx305_0; replace hx305_1 := (cell_far (p := ⟨gb302, 2, none⟩) (by first | exact nb hn305_2 | exact hn305_2) (.int .i64 t300)).trans hx305_1; replace hx305_2 := (cell_far (p := ⟨gb302, 2, none⟩) (by first | exact nb hn305_2 | exact hn305_2) (.int .i64 t300)).trans hx305_2; replace hx305_3 := (cell_far (p := ⟨gb302, 2, none⟩) (by first | exact nb hn305_2 | exact hn305_2) (.int .i64 t300)).trans hx305_3; replace hx305_0 := (cell_far (p := ⟨gb302, 3, none⟩) (by first | exact nb hn305_3 | exact hn305_3) (.int .i64 t301)).trans hx305_0; replace hx305_1 := (cell_far (p := ⟨gb302, 3, none⟩) (by first | exact nb hn305_3 | exact hn305_3) (.int .i64 t301)).trans hx305_1; replace hx305_2 := (cell_far (p := ⟨gb302, 3, none⟩) (by first | exact nb hn305_3 | exact hn305_3) (.int .i64 t301)).trans hx305_2; replace hx305_3 := (cell_far (p := ⟨gb302, 3, none⟩) (by first | exact nb hn305_3 | exact hn305_3) (.int .i64 t301)).trans hx305_3; clear hn305_0; clear hn305_1; clear hn305_2; clear hn305_3; replace p305 := eq_true p305; replace q305 := eq_true q305) | ((with_reducible refine gate_callee (f := 17) rfl ?_); refine goesL_ (some 36) rfl rfl Try.func17 (by kernel_rfl) rfl #[.slice (some ad303) l0.length c0, .slice (some ad297) l1.length c1, .int .i64 ((rd_T35 l0 a2).f0)] rfl (by (try simp only [zm1, zm2, zm3]); first | done | rfl) ?_; (with_reducible refine (ih k (by omega) _ _ l0 _ _ l1 ((rd_T35 l0 a2).f0) t306 t307 t308 t309 t310 t311 t312 _ ?side1 ?side2 ?side3 ?side4 A23.out).mono ?_); (case side1 => exact Kd.C_below HR0.out (by repeat (first | (with_reducible first | exact HB.out | apply below_alloc | apply pw_below_drewN | apply below_drew1 | refine below_set ?_ GE296.out | refine below_set ?_ GE302.out) | exact HB.out))); (case side2 => exact HC0.out); (case side3 => exact Kd.C_below HR1.out (by repeat (first | (with_reducible first | exact HB.out | apply below_alloc | apply pw_below_drewN | apply below_drew1 | refine below_set ?_ GE296.out | refine below_set ?_ GE302.out) | exact HB.out))); (case side4 => exact HC1.out); rintro e w30 ⟨rfl, hb⟩; refine ⟨_, rfl, ?_⟩; have n0_ := Aside0.mk (blk_below (g := gb296) (o := .cells #[.int .i64 0, .int .i64 0, .int .i64 0, .int .i64 0, .int .i64 0, .int .i64 0, .int .i64 0] 39 (0, 0)) (by (with_reducible repeat (first | refine blk_drewN ?_ _ | refine blk_drew ?_ | refine blk_alloc ?_ _)); refine blk_far ?_ NB296_302.out _; refine blk_far ?_ NB296_302.out _; refine blk_far ?_ NB296_302.out _; refine blk_far ?_ NB296_302.out _; exact BK296.out) hb); have n1_ := Aside0.mk (blk_below (g := gb302) (o := .cells #[.int .i64 t298, .int .i64 t299, .int .i64 t300, .int .i64 t301] 37 (0, 0)) (by (with_reducible repeat (first | refine blk_drewN ?_ _ | refine blk_drew ?_ | refine blk_alloc ?_ _)); refine blk_put (cs := #[.int .i64 t298, .int .i64 t299, .int .i64 t300, .int .i64 0]) ?_ 3 _ rfl; refine blk_put (cs := #[.int .i64 t298, .int .i64 t299, .int .i64 0, .int .i64 0]) ?_ 2 _ rfl; refine blk_put (cs := #[.int .i64 t298, .int .i64 0, .int .i64 0, .int .i64 0]) ?_ 1 _ rfl; refine blk_put (cs := #[.int .i64 0, .int .i64 0, .int .i64 0, .int .i64 0]) ?_ 0 _ rfl; exact BK302.out) hb); have n2_ := Aside0.mk (below_step (by repeat (first | (with_reducible first | exact HB.out | apply below_alloc | apply pw_below_drewN | apply below_drew1 | refine below_set ?_ GE296.out | refine below_set ?_ GE302.out) | exact HB.out)) hb); clear BK296; clear BK302; clear HB; have BK296 := n0_; have BK302 := n1_; have HB := n2_; clear n0_ n1_ n2_; (try clear hb); (try clear hb2); (try clear hk); (try clear hi)) | ((with_reducible refine gate_dst (N := 8) rfl ?_); refine box_event ?hg (N := 8) ?hd (cs := #[.int .i64 0, .int .i64 0, .int .i64 0, .int .i64 0, .int .i64 0, .int .i64 0, .int .i64 0]) (t := 39) ?hr ?_; (case hd => rfl); (case hg => rfl); (case hr => first | (go_simp; done) | (go_simp; rfl)); intro gb313 hg w31 hbox hb; have n0_ := Aside0.mk (bb hb BK296.out); have n1_ := Aside0.mk (bb hb BK302.out); have n2_ := Aside0.mk (below_step (by repeat (first | (with_reducible first | exact HB.out | apply below_alloc | apply pw_below_drewN | apply below_drew1 | refine below_set ?_ GE296.out | refine below_set ?_ GE302.out) | exact HB.out)) hb); have n3_ := Aside0.mk (hbox); have n4_ := Aside0.mk ((by rw [hg]; exact (below_size (by repeat (first | (with_reducible first | exact HB.out | apply below_alloc | apply pw_below_drewN | apply below_drew1 | refine below_set ?_ GE296.out | refine below_set ?_ GE302.out) | exact HB.out))) : w.heap.size ≤ gb313)); have n5_ := Aside0.mk ((by rw [hg]; exact (below_size (by repeat (first | (with_reducible first | exact HB.out | apply below_alloc | apply pw_below_drewN | apply below_drew1 | refine below_set ?_ GE296.out | refine below_set ?_ GE302.out) | exact HB.out))) : w.heap.size ≤ gb313)); have n6_ := Aside0.mk (nl hg BK296.out); have n7_ := Aside0.mk (ng hg BK296.out); have n8_ := Aside0.mk (nl hg BK302.out); have n9_ := Aside0.mk (ng hg BK302.out); clear BK296; clear BK302; clear HB; have BK296 := n0_; have BK302 := n1_; have HB := n2_; have BK313 := n3_; have GW313 := n4_; have GE313 := n5_; have NB296_313 := n6_; have NB313_296 := n7_; have NB302_313 := n8_; have NB313_302 := n9_; clear n0_ n1_ n2_ n3_ n4_ n5_ n6_ n7_ n8_ n9_; clear hb hbox hg; have hnb32 := NB313_296.out; have hnc32 := NB296_313.out; have hnb33 := NB313_302.out; have hnc33 := NB302_313.out; have hcz34_0 : w31.cell? ⟨gb313, 0, none⟩ = some (.int .i64 0) := (blk_cell BK313.out 0).trans rfl; have hcz34_1 : w31.cell? ⟨gb313, 1, none⟩ = some (.int .i64 0) := (blk_cell BK313.out 1).trans rfl; have hcz34_2 : w31.cell? ⟨gb313, 2, none⟩ = some (.int .i64 0) := (blk_cell BK313.out 2).trans rfl; have hcz34_3 : w31.cell? ⟨gb313, 3, none⟩ = some (.int .i64 0) := (blk_cell BK313.out 3).trans rfl; have hcz34_4 : w31.cell? ⟨gb313, 4, none⟩ = some (.int .i64 0) := (blk_cell BK313.out 4).trans rfl; have hcz34_5 : w31.cell? ⟨gb313, 5, none⟩ = some (.int .i64 0) := (blk_cell BK313.out 5).trans rfl; have hcz34_6 : w31.cell? ⟨gb313, 6, none⟩ = some (.int .i64 0) := (blk_cell BK313.out 6).trans rfl; have hfz34_0 := blk_frozen BK313.out 0; have hfz34_1 := blk_frozen BK313.out 1; have hfz34_2 := blk_frozen BK313.out 2; have hfz34_3 := blk_frozen BK313.out 3; have hfz34_4 := blk_frozen BK313.out 4; have hfz34_5 := blk_frozen BK313.out 5; have hfz34_6 := blk_frozen BK313.out 6))
     have n0_ : Aside0 ((((((((w31.setCell ⟨gb313, 0, none⟩ (.int .i64 t306)).setCell ⟨gb313, 1, none⟩ (.int .i64 t307)).setCell ⟨gb313, 2, none⟩ (.int .i64 t308)).setCell ⟨gb313, 3, none⟩ (.int .i64 t309)).setCell ⟨gb313, 4, none⟩ (.int .i64 t310)).setCell ⟨gb313, 5, none⟩ (.int .i64 t311)).setCell ⟨gb313, 6, none⟩ (.int .i64 t312)).heap[gb296]? = some (.cells #[.int .i64 0, .int .i64 0, .int .i64 0, .int .i64 0, .int .i64 0, .int .i64 0, .int .i64 0] 39 (0, 0))) := ⟨by (with_reducible repeat (first | refine blk_drewN ?_ _ | refine blk_drew ?_ | refine blk_alloc ?_ _)); refine blk_far ?_ NB296_313.out _; refine blk_far ?_ NB296_313.out _; refine blk_far ?_ NB296_313.out _; refine blk_far ?_ NB296_313.out _; refine blk_far ?_ NB296_313.out _; refine blk_far ?_ NB296_313.out _; refine blk_far ?_ NB296_313.out _; exact BK296.out⟩
     have n1_ : Aside0 ((((((((w31.setCell ⟨gb313, 0, none⟩ (.int .i64 t306)).setCell ⟨gb313, 1, none⟩ (.int .i64 t307)).setCell ⟨gb313, 2, none⟩ (.int .i64 t308)).setCell ⟨gb313, 3, none⟩ (.int .i64 t309)).setCell ⟨gb313, 4, none⟩ (.int .i64 t310)).setCell ⟨gb313, 5, none⟩ (.int .i64 t311)).setCell ⟨gb313, 6, none⟩ (.int .i64 t312)).heap[gb302]? = some (.cells #[.int .i64 t298, .int .i64 t299, .int .i64 t300, .int .i64 t301] 37 (0, 0))) := ⟨by (with_reducible repeat (first | refine blk_drewN ?_ _ | refine blk_drew ?_ | refine blk_alloc ?_ _)); refine blk_far ?_ NB302_313.out _; refine blk_far ?_ NB302_313.out _; refine blk_far ?_ NB302_313.out _; refine blk_far ?_ NB302_313.out _; refine blk_far ?_ NB302_313.out _; refine blk_far ?_ NB302_313.out _; refine blk_far ?_ NB302_313.out _; exact BK302.out⟩
     have n2_ : Aside0 ((((((((w31.setCell ⟨gb313, 0, none⟩ (.int .i64 t306)).setCell ⟨gb313, 1, none⟩ (.int .i64 t307)).setCell ⟨gb313, 2, none⟩ (.int .i64 t308)).setCell ⟨gb313, 3, none⟩ (.int .i64 t309)).setCell ⟨gb313, 4, none⟩ (.int .i64 t310)).setCell ⟨gb313, 5, none⟩ (.int .i64 t311)).setCell ⟨gb313, 6, none⟩ (.int .i64 t312)).heap[gb313]? = some (.cells #[.int .i64 t306, .int .i64 t307, .int .i64 t308, .int .i64 t309, .int .i64 t310, .int .i64 t311, .int .i64 t312] 39 (0, 0))) := ⟨by (with_reducible repeat (first | refine blk_drewN ?_ _ | refine blk_drew ?_ | refine blk_alloc ?_ _)); refine blk_put (cs := #[.int .i64 t306, .int .i64 t307, .int .i64 t308, .int .i64 t309, .int .i64 t310, .int .i64 t311, .int .i64 0]) ?_ 6 _ rfl; refine blk_put (cs := #[.int .i64 t306, .int .i64 t307, .int .i64 t308, .int .i64 t309, .int .i64 t310, .int .i64 0, .int .i64 0]) ?_ 5 _ rfl; refine blk_put (cs := #[.int .i64 t306, .int .i64 t307, .int .i64 t308, .int .i64 t309, .int .i64 0, .int .i64 0, .int .i64 0]) ?_ 4 _ rfl; refine blk_put (cs := #[.int .i64 t306, .int .i64 t307, .int .i64 t308, .int .i64 0, .int .i64 0, .int .i64 0, .int .i64 0]) ?_ 3 _ rfl; refine blk_put (cs := #[.int .i64 t306, .int .i64 t307, .int .i64 0, .int .i64 0, .int .i64 0, .int .i64 0, .int .i64 0]) ?_ 2 _ rfl; refine blk_put (cs := #[.int .i64 t306, .int .i64 0, .int .i64 0, .int .i64 0, .int .i64 0, .int .i64 0, .int .i64 0]) ?_ 1 _ rfl; refine blk_put (cs := #[.int .i64 0, .int .i64 0, .int .i64 0, .int .i64 0, .int .i64 0, .int .i64 0, .int .i64 0]) ?_ 0 _ rfl; exact BK313.out⟩
     have n3_ : Aside0 (Below w.heap.size w (((((((w31.setCell ⟨gb313, 0, none⟩ (.int .i64 t306)).setCell ⟨gb313, 1, none⟩ (.int .i64 t307)).setCell ⟨gb313, 2, none⟩ (.int .i64 t308)).setCell ⟨gb313, 3, none⟩ (.int .i64 t309)).setCell ⟨gb313, 4, none⟩ (.int .i64 t310)).setCell ⟨gb313, 5, none⟩ (.int .i64 t311)).setCell ⟨gb313, 6, none⟩ (.int .i64 t312))) := ⟨by repeat (first | (with_reducible first | exact HB.out | apply below_alloc | apply pw_below_drewN | apply below_drew1 | refine below_set ?_ GE296.out | refine below_set ?_ GE302.out | refine below_set ?_ GE313.out) | exact HB.out)⟩
     (try clear BK296)
     (try clear BK302)
     (try clear BK313)
     (try clear HB)
     generalize (((((((w31.setCell ⟨gb313, 0, none⟩ (.int .i64 t306)).setCell ⟨gb313, 1, none⟩ (.int .i64 t307)).setCell ⟨gb313, 2, none⟩ (.int .i64 t308)).setCell ⟨gb313, 3, none⟩ (.int .i64 t309)).setCell ⟨gb313, 4, none⟩ (.int .i64 t310)).setCell ⟨gb313, 5, none⟩ (.int .i64 t311)).setCell ⟨gb313, 6, none⟩ (.int .i64 t312)) = w35 at n0_ n1_ n2_ n3_ ⊢
     have BK296 := n0_
     have BK302 := n1_
     have BK313 := n2_
     have HB := n3_
     clear n0_ n1_ n2_ n3_
     have n0_ := Aside0.mk (blk_drew BK296.out)
     have n1_ := Aside0.mk (blk_drew BK302.out)
     have n2_ := Aside0.mk (blk_drew BK313.out)
     have n3_ := Aside0.mk (below_drew1 HB.out)
     clear BK296
     clear BK302
     clear BK313
     clear HB
     have BK296 := n0_
     have BK302 := n1_
     have BK313 := n2_
     have HB := n3_
     clear n0_ n1_ n2_ n3_
     have p314 : 0 ≤ (a2 : Int) := of_decide_eq_true (by first | (with_reducible assumption) | assumption)
     have q314 : a2 < (l0.length : Int) := of_decide_eq_true (by first | (with_reducible assumption) | assumption)
     obtain ⟨ad314, e314, hx314_0, hx314_1, hx314_2, hx314_3⟩ := at_T35 HR0.out a2 p314 q314
     have hw314_3 := hx314_3
     have hw314_2 := hx314_2
     have hw314_1 := hx314_1
     have hw314_0 := hx314_0
     obtain rfl : ad303 = ad314 := (by injection e314)
     replace hx314_0 := (HB.out.cell (World.block_lt_of_cell? w _ hx314_0)).trans hx314_0
     replace hx314_1 := (HB.out.cell (World.block_lt_of_cell? w _ hx314_1)).trans hx314_1
     replace hx314_2 := (HB.out.cell (World.block_lt_of_cell? w _ hx314_2)).trans hx314_2
     replace hx314_3 := (HB.out.cell (World.block_lt_of_cell? w _ hx314_3)).trans hx314_3
     replace p314 := eq_true p314
     replace q314 := eq_true q314
     refine start_ (n := 10) (S := fun w' => w'.cell? ⟨gb313, 0, none⟩ = some (.int .i64 t306) ∧ w'.cell? ⟨gb313, 1, none⟩ = some (.int .i64 t307) ∧ w'.cell? ⟨gb313, 2, none⟩ = some (.int .i64 t308) ∧ w'.cell? ⟨gb313, 3, none⟩ = some (.int .i64 t309) ∧ w'.cell? ⟨gb313, 4, none⟩ = some (.int .i64 t310) ∧ w'.cell? ⟨gb313, 5, none⟩ = some (.int .i64 t311) ∧ w'.cell? ⟨gb313, 6, none⟩ = some (.int .i64 t312) ∧ w'.cell? (ad303.add ((a2).toNat * 4)) = some (.int .i64 ((rd_T35 l0 a2).f0)) ∧ w'.cell? ⟨(ad303.add ((a2).toNat * 4)).block, (ad303.add ((a2).toNat * 4)).off + 1, none⟩ = some (.int .i64 ((rd_T35 l0 a2).f1.f0)) ∧ w'.cell? ⟨(ad303.add ((a2).toNat * 4)).block, (ad303.add ((a2).toNat * 4)).off + 2, none⟩ = some (.int .i64 ((rd_T35 l0 a2).f1.f1)) ∧ w'.cell? ⟨(ad303.add ((a2).toNat * 4)).block, (ad303.add ((a2).toNat * 4)).off + 3, none⟩ = some (.int .i64 ((rd_T35 l0 a2).f1.f2))) (ds := []) (ab 10 0) (by kernel_rfl) rfl rfl ⟨(blk_cell BK313.out 0).trans rfl, (blk_cell BK313.out 1).trans rfl, (blk_cell BK313.out 2).trans rfl, (blk_cell BK313.out 3).trans rfl, (blk_cell BK313.out 4).trans rfl, (blk_cell BK313.out 5).trans rfl, (blk_cell BK313.out 6).trans rfl, ((HB.out.cell (World.block_lt_of_cell? w _ hw314_0)).trans hw314_0), ((HB.out.cell (World.block_lt_of_cell? w _ hw314_1)).trans hw314_1), ((HB.out.cell (World.block_lt_of_cell? w _ hw314_2)).trans hw314_2), ((HB.out.cell (World.block_lt_of_cell? w _ hw314_3)).trans hw314_3)⟩ (fun hHeld => ?_); refine with_tabW tourref5_PlaceOf.tab5 tourref5_PlaceOf.bits5 (fun HT_ HW_ => ?_)
     generalize w35.drew = w36 at BK296 BK302 BK313 HB hx314_0 hx314_1 hx314_2 hx314_3 hHeld ⊢
     refine pure_ (i := 0) (N := some 37) (v := ?_) (a' := ?_) (ab 10 1) rfl rfl (any_of HT_.out (by kernel_rfl)) (fun _ _ _ h => h) (Or.inl ⟨by rfl, ?_⟩) ?_ ?_
     rotate_left
     ·intro w'
      go_simp
      with_reducible rfl
     rotate_left
     ·simp only [Act.put, zq1, zq2, zq3, i64_w, i32_w]
      rfl
     refine pure_ (i := 2) (N := some 39) (v := ?_) (a' := ?_) (ab 10 5) rfl rfl (any_of HT_.out (by kernel_rfl)) (fun _ _ _ h => h) (Or.inl ⟨by rfl, ?_⟩) ?_ ?_
     rotate_left
     ·intro w'
      go_simp
      with_reducible rfl
     rotate_left
     ·simp only [Act.put, zq1, zq2, zq3, i64_w, i32_w]
      rfl
     refine pure_ (i := 3) (N := some 40) (v := ?_) (a' := ?_) (ab 10 13) rfl rfl (any_of HT_.out (by kernel_rfl)) (fun _ _ _ h => h) (Or.inl ⟨by rfl, ?_⟩) ?_ ?_
     rotate_left
     ·intro w'
      go_simp
      with_reducible rfl
     rotate_left
     ·simp only [Act.put, zq1, zq2, zq3, i64_w, i32_w]
      rfl
     refine pure_ (i := 4) (N := some 41) (v := ?_) (a' := ?_) (ab 10 29) rfl rfl (any_of HT_.out (by kernel_rfl)) (fun _ _ _ h => h) (Or.inl ⟨by rfl, ?_⟩) ?_ ?_
     rotate_left
     ·intro w'
      go_simp
      with_reducible rfl
     rotate_left
     ·simp only [Act.put, zq1, zq2, zq3, i64_w, i32_w]
      rfl
     refine pure_ (i := 5) (N := some 42) (v := ?_) (a' := ?_) (ab 10 61) rfl rfl (any_of HT_.out (by kernel_rfl)) (fun _ _ _ h => h) (Or.inl ⟨by rfl, ?_⟩) ?_ ?_
     rotate_left
     ·intro w'
      go_simp
      with_reducible rfl
     rotate_left
     ·simp only [Act.put, zq1, zq2, zq3, i64_w, i32_w]
      rfl
     refine take_ (i := 1) (N := some 38) (v := ?_) (a' := ?_) (ab 10 63) rfl rfl (take_ofW HT_.out HW_.out (by kernel_rfl)) (fun _ _ _ h => h) (Or.inl ⟨by rfl, ?_⟩) hHeld ?_ ?_
     rotate_left
     ·rintro w' ⟨s0, s1, s2, s3, s4, s5, s6, s7, s8, s9, s10⟩
      go_simp
      with_reducible rfl
     rotate_left
     ·simp only [Act.put, zq1, zq2, zq3, i64_w, i32_w]
      rfl
     refine take_ (i := 6) (N := some 43) (v := ?_) (a' := ?_) (ab 10 127) rfl rfl (take_ofW HT_.out HW_.out (by kernel_rfl)) (fun _ _ _ h => h) (Or.inl ⟨by rfl, ?_⟩) hHeld ?_ ?_
     rotate_left
     ·rintro w' ⟨s0, s1, s2, s3, s4, s5, s6, s7, s8, s9, s10⟩
      go_simp
      with_reducible rfl
     rotate_left
     ·simp only [Act.put, zq1, zq2, zq3, i64_w, i32_w]
      rfl
     refine join_ (σ := Nat) 1 (ab 10 511) (fun s_ => [(44, .agg #[.int .i64 t315, .int .i64 t316, .int .i64 t317]), (9, .pointer (some ⟨s_, 0, none⟩))]) (fun s_ w' => (w'.cell? ⟨gb313, 0, none⟩ = some (.int .i64 t306) ∧ w'.cell? ⟨gb313, 1, none⟩ = some (.int .i64 t307) ∧ w'.cell? ⟨gb313, 2, none⟩ = some (.int .i64 t308) ∧ w'.cell? ⟨gb313, 3, none⟩ = some (.int .i64 t309) ∧ w'.cell? ⟨gb313, 4, none⟩ = some (.int .i64 t310) ∧ w'.cell? ⟨gb313, 5, none⟩ = some (.int .i64 t311) ∧ w'.cell? ⟨gb313, 6, none⟩ = some (.int .i64 t312) ∧ w'.cell? (ad303.add ((a2).toNat * 4)) = some (.int .i64 ((rd_T35 l0 a2).f0)) ∧ w'.cell? ⟨(ad303.add ((a2).toNat * 4)).block, (ad303.add ((a2).toNat * 4)).off + 1, none⟩ = some (.int .i64 ((rd_T35 l0 a2).f1.f0)) ∧ w'.cell? ⟨(ad303.add ((a2).toNat * 4)).block, (ad303.add ((a2).toNat * 4)).off + 2, none⟩ = some (.int .i64 ((rd_T35 l0 a2).f1.f1)) ∧ w'.cell? ⟨(ad303.add ((a2).toNat * 4)).block, (ad303.add ((a2).toNat * 4)).off + 3, none⟩ = some (.int .i64 ((rd_T35 l0 a2).f1.f2))) ∧ (w'.heap[gb296]? = some (.cells #[.int .i64 0, .int .i64 0, .int .i64 0, .int .i64 0, .int .i64 0, .int .i64 0, .int .i64 0] 39 (0, 0))) ∧ (w'.heap[gb302]? = some (.cells #[.int .i64 t298, .int .i64 t299, .int .i64 t300, .int .i64 t301] 37 (0, 0))) ∧ (w'.heap[gb313]? = some (.cells #[.int .i64 t306, .int .i64 t307, .int .i64 t308, .int .i64 t309, .int .i64 t310, .int .i64 t311, .int .i64 t312] 39 (0, 0))) ∧ (w'.heap[s_]? = some (.cells #[.int .i64 0, .int .i64 0, .int .i64 0] 33 (0, 0))) ∧ (w.heap.size ≤ s_) ∧ (w.heap.size ≤ s_) ∧ (gb296 ≠ s_) ∧ (s_ ≠ gb296) ∧ (gb302 ≠ s_) ∧ (s_ ≠ gb302) ∧ (gb313 ≠ s_) ∧ (s_ ≠ gb313) ∧ (Below w.heap.size w w')) ?_ ?_
     rotate_left
     ·intro hCont
      refine two_ (i := 7) (j := 8) (Ni := some 44) (Nj := some 9) (ab 10 255) (ab 10 383) rfl rfl rfl rfl (two_of HT_.out (by kernel_rfl)) (by decide) (by decide) (fun K hK => ?_) (fun K hK => ?_)
      ·skip
       refine goes_ Try.func28 (by kernel_rfl) rfl #[.agg #[.int .i64 t309, .int .i64 t310, .int .i64 t311, .int .i64 t312], .agg #[.int .i64 ((rd_T35 l0 a2).f1.f0), .int .i64 ((rd_T35 l0 a2).f1.f1), .int .i64 ((rd_T35 l0 a2).f1.f2)]] (by rfl) rfl rfl (by (try simp only [zm1, zm2, zm3]); first | done | rfl) ?_
       with_reducible refine (quat_Turn.calls k t309 t310 t311 t312 ((rd_T35 l0 a2).f1.f0) ((rd_T35 l0 a2).f1.f1) ((rd_T35 l0 a2).f1.f2) t315 t316 t317 _ A24.out).mono ?_
       rintro e w37 ⟨rfl, hb⟩
       refine ⟨_, rfl, ?_⟩
       have n0_ := Aside0.mk (bb hb BK296.out)
       have n1_ := Aside0.mk (bb hb BK302.out)
       have n2_ := Aside0.mk (bb hb BK313.out)
       have n3_ := Aside0.mk (below_step (by repeat (first | (with_reducible first | exact HB.out | apply below_alloc | apply pw_below_drewN | apply below_drew1 | refine below_set ?_ GE296.out | refine below_set ?_ GE302.out | refine below_set ?_ GE313.out) | exact HB.out)) hb)
       clear BK296
       clear BK302
       clear BK313
       clear HB
       have BK296 := n0_
       have BK302 := n1_
       have BK313 := n2_
       have HB := n3_
       clear n0_ n1_ n2_ n3_
       (try clear hb)
       (try clear hb2)
       (try clear hk)
       (try clear hi)
       refine hK.out _ _ ⟨(blk_cell BK313.out 0).trans rfl, (blk_cell BK313.out 1).trans rfl, (blk_cell BK313.out 2).trans rfl, (blk_cell BK313.out 3).trans rfl, (blk_cell BK313.out 4).trans rfl, (blk_cell BK313.out 5).trans rfl, (blk_cell BK313.out 6).trans rfl, ((HB.out.cell (World.block_lt_of_cell? w _ hw314_0)).trans hw314_0), ((HB.out.cell (World.block_lt_of_cell? w _ hw314_1)).trans hw314_1), ((HB.out.cell (World.block_lt_of_cell? w _ hw314_2)).trans hw314_2), ((HB.out.cell (World.block_lt_of_cell? w _ hw314_3)).trans hw314_3)⟩ (fun hHeld => ?_)
       clear hK K
       refine norm_ (a' := ?_) ?_ ?_
       rotate_left
       ·show Act.put _ (some 44) _ = _
        simp only [Act.put, zq1, zq2, zq3, i64_w, i32_w]
        rfl
       refine one_ (i := 8) (N := some 9) (ab 10 511) rfl rfl (one_of HT_.out (by kernel_rfl)) (by decide) (fun K hK => ?_)
       refine box_step ?hg (N := 9) ?hd (cs := #[.int .i64 0, .int .i64 0, .int .i64 0]) (t := 33) ?hr ?_; (case hd => rfl); (case hg => rfl); (case hr => first | (go_simp; done) | (go_simp; rfl))
       intro gb318 hg w38 hbox hb
       have n0_ := Aside0.mk (bb hb BK296.out)
       have n1_ := Aside0.mk (bb hb BK302.out)
       have n2_ := Aside0.mk (bb hb BK313.out)
       have n3_ := Aside0.mk (below_step (by repeat (first | (with_reducible first | exact HB.out | apply below_alloc | apply pw_below_drewN | apply below_drew1 | refine below_set ?_ GE296.out | refine below_set ?_ GE302.out | refine below_set ?_ GE313.out) | exact HB.out)) hb)
       have n4_ := Aside0.mk (hbox)
       have n5_ := Aside0.mk ((by rw [hg]; exact (below_size (by repeat (first | (with_reducible first | exact HB.out | apply below_alloc | apply pw_below_drewN | apply below_drew1 | refine below_set ?_ GE296.out | refine below_set ?_ GE302.out | refine below_set ?_ GE313.out) | exact HB.out))) : w.heap.size ≤ gb318))
       have n6_ := Aside0.mk ((by rw [hg]; exact (below_size (by repeat (first | (with_reducible first | exact HB.out | apply below_alloc | apply pw_below_drewN | apply below_drew1 | refine below_set ?_ GE296.out | refine below_set ?_ GE302.out | refine below_set ?_ GE313.out) | exact HB.out))) : w.heap.size ≤ gb318))
       have n7_ := Aside0.mk (nl hg BK296.out)
       have n8_ := Aside0.mk (ng hg BK296.out)
       have n9_ := Aside0.mk (nl hg BK302.out)
       have n10_ := Aside0.mk (ng hg BK302.out)
       have n11_ := Aside0.mk (nl hg BK313.out)
       have n12_ := Aside0.mk (ng hg BK313.out)
       clear BK296
       clear BK302
       clear BK313
       clear HB
       have BK296 := n0_
       have BK302 := n1_
       have BK313 := n2_
       have HB := n3_
       have BK318 := n4_
       have GW318 := n5_
       have GE318 := n6_
       have NB296_318 := n7_
       have NB318_296 := n8_
       have NB302_318 := n9_
       have NB318_302 := n10_
       have NB313_318 := n11_
       have NB318_313 := n12_
       clear n0_ n1_ n2_ n3_ n4_ n5_ n6_ n7_ n8_ n9_ n10_ n11_ n12_
       clear hb hbox hg
       refine hK.out _ _ ⟨(blk_cell BK313.out 0).trans rfl, (blk_cell BK313.out 1).trans rfl, (blk_cell BK313.out 2).trans rfl, (blk_cell BK313.out 3).trans rfl, (blk_cell BK313.out 4).trans rfl, (blk_cell BK313.out 5).trans rfl, (blk_cell BK313.out 6).trans rfl, ((HB.out.cell (World.block_lt_of_cell? w _ hw314_0)).trans hw314_0), ((HB.out.cell (World.block_lt_of_cell? w _ hw314_1)).trans hw314_1), ((HB.out.cell (World.block_lt_of_cell? w _ hw314_2)).trans hw314_2), ((HB.out.cell (World.block_lt_of_cell? w _ hw314_3)).trans hw314_3)⟩ (fun hHeld => ?_)
       clear hK K
       refine norm_ (a' := ?_) ?_ ?_
       rotate_left
       ·show Act.put _ (some 9) _ = _
        simp only [Act.put, zq1, zq2, zq3, i64_w, i32_w]
        rfl
       exact norm_ (by simp only [putAll, Act.put, zq1, zq2, zq3]) (hCont (gb318) _ ⟨hHeld, (by (with_reducible repeat (first | refine blk_drewN ?_ _ | refine blk_drew ?_ | refine blk_alloc ?_ _)); exact BK296.out), (by (with_reducible repeat (first | refine blk_drewN ?_ _ | refine blk_drew ?_ | refine blk_alloc ?_ _)); exact BK302.out), (by (with_reducible repeat (first | refine blk_drewN ?_ _ | refine blk_drew ?_ | refine blk_alloc ?_ _)); exact BK313.out), (by (with_reducible repeat (first | refine blk_drewN ?_ _ | refine blk_drew ?_ | refine blk_alloc ?_ _)); exact BK318.out), GW318.out, GE318.out, NB296_318.out, NB318_296.out, NB302_318.out, NB318_302.out, NB313_318.out, NB318_313.out, (by repeat (first | (with_reducible first | exact HB.out | apply below_alloc | apply pw_below_drewN | apply below_drew1 | refine below_set ?_ GE296.out | refine below_set ?_ GE302.out | refine below_set ?_ GE313.out | refine below_set ?_ GE318.out) | exact HB.out))⟩)
      ·skip
       refine box_step ?hg (N := 9) ?hd (cs := #[.int .i64 0, .int .i64 0, .int .i64 0]) (t := 33) ?hr ?_; (case hd => rfl); (case hg => rfl); (case hr => first | (go_simp; done) | (go_simp; rfl))
       intro gb318 hg w37 hbox hb
       have n0_ := Aside0.mk (bb hb BK296.out)
       have n1_ := Aside0.mk (bb hb BK302.out)
       have n2_ := Aside0.mk (bb hb BK313.out)
       have n3_ := Aside0.mk (below_step (by repeat (first | (with_reducible first | exact HB.out | apply below_alloc | apply pw_below_drewN | apply below_drew1 | refine below_set ?_ GE296.out | refine below_set ?_ GE302.out | refine below_set ?_ GE313.out) | exact HB.out)) hb)
       have n4_ := Aside0.mk (hbox)
       have n5_ := Aside0.mk ((by rw [hg]; exact (below_size (by repeat (first | (with_reducible first | exact HB.out | apply below_alloc | apply pw_below_drewN | apply below_drew1 | refine below_set ?_ GE296.out | refine below_set ?_ GE302.out | refine below_set ?_ GE313.out) | exact HB.out))) : w.heap.size ≤ gb318))
       have n6_ := Aside0.mk ((by rw [hg]; exact (below_size (by repeat (first | (with_reducible first | exact HB.out | apply below_alloc | apply pw_below_drewN | apply below_drew1 | refine below_set ?_ GE296.out | refine below_set ?_ GE302.out | refine below_set ?_ GE313.out) | exact HB.out))) : w.heap.size ≤ gb318))
       have n7_ := Aside0.mk (nl hg BK296.out)
       have n8_ := Aside0.mk (ng hg BK296.out)
       have n9_ := Aside0.mk (nl hg BK302.out)
       have n10_ := Aside0.mk (ng hg BK302.out)
       have n11_ := Aside0.mk (nl hg BK313.out)
       have n12_ := Aside0.mk (ng hg BK313.out)
       clear BK296
       clear BK302
       clear BK313
       clear HB
       have BK296 := n0_
       have BK302 := n1_
       have BK313 := n2_
       have HB := n3_
       have BK318 := n4_
       have GW318 := n5_
       have GE318 := n6_
       have NB296_318 := n7_
       have NB318_296 := n8_
       have NB302_318 := n9_
       have NB318_302 := n10_
       have NB313_318 := n11_
       have NB318_313 := n12_
       clear n0_ n1_ n2_ n3_ n4_ n5_ n6_ n7_ n8_ n9_ n10_ n11_ n12_
       clear hb hbox hg
       refine hK.out _ _ ⟨(blk_cell BK313.out 0).trans rfl, (blk_cell BK313.out 1).trans rfl, (blk_cell BK313.out 2).trans rfl, (blk_cell BK313.out 3).trans rfl, (blk_cell BK313.out 4).trans rfl, (blk_cell BK313.out 5).trans rfl, (blk_cell BK313.out 6).trans rfl, ((HB.out.cell (World.block_lt_of_cell? w _ hw314_0)).trans hw314_0), ((HB.out.cell (World.block_lt_of_cell? w _ hw314_1)).trans hw314_1), ((HB.out.cell (World.block_lt_of_cell? w _ hw314_2)).trans hw314_2), ((HB.out.cell (World.block_lt_of_cell? w _ hw314_3)).trans hw314_3)⟩ (fun hHeld => ?_)
       clear hK K
       refine norm_ (a' := ?_) ?_ ?_
       rotate_left
       ·show Act.put _ (some 9) _ = _
        simp only [Act.put, zq1, zq2, zq3, i64_w, i32_w]
        rfl
       refine one_ (i := 7) (N := some 44) (ab 10 511) rfl rfl (one_of HT_.out (by kernel_rfl)) (by decide) (fun K hK => ?_)
       refine goes_ Try.func28 (by kernel_rfl) rfl #[.agg #[.int .i64 t309, .int .i64 t310, .int .i64 t311, .int .i64 t312], .agg #[.int .i64 ((rd_T35 l0 a2).f1.f0), .int .i64 ((rd_T35 l0 a2).f1.f1), .int .i64 ((rd_T35 l0 a2).f1.f2)]] (by rfl) rfl rfl (by (try simp only [zm1, zm2, zm3]); first | done | rfl) ?_
       with_reducible refine (quat_Turn.calls k t309 t310 t311 t312 ((rd_T35 l0 a2).f1.f0) ((rd_T35 l0 a2).f1.f1) ((rd_T35 l0 a2).f1.f2) t315 t316 t317 _ A24.out).mono ?_
       rintro e w38 ⟨rfl, hb⟩
       refine ⟨_, rfl, ?_⟩
       have n0_ := Aside0.mk (bb hb BK296.out)
       have n1_ := Aside0.mk (bb hb BK302.out)
       have n2_ := Aside0.mk (bb hb BK313.out)
       have n3_ := Aside0.mk (bb hb BK318.out)
       have n4_ := Aside0.mk (below_step (by repeat (first | (with_reducible first | exact HB.out | apply below_alloc | apply pw_below_drewN | apply below_drew1 | refine below_set ?_ GE296.out | refine below_set ?_ GE302.out | refine below_set ?_ GE313.out | refine below_set ?_ GE318.out) | exact HB.out)) hb)
       clear BK296
       clear BK302
       clear BK313
       clear BK318
       clear HB
       have BK296 := n0_
       have BK302 := n1_
       have BK313 := n2_
       have BK318 := n3_
       have HB := n4_
       clear n0_ n1_ n2_ n3_ n4_
       (try clear hb)
       (try clear hb2)
       (try clear hk)
       (try clear hi)
       refine hK.out _ _ ⟨(blk_cell BK313.out 0).trans rfl, (blk_cell BK313.out 1).trans rfl, (blk_cell BK313.out 2).trans rfl, (blk_cell BK313.out 3).trans rfl, (blk_cell BK313.out 4).trans rfl, (blk_cell BK313.out 5).trans rfl, (blk_cell BK313.out 6).trans rfl, ((HB.out.cell (World.block_lt_of_cell? w _ hw314_0)).trans hw314_0), ((HB.out.cell (World.block_lt_of_cell? w _ hw314_1)).trans hw314_1), ((HB.out.cell (World.block_lt_of_cell? w _ hw314_2)).trans hw314_2), ((HB.out.cell (World.block_lt_of_cell? w _ hw314_3)).trans hw314_3)⟩ (fun hHeld => ?_)
       clear hK K
       refine norm_ (a' := ?_) ?_ ?_
       rotate_left
       ·show Act.put _ (some 44) _ = _
        simp only [Act.put, zq1, zq2, zq3, i64_w, i32_w]
        rfl
       exact norm_ (by simp only [putAll, Act.put, zq1, zq2, zq3]) (hCont (gb318) _ ⟨hHeld, (by (with_reducible repeat (first | refine blk_drewN ?_ _ | refine blk_drew ?_ | refine blk_alloc ?_ _)); exact BK296.out), (by (with_reducible repeat (first | refine blk_drewN ?_ _ | refine blk_drew ?_ | refine blk_alloc ?_ _)); exact BK302.out), (by (with_reducible repeat (first | refine blk_drewN ?_ _ | refine blk_drew ?_ | refine blk_alloc ?_ _)); exact BK313.out), (by (with_reducible repeat (first | refine blk_drewN ?_ _ | refine blk_drew ?_ | refine blk_alloc ?_ _)); exact BK318.out), GW318.out, GE318.out, NB296_318.out, NB318_296.out, NB302_318.out, NB318_302.out, NB313_318.out, NB318_313.out, (by repeat (first | (with_reducible first | exact HB.out | apply below_alloc | apply pw_below_drewN | apply below_drew1 | refine below_set ?_ GE296.out | refine below_set ?_ GE302.out | refine below_set ?_ GE313.out | refine below_set ?_ GE318.out) | exact HB.out))⟩)
     rintro gb318 w39 ⟨hS_, h0_, h1_, h2_, h3_, h4_, h5_, h6_, h7_, h8_, h9_, h10_, h11_, h12_⟩
     have n0_ : Aside0 (w39.heap[gb296]? = some (.cells #[.int .i64 0, .int .i64 0, .int .i64 0, .int .i64 0, .int .i64 0, .int .i64 0, .int .i64 0] 39 (0, 0))) := ⟨h0_⟩
     have n1_ : Aside0 (w39.heap[gb302]? = some (.cells #[.int .i64 t298, .int .i64 t299, .int .i64 t300, .int .i64 t301] 37 (0, 0))) := ⟨h1_⟩
     have n2_ : Aside0 (w39.heap[gb313]? = some (.cells #[.int .i64 t306, .int .i64 t307, .int .i64 t308, .int .i64 t309, .int .i64 t310, .int .i64 t311, .int .i64 t312] 39 (0, 0))) := ⟨h2_⟩
     have n3_ : Aside0 (w39.heap[gb318]? = some (.cells #[.int .i64 0, .int .i64 0, .int .i64 0] 33 (0, 0))) := ⟨h3_⟩
     have n4_ : Aside0 (w.heap.size ≤ gb318) := ⟨h4_⟩
     have n5_ : Aside0 (w.heap.size ≤ gb318) := ⟨h5_⟩
     have n6_ : Aside0 (gb296 ≠ gb318) := ⟨h6_⟩
     have n7_ : Aside0 (gb318 ≠ gb296) := ⟨h7_⟩
     have n8_ : Aside0 (gb302 ≠ gb318) := ⟨h8_⟩
     have n9_ : Aside0 (gb318 ≠ gb302) := ⟨h9_⟩
     have n10_ : Aside0 (gb313 ≠ gb318) := ⟨h10_⟩
     have n11_ : Aside0 (gb318 ≠ gb313) := ⟨h11_⟩
     have n12_ : Aside0 (Below w.heap.size w w39) := ⟨h12_⟩
     clear BK296
     clear BK302
     clear BK313
     clear HB
     clear h0_ h1_ h2_ h3_ h4_ h5_ h6_ h7_ h8_ h9_ h10_ h11_ h12_
     have BK296 := n0_
     have BK302 := n1_
     have BK313 := n2_
     have BK318 := n3_
     have GW318 := n4_
     have GE318 := n5_
     have NB296_318 := n6_
     have NB318_296 := n7_
     have NB302_318 := n8_
     have NB318_302 := n9_
     have NB313_318 := n10_
     have NB318_313 := n11_
     have HB := n12_
     clear n0_ n1_ n2_ n3_ n4_ n5_ n6_ n7_ n8_ n9_ n10_ n11_ n12_
     have hHeld : w39.cell? ⟨gb313, 0, none⟩ = some (.int .i64 t306) ∧ w39.cell? ⟨gb313, 1, none⟩ = some (.int .i64 t307) ∧ w39.cell? ⟨gb313, 2, none⟩ = some (.int .i64 t308) ∧ w39.cell? ⟨gb313, 3, none⟩ = some (.int .i64 t309) ∧ w39.cell? ⟨gb313, 4, none⟩ = some (.int .i64 t310) ∧ w39.cell? ⟨gb313, 5, none⟩ = some (.int .i64 t311) ∧ w39.cell? ⟨gb313, 6, none⟩ = some (.int .i64 t312) ∧ w39.cell? (ad303.add ((a2).toNat * 4)) = some (.int .i64 ((rd_T35 l0 a2).f0)) ∧ w39.cell? ⟨(ad303.add ((a2).toNat * 4)).block, (ad303.add ((a2).toNat * 4)).off + 1, none⟩ = some (.int .i64 ((rd_T35 l0 a2).f1.f0)) ∧ w39.cell? ⟨(ad303.add ((a2).toNat * 4)).block, (ad303.add ((a2).toNat * 4)).off + 2, none⟩ = some (.int .i64 ((rd_T35 l0 a2).f1.f1)) ∧ w39.cell? ⟨(ad303.add ((a2).toNat * 4)).block, (ad303.add ((a2).toNat * 4)).off + 3, none⟩ = some (.int .i64 ((rd_T35 l0 a2).f1.f2)) := hS_
     refine norm_ (a' := ?_) ?_ ?_
     rotate_left
     ·simp only [putAll, Act.put, zq1, zq2, zq3]
      rfl
     refine one_ (i := 9) (N := none) (ab 10 1023) rfl rfl (one_of HT_.out (by kernel_rfl)) (by decide) (fun K hK => ?_)
     have hs40 : w39.cell? ⟨gb318, 0, none⟩ = some (.int .i64 0) := (blk_cell BK318.out 0).trans rfl
     have hfs40 := blk_frozen BK318.out 0
     have hns40_0 := NB296_318.out
     have hns40_1 := NB302_318.out
     have hns40_2 := NB313_318.out
     have hms40_0 := NB318_296.out
     have hms40_1 := NB318_302.out
     have hms40_2 := NB318_313.out
     have hs41 : w39.cell? ⟨gb318, 1, none⟩ = some (.int .i64 0) := (blk_cell BK318.out 1).trans rfl
     have hfs41 := blk_frozen BK318.out 1
     have hns41_0 := NB296_318.out
     have hns41_1 := NB302_318.out
     have hns41_2 := NB313_318.out
     have hms41_0 := NB318_296.out
     have hms41_1 := NB318_302.out
     have hms41_2 := NB318_313.out
     have hs42 : w39.cell? ⟨gb318, 2, none⟩ = some (.int .i64 0) := (blk_cell BK318.out 2).trans rfl
     have hfs42 := blk_frozen BK318.out 2
     have hns42_0 := NB296_318.out
     have hns42_1 := NB302_318.out
     have hns42_2 := NB313_318.out
     have hms42_0 := NB318_296.out
     have hms42_1 := NB318_302.out
     have hms42_2 := NB318_313.out
     refine skip_ (w1 := ?_) (by rfl) rfl ?_ ?_
     rotate_left
     ·go_simp
      rfl
     refine hK.out _ _ ⟨(cf NB313_318.out ((cf NB313_318.out ((cf NB313_318.out (hHeld.1)))))), (cf NB313_318.out ((cf NB313_318.out ((cf NB313_318.out (hHeld.2.1)))))), (cf NB313_318.out ((cf NB313_318.out ((cf NB313_318.out (hHeld.2.2.1)))))), (cf NB313_318.out ((cf NB313_318.out ((cf NB313_318.out (hHeld.2.2.2.1)))))), (cf NB313_318.out ((cf NB313_318.out ((cf NB313_318.out (hHeld.2.2.2.2.1)))))), (cf NB313_318.out ((cf NB313_318.out ((cf NB313_318.out (hHeld.2.2.2.2.2.1)))))), (cf NB313_318.out ((cf NB313_318.out ((cf NB313_318.out (hHeld.2.2.2.2.2.2.1)))))), (cf (by exact (lb hw314_0 GW318.out :)) ((cf (by exact (lb hw314_0 GW318.out :)) ((cf (by exact (lb hw314_0 GW318.out :)) (hHeld.2.2.2.2.2.2.2.1)))))), (cf (by exact (lb hw314_1 GW318.out :)) ((cf (by exact (lb hw314_1 GW318.out :)) ((cf (by exact (lb hw314_1 GW318.out :)) (hHeld.2.2.2.2.2.2.2.2.1)))))), (cf (by exact (lb hw314_2 GW318.out :)) ((cf (by exact (lb hw314_2 GW318.out :)) ((cf (by exact (lb hw314_2 GW318.out :)) (hHeld.2.2.2.2.2.2.2.2.2.1)))))), (cf (by exact (lb hw314_3 GW318.out :)) ((cf (by exact (lb hw314_3 GW318.out :)) ((cf (by exact (lb hw314_3 GW318.out :)) (hHeld.2.2.2.2.2.2.2.2.2.2))))))⟩ (fun hHeld => ?_)
     clear hK K
     refine done_ (done_of HT_.out (by kernel_rfl)) ?_
     try go_wp2
     go_loopg [45] k (fun kq v45 w' => ∃ (x45_1 : Int) (x319000_1 : Int) (x319001_1 : Int) (x319002_1 : Int), v45 = .int .i64 x45_1 ∧ Aside0 (tourref5_PlaceOf.l0 kq x45_1 t298 t299 t300 t301 t306 t307 t308 t309 t310 t311 t312 x319000_1 x319001_1 x319002_1 = some (r1, r2, r3, r4, r5, r6, r7)) ∧ Aside0 (kq ≤ k) ∧ Aside0 (w'.heap[gb296]? = some (.cells #[.int .i64 0, .int .i64 0, .int .i64 0, .int .i64 0, .int .i64 0, .int .i64 0, .int .i64 0] 39 (0, 0))) ∧ Aside0 (w'.heap[gb302]? = some (.cells #[.int .i64 t298, .int .i64 t299, .int .i64 t300, .int .i64 t301] 37 (0, 0))) ∧ Aside0 (w'.heap[gb313]? = some (.cells #[.int .i64 t306, .int .i64 t307, .int .i64 t308, .int .i64 t309, .int .i64 t310, .int .i64 t311, .int .i64 t312] 39 (0, 0))) ∧ Aside0 (w'.heap[gb318]? = some (.cells #[.int .i64 x319000_1, .int .i64 x319001_1, .int .i64 x319002_1] 33 (0, 0))) ∧ Aside0 (Below w.heap.size w w'))
     case atStart => exact ⟨(0), (t315), (t316), (t317), (by first | rfl | (simp; done) | (simp [*]; done) | (simp; decide +kernel)), H', ⟨Nat.le_refl _⟩, ⟨by (with_reducible repeat (first | refine blk_drewN ?_ _ | refine blk_drew ?_ | refine blk_alloc ?_ _)); refine blk_far ?_ NB296_318.out _; refine blk_far ?_ NB296_318.out _; refine blk_far ?_ NB296_318.out _; exact BK296.out⟩, ⟨by (with_reducible repeat (first | refine blk_drewN ?_ _ | refine blk_drew ?_ | refine blk_alloc ?_ _)); refine blk_far ?_ NB302_318.out _; refine blk_far ?_ NB302_318.out _; refine blk_far ?_ NB302_318.out _; exact BK302.out⟩, ⟨by (with_reducible repeat (first | refine blk_drewN ?_ _ | refine blk_drew ?_ | refine blk_alloc ?_ _)); refine blk_far ?_ NB313_318.out _; refine blk_far ?_ NB313_318.out _; refine blk_far ?_ NB313_318.out _; exact BK313.out⟩, ⟨by (with_reducible repeat (first | refine blk_drewN ?_ _ | refine blk_drew ?_ | refine blk_alloc ?_ _)); refine blk_put (cs := #[.int .i64 t315, .int .i64 t316, .int .i64 0]) ?_ 2 _ rfl; refine blk_put (cs := #[.int .i64 t315, .int .i64 0, .int .i64 0]) ?_ 1 _ rfl; refine blk_put (cs := #[.int .i64 0, .int .i64 0, .int .i64 0]) ?_ 0 _ rfl; exact BK318.out⟩, ⟨by repeat (first | (with_reducible first | exact HB.out | apply below_alloc | apply pw_below_drewN | apply below_drew1 | refine below_set ?_ GE296.out | refine below_set ?_ GE302.out | refine below_set ?_ GE313.out | refine below_set ?_ GE318.out) | exact HB.out)⟩⟩
     case round =>
      clear H'
      try clear c1; try clear c2; try clear p2; try clear q2; try clear hx2; try clear c3; try clear p3; try clear q3
      try clear hx3; try clear c4; try clear c4b0; try clear c5; try clear c5b0; try clear c7; try clear c7b0; try clear c8
      try clear c8b0; try clear c12; try clear c17; try clear c22; try clear c28; try clear p29; try clear q29; try clear hx29
      try clear p30; try clear q30; try clear hx30; try clear p31; try clear q31; try clear hx31; try clear c32; try clear c33
      try clear hcz13_0; try clear hcz13_1; try clear hcz13_2; try clear hcz13_3; try clear hcz29_0; try clear hcz29_1; try clear hcz29_2; try clear hcz29_3
      try clear hcz34_0; try clear hcz34_1; try clear hcz34_2; try clear hcz34_3; try clear hcz34_4; try clear hcz34_5; try clear hcz34_6; try clear hfz13_0
      try clear hfz13_1; try clear hfz13_2; try clear hfz13_3; try clear hfz29_0; try clear hfz29_1; try clear hfz29_2; try clear hfz29_3; try clear hfz34_0
      try clear hfz34_1; try clear hfz34_2; try clear hfz34_3; try clear hfz34_4; try clear hfz34_5; try clear hfz34_6; try clear hx297_0; try clear hx297_1
      try clear hx297_2; try clear hx297_3; try clear hx303_0; try clear hx303_1; try clear hx303_2; try clear hx303_3; try clear hx304_0; try clear hx304_1
      try clear hx304_2; try clear hx304_3; try clear hx305_0; try clear hx305_1; try clear hx305_2; try clear hx305_3; try clear hx314_0; try clear hx314_1
      try clear hx314_2; try clear hx314_3; try clear p297; try clear p303; try clear p304; try clear p305; try clear p314; try clear q297
      try clear q303; try clear q304; try clear q305; try clear q314
      obtain ⟨x45_1, x319000_1, x319001_1, x319002_1, rfl, HA, HK1, BK296, BK302, BK313, BK318, HB⟩ := hrel
      cases gk with
      | zero => exact absurd HA.out (by simp [tourref5_PlaceOf.l0])
      | succ k1 =>
       have H := HA.out
       clear HA
       simp only [tourref5_PlaceOf.l0] at H
       by_cases c43 : x45_1 < 3
       ·rw [if_pos c43] at H
        have c43b0 : decide (x45_1 < 3) = true := decide_eq_true c43
        clear c43
        by_cases c44 : x45_1 = 0
        ·subst c44
         have H1 : ((fix_Add.f x319000_1 t306).bind fun t319 => (tourref5_PlaceOf.l0 k1 (wrap64 (0 + 1)) t298 t299 t300 t301 t306 t307 t308 t309 t310 t311 t312 t319 x319001_1 x319002_1)) = some (r1, r2, r3, r4, r5, r6, r7) := by rw [if_pos rfl] at H; exact H
         clear H
         have H := H1
         clear H1
         replace H := Option.bind_eq_some_iff.mp H
         obtain ⟨t319, A450, H⟩ := H
         replace H : (tourref5_PlaceOf.l0 k1 (wrap64 (0 + 1)) t298 t299 t300 t301 t306 t307 t308 t309 t310 t311 t312 t319 x319001_1 x319002_1) = some (r1, r2, r3, r4, r5, r6, r7) := H
         have A45 := Aside0.mk A450
         clear A450
         have H' := Aside0.mk H
         clear H
         try go_wp2
         have n0_ := Aside0.mk (blk_drew BK296.out)
         have n1_ := Aside0.mk (blk_drew BK302.out)
         have n2_ := Aside0.mk (blk_drew BK313.out)
         have n3_ := Aside0.mk (blk_drew BK318.out)
         have n4_ := Aside0.mk (below_drew1 HB.out)
         clear BK296
         clear BK302
         clear BK313
         clear BK318
         clear HB
         have BK296 := n0_
         have BK302 := n1_
         have BK313 := n2_
         have BK318 := n3_
         have HB := n4_
         clear n0_ n1_ n2_ n3_ n4_
         refine start_ (n := 11) (S := fun w' => w'.cell? ⟨gb318, 0, none⟩ = some (.int .i64 x319000_1) ∧ w'.cell? ⟨gb318, 1, none⟩ = some (.int .i64 x319001_1) ∧ w'.cell? ⟨gb318, 2, none⟩ = some (.int .i64 x319002_1) ∧ w'.cell? ⟨gb313, 0, none⟩ = some (.int .i64 t306) ∧ w'.cell? ⟨gb313, 1, none⟩ = some (.int .i64 t307) ∧ w'.cell? ⟨gb313, 2, none⟩ = some (.int .i64 t308) ∧ w'.cell? ⟨gb313, 3, none⟩ = some (.int .i64 t309) ∧ w'.cell? ⟨gb313, 4, none⟩ = some (.int .i64 t310) ∧ w'.cell? ⟨gb313, 5, none⟩ = some (.int .i64 t311) ∧ w'.cell? ⟨gb313, 6, none⟩ = some (.int .i64 t312)) (ds := [10]) (ab 11 0) (by kernel_rfl) rfl rfl ⟨(blk_cell BK318.out 0).trans rfl, (blk_cell BK318.out 1).trans rfl, (blk_cell BK318.out 2).trans rfl, (blk_cell BK313.out 0).trans rfl, (blk_cell BK313.out 1).trans rfl, (blk_cell BK313.out 2).trans rfl, (blk_cell BK313.out 3).trans rfl, (blk_cell BK313.out 4).trans rfl, (blk_cell BK313.out 5).trans rfl, (blk_cell BK313.out 6).trans rfl⟩ (fun hHeld => ?_); refine with_tabW tourref5_PlaceOf.tab9 tourref5_PlaceOf.bits9 (fun HT_ HW_ => ?_)
         generalize wr.drew = w46 at BK296 BK302 BK313 BK318 HB hHeld ⊢
         refine pure_ (i := 0) (N := some 48) (v := ?_) (a' := ?_) (ab 11 1) rfl rfl (any_of HT_.out (by kernel_rfl)) (fun _ _ _ h => h) (Or.inl ⟨by rfl, ?_⟩) ?_ ?_
         rotate_left
         ·intro w'
          go_simp
          with_reducible rfl
         rotate_left
         ·simp only [Act.put, zq1, zq2, zq3, i64_w, i32_w]
          rfl
         refine pure_ (i := 1) (N := some 49) (v := ?_) (a' := ?_) (ab 11 3) rfl rfl (any_of HT_.out (by kernel_rfl)) (fun _ _ _ h => h) (Or.inl ⟨by rfl, ?_⟩) ?_ ?_
         rotate_left
         ·intro w'
          go_simp
          with_reducible rfl
         rotate_left
         ·simp only [Act.put, zq1, zq2, zq3, i64_w, i32_w]
          rfl
         refine pure_ (i := 2) (N := some 50) (v := ?_) (a' := ?_) (ab 11 7) rfl rfl (any_of HT_.out (by kernel_rfl)) (fun _ _ _ h => h) (Or.inl ⟨by rfl, ?_⟩) ?_ ?_
         rotate_left
         ·intro w'
          go_simp
          with_reducible rfl
         rotate_left
         ·simp only [Act.put, zq1, zq2, zq3, i64_w, i32_w]
          rfl
         refine pure_ (i := 4) (N := some 52) (v := ?_) (a' := ?_) (ab 11 23) rfl rfl (any_of HT_.out (by kernel_rfl)) (fun _ _ _ h => h) (Or.inl ⟨by rfl, ?_⟩) ?_ ?_
         rotate_left
         ·intro w'
          go_simp
          with_reducible rfl
         rotate_left
         ·simp only [Act.put, zq1, zq2, zq3, i64_w, i32_w]
          rfl
         refine pure_ (i := 5) (N := some 53) (v := ?_) (a' := ?_) (ab 11 55) rfl rfl (any_of HT_.out (by kernel_rfl)) (fun _ _ _ h => h) (Or.inl ⟨by rfl, ?_⟩) ?_ ?_
         rotate_left
         ·intro w'
          go_simp
          with_reducible rfl
         rotate_left
         ·simp only [Act.put, zq1, zq2, zq3, i64_w, i32_w]
          rfl
         refine pure_ (i := 6) (N := some 54) (v := ?_) (a' := ?_) (ab 11 119) rfl rfl (any_of HT_.out (by kernel_rfl)) (fun _ _ _ h => h) (Or.inl ⟨by rfl, ?_⟩) ?_ ?_
         rotate_left
         ·intro w'
          go_simp
          with_reducible rfl
         rotate_left
         ·simp only [Act.put, zq1, zq2, zq3, i64_w, i32_w]
          rfl
         refine take_ (i := 3) (N := some 51) (v := ?_) (a' := ?_) (ab 11 127) rfl rfl (take_ofW HT_.out HW_.out (by kernel_rfl)) (fun _ _ _ h => h) (Or.inl ⟨by rfl, ?_⟩) hHeld ?_ ?_
         rotate_left
         ·rintro w' ⟨s0, s1, s2, s3, s4, s5, s6, s7, s8, s9⟩
          go_simp
          with_reducible rfl
         rotate_left
         ·simp only [Act.put, zq1, zq2, zq3, i64_w, i32_w]
          rfl
         refine take_ (i := 7) (N := some 55) (v := ?_) (a' := ?_) (ab 11 255) rfl rfl (take_ofW HT_.out HW_.out (by kernel_rfl)) (fun _ _ _ h => h) (Or.inl ⟨by rfl, ?_⟩) hHeld ?_ ?_
         rotate_left
         ·rintro w' ⟨s0, s1, s2, s3, s4, s5, s6, s7, s8, s9⟩
          go_simp
          with_reducible rfl
         rotate_left
         ·simp only [Act.put, zq1, zq2, zq3, i64_w, i32_w]
          rfl
         refine one_ (i := 8) (N := some 56) (ab 11 511) rfl rfl (one_of HT_.out (by kernel_rfl)) (by decide) (fun K hK => ?_)
         refine goes_ Try.func23 (by kernel_rfl) rfl #[.int .i64 x319000_1, .int .i64 t306] (by rfl) rfl rfl (by (try simp only [zm1, zm2, zm3]); first | done | rfl) ?_
         with_reducible refine (fix_Add.calls x319000_1 t306 t319 _ A45.out).mono ?_
         rintro e w47 ⟨rfl, hb⟩
         refine ⟨_, rfl, ?_⟩
         have n0_ := Aside0.mk (bb hb BK296.out)
         have n1_ := Aside0.mk (bb hb BK302.out)
         have n2_ := Aside0.mk (bb hb BK313.out)
         have n3_ := Aside0.mk (bb hb BK318.out)
         have n4_ := Aside0.mk (below_step (by repeat (first | (with_reducible first | exact HB.out | apply below_alloc | apply pw_below_drewN | apply below_drew1 | refine below_set ?_ GE296.out | refine below_set ?_ GE302.out | refine below_set ?_ GE313.out | refine below_set ?_ GE318.out) | exact HB.out)) hb)
         clear BK296
         clear BK302
         clear BK313
         clear BK318
         clear HB
         have BK296 := n0_
         have BK302 := n1_
         have BK313 := n2_
         have BK318 := n3_
         have HB := n4_
         clear n0_ n1_ n2_ n3_ n4_
         (try clear hb)
         (try clear hb2)
         (try clear hk)
         (try clear hi)
         refine hK.out _ _ ⟨(blk_cell BK318.out 0).trans rfl, (blk_cell BK318.out 1).trans rfl, (blk_cell BK318.out 2).trans rfl, (blk_cell BK313.out 0).trans rfl, (blk_cell BK313.out 1).trans rfl, (blk_cell BK313.out 2).trans rfl, (blk_cell BK313.out 3).trans rfl, (blk_cell BK313.out 4).trans rfl, (blk_cell BK313.out 5).trans rfl, (blk_cell BK313.out 6).trans rfl⟩ (fun hHeld => ?_)
         clear hK K
         refine norm_ (a' := ?_) ?_ ?_
         rotate_left
         ·show Act.put _ (some 56) _ = _
          simp only [Act.put, zq1, zq2, zq3, i64_w, i32_w]
          rfl
         refine pure_ (i := 9) (N := some 57) (v := ?_) (a' := ?_) (ab 11 1023) rfl rfl (any_of HT_.out (by kernel_rfl)) (fun _ _ _ h => h) (Or.inl ⟨by rfl, ?_⟩) ?_ ?_
         rotate_left
         ·intro w'
          go_simp
          with_reducible rfl
         rotate_left
         ·simp only [Act.put, zq1, zq2, zq3, i64_w, i32_w]
          rfl
         refine last_ (i := 10) (N := none) (ab 11 2047) rfl rfl (one_of HT_.out (by kernel_rfl)) (by decide) (fun K hK => ?_)
         have hs48 : w47.cell? ⟨gb318, 0, none⟩ = some (.int .i64 x319000_1) := (blk_cell BK318.out 0).trans rfl
         have hfs48 := blk_frozen BK318.out 0
         have hns48_0 := NB296_318.out
         have hns48_1 := NB302_318.out
         have hns48_2 := NB313_318.out
         have hms48_0 := NB318_296.out
         have hms48_1 := NB318_302.out
         have hms48_2 := NB318_313.out
         refine skip_ (w1 := ?_) (by rfl) rfl ?_ ?_
         rotate_left
         ·go_simp
          rfl
         refine hK.out _ _ ?_
         clear hK K
         refine done_ (done_of HT_.out (by kernel_rfl)) ?_
         try go_wp2
         go_roundg k1
         case measure => have := HK1.out; omega
         case rel => exact ⟨(wrap64 (0 + 1)), (t319), (x319001_1), (x319002_1), (by first | rfl | (simp; done) | (simp [*]; done) | (simp; decide +kernel)), H', ⟨by have := HK1.out; omega⟩, ⟨by (with_reducible repeat (first | refine blk_drewN ?_ _ | refine blk_drew ?_ | refine blk_alloc ?_ _)); refine blk_far ?_ NB296_318.out _; exact BK296.out⟩, ⟨by (with_reducible repeat (first | refine blk_drewN ?_ _ | refine blk_drew ?_ | refine blk_alloc ?_ _)); refine blk_far ?_ NB302_318.out _; exact BK302.out⟩, ⟨by (with_reducible repeat (first | refine blk_drewN ?_ _ | refine blk_drew ?_ | refine blk_alloc ?_ _)); refine blk_far ?_ NB313_318.out _; exact BK313.out⟩, ⟨by (with_reducible repeat (first | refine blk_drewN ?_ _ | refine blk_drew ?_ | refine blk_alloc ?_ _)); refine blk_put (cs := #[.int .i64 x319000_1, .int .i64 x319001_1, .int .i64 x319002_1]) ?_ 0 _ rfl; exact BK318.out⟩, ⟨by repeat (first | (with_reducible first | exact HB.out | apply below_alloc | apply pw_below_drewN | apply below_drew1 | refine below_set ?_ GE296.out | refine below_set ?_ GE302.out | refine below_set ?_ GE313.out | refine below_set ?_ GE318.out) | exact HB.out)⟩⟩
        ·rw [if_neg c44] at H
         by_cases c49 : x45_1 = 1
         ·subst c49
          have H1 : ((fix_Add.f x319001_1 t307).bind fun t320 => (tourref5_PlaceOf.l0 k1 (wrap64 (1 + 1)) t298 t299 t300 t301 t306 t307 t308 t309 t310 t311 t312 x319000_1 t320 x319002_1)) = some (r1, r2, r3, r4, r5, r6, r7) := by rw [if_pos rfl] at H; exact H
          clear H
          have H := H1
          clear H1
          replace H := Option.bind_eq_some_iff.mp H
          obtain ⟨t320, A500, H⟩ := H
          replace H : (tourref5_PlaceOf.l0 k1 (wrap64 (1 + 1)) t298 t299 t300 t301 t306 t307 t308 t309 t310 t311 t312 x319000_1 t320 x319002_1) = some (r1, r2, r3, r4, r5, r6, r7) := H
          have A50 := Aside0.mk A500
          clear A500
          have H' := Aside0.mk H
          clear H
          try go_wp2
          have n0_ := Aside0.mk (blk_drew BK296.out)
          have n1_ := Aside0.mk (blk_drew BK302.out)
          have n2_ := Aside0.mk (blk_drew BK313.out)
          have n3_ := Aside0.mk (blk_drew BK318.out)
          have n4_ := Aside0.mk (below_drew1 HB.out)
          clear BK296
          clear BK302
          clear BK313
          clear BK318
          clear HB
          have BK296 := n0_
          have BK302 := n1_
          have BK313 := n2_
          have BK318 := n3_
          have HB := n4_
          clear n0_ n1_ n2_ n3_ n4_
          refine start_ (n := 11) (S := fun w' => w'.cell? ⟨gb318, 0, none⟩ = some (.int .i64 x319000_1) ∧ w'.cell? ⟨gb318, 1, none⟩ = some (.int .i64 x319001_1) ∧ w'.cell? ⟨gb318, 2, none⟩ = some (.int .i64 x319002_1) ∧ w'.cell? ⟨gb313, 0, none⟩ = some (.int .i64 t306) ∧ w'.cell? ⟨gb313, 1, none⟩ = some (.int .i64 t307) ∧ w'.cell? ⟨gb313, 2, none⟩ = some (.int .i64 t308) ∧ w'.cell? ⟨gb313, 3, none⟩ = some (.int .i64 t309) ∧ w'.cell? ⟨gb313, 4, none⟩ = some (.int .i64 t310) ∧ w'.cell? ⟨gb313, 5, none⟩ = some (.int .i64 t311) ∧ w'.cell? ⟨gb313, 6, none⟩ = some (.int .i64 t312)) (ds := [10]) (ab 11 0) (by kernel_rfl) rfl rfl ⟨(blk_cell BK318.out 0).trans rfl, (blk_cell BK318.out 1).trans rfl, (blk_cell BK318.out 2).trans rfl, (blk_cell BK313.out 0).trans rfl, (blk_cell BK313.out 1).trans rfl, (blk_cell BK313.out 2).trans rfl, (blk_cell BK313.out 3).trans rfl, (blk_cell BK313.out 4).trans rfl, (blk_cell BK313.out 5).trans rfl, (blk_cell BK313.out 6).trans rfl⟩ (fun hHeld => ?_); refine with_tabW tourref5_PlaceOf.tab9 tourref5_PlaceOf.bits9 (fun HT_ HW_ => ?_)
          generalize wr.drew = w51 at BK296 BK302 BK313 BK318 HB hHeld ⊢
          refine pure_ (i := 0) (N := some 48) (v := ?_) (a' := ?_) (ab 11 1) rfl rfl (any_of HT_.out (by kernel_rfl)) (fun _ _ _ h => h) (Or.inl ⟨by rfl, ?_⟩) ?_ ?_
          rotate_left
          ·intro w'
           go_simp
           with_reducible rfl
          rotate_left
          ·simp only [Act.put, zq1, zq2, zq3, i64_w, i32_w]
           rfl
          refine pure_ (i := 1) (N := some 49) (v := ?_) (a' := ?_) (ab 11 3) rfl rfl (any_of HT_.out (by kernel_rfl)) (fun _ _ _ h => h) (Or.inl ⟨by rfl, ?_⟩) ?_ ?_
          rotate_left
          ·intro w'
           go_simp
           with_reducible rfl
          rotate_left
          ·simp only [Act.put, zq1, zq2, zq3, i64_w, i32_w]
           rfl
          refine pure_ (i := 2) (N := some 50) (v := ?_) (a' := ?_) (ab 11 7) rfl rfl (any_of HT_.out (by kernel_rfl)) (fun _ _ _ h => h) (Or.inl ⟨by rfl, ?_⟩) ?_ ?_
          rotate_left
          ·intro w'
           go_simp
           with_reducible rfl
          rotate_left
          ·simp only [Act.put, zq1, zq2, zq3, i64_w, i32_w]
           rfl
          refine pure_ (i := 4) (N := some 52) (v := ?_) (a' := ?_) (ab 11 23) rfl rfl (any_of HT_.out (by kernel_rfl)) (fun _ _ _ h => h) (Or.inl ⟨by rfl, ?_⟩) ?_ ?_
          rotate_left
          ·intro w'
           go_simp
           with_reducible rfl
          rotate_left
          ·simp only [Act.put, zq1, zq2, zq3, i64_w, i32_w]
           rfl
          refine pure_ (i := 5) (N := some 53) (v := ?_) (a' := ?_) (ab 11 55) rfl rfl (any_of HT_.out (by kernel_rfl)) (fun _ _ _ h => h) (Or.inl ⟨by rfl, ?_⟩) ?_ ?_
          rotate_left
          ·intro w'
           go_simp
           with_reducible rfl
          rotate_left
          ·simp only [Act.put, zq1, zq2, zq3, i64_w, i32_w]
           rfl
          refine pure_ (i := 6) (N := some 54) (v := ?_) (a' := ?_) (ab 11 119) rfl rfl (any_of HT_.out (by kernel_rfl)) (fun _ _ _ h => h) (Or.inl ⟨by rfl, ?_⟩) ?_ ?_
          rotate_left
          ·intro w'
           go_simp
           with_reducible rfl
          rotate_left
          ·simp only [Act.put, zq1, zq2, zq3, i64_w, i32_w]
           rfl
          refine take_ (i := 3) (N := some 51) (v := ?_) (a' := ?_) (ab 11 127) rfl rfl (take_ofW HT_.out HW_.out (by kernel_rfl)) (fun _ _ _ h => h) (Or.inl ⟨by rfl, ?_⟩) hHeld ?_ ?_
          rotate_left
          ·rintro w' ⟨s0, s1, s2, s3, s4, s5, s6, s7, s8, s9⟩
           go_simp
           with_reducible rfl
          rotate_left
          ·simp only [Act.put, zq1, zq2, zq3, i64_w, i32_w]
           rfl
          refine take_ (i := 7) (N := some 55) (v := ?_) (a' := ?_) (ab 11 255) rfl rfl (take_ofW HT_.out HW_.out (by kernel_rfl)) (fun _ _ _ h => h) (Or.inl ⟨by rfl, ?_⟩) hHeld ?_ ?_
          rotate_left
          ·rintro w' ⟨s0, s1, s2, s3, s4, s5, s6, s7, s8, s9⟩
           go_simp
           with_reducible rfl
          rotate_left
          ·simp only [Act.put, zq1, zq2, zq3, i64_w, i32_w]
           rfl
          refine one_ (i := 8) (N := some 56) (ab 11 511) rfl rfl (one_of HT_.out (by kernel_rfl)) (by decide) (fun K hK => ?_)
          refine goes_ Try.func23 (by kernel_rfl) rfl #[.int .i64 x319001_1, .int .i64 t307] (by rfl) rfl rfl (by (try simp only [zm1, zm2, zm3]); first | done | rfl) ?_
          with_reducible refine (fix_Add.calls x319001_1 t307 t320 _ A50.out).mono ?_
          rintro e w52 ⟨rfl, hb⟩
          refine ⟨_, rfl, ?_⟩
          have n0_ := Aside0.mk (bb hb BK296.out)
          have n1_ := Aside0.mk (bb hb BK302.out)
          have n2_ := Aside0.mk (bb hb BK313.out)
          have n3_ := Aside0.mk (bb hb BK318.out)
          have n4_ := Aside0.mk (below_step (by repeat (first | (with_reducible first | exact HB.out | apply below_alloc | apply pw_below_drewN | apply below_drew1 | refine below_set ?_ GE296.out | refine below_set ?_ GE302.out | refine below_set ?_ GE313.out | refine below_set ?_ GE318.out) | exact HB.out)) hb)
          clear BK296
          clear BK302
          clear BK313
          clear BK318
          clear HB
          have BK296 := n0_
          have BK302 := n1_
          have BK313 := n2_
          have BK318 := n3_
          have HB := n4_
          clear n0_ n1_ n2_ n3_ n4_
          (try clear hb)
          (try clear hb2)
          (try clear hk)
          (try clear hi)
          refine hK.out _ _ ⟨(blk_cell BK318.out 0).trans rfl, (blk_cell BK318.out 1).trans rfl, (blk_cell BK318.out 2).trans rfl, (blk_cell BK313.out 0).trans rfl, (blk_cell BK313.out 1).trans rfl, (blk_cell BK313.out 2).trans rfl, (blk_cell BK313.out 3).trans rfl, (blk_cell BK313.out 4).trans rfl, (blk_cell BK313.out 5).trans rfl, (blk_cell BK313.out 6).trans rfl⟩ (fun hHeld => ?_)
          clear hK K
          refine norm_ (a' := ?_) ?_ ?_
          rotate_left
          ·show Act.put _ (some 56) _ = _
           simp only [Act.put, zq1, zq2, zq3, i64_w, i32_w]
           rfl
          refine pure_ (i := 9) (N := some 57) (v := ?_) (a' := ?_) (ab 11 1023) rfl rfl (any_of HT_.out (by kernel_rfl)) (fun _ _ _ h => h) (Or.inl ⟨by rfl, ?_⟩) ?_ ?_
          rotate_left
          ·intro w'
           go_simp
           with_reducible rfl
          rotate_left
          ·simp only [Act.put, zq1, zq2, zq3, i64_w, i32_w]
           rfl
          refine last_ (i := 10) (N := none) (ab 11 2047) rfl rfl (one_of HT_.out (by kernel_rfl)) (by decide) (fun K hK => ?_)
          have hs53 : w52.cell? ⟨gb318, 1, none⟩ = some (.int .i64 x319001_1) := (blk_cell BK318.out 1).trans rfl
          have hfs53 := blk_frozen BK318.out 1
          have hns53_0 := NB296_318.out
          have hns53_1 := NB302_318.out
          have hns53_2 := NB313_318.out
          have hms53_0 := NB318_296.out
          have hms53_1 := NB318_302.out
          have hms53_2 := NB318_313.out
          refine skip_ (w1 := ?_) (by rfl) rfl ?_ ?_
          rotate_left
          ·go_simp
           rfl
          refine hK.out _ _ ?_
          clear hK K
          refine done_ (done_of HT_.out (by kernel_rfl)) ?_
          try go_wp2
          go_roundg k1
          case measure => have := HK1.out; omega
          case rel => exact ⟨(wrap64 (1 + 1)), (x319000_1), (t320), (x319002_1), (by first | rfl | (simp; done) | (simp [*]; done) | (simp; decide +kernel)), H', ⟨by have := HK1.out; omega⟩, ⟨by (with_reducible repeat (first | refine blk_drewN ?_ _ | refine blk_drew ?_ | refine blk_alloc ?_ _)); refine blk_far ?_ NB296_318.out _; exact BK296.out⟩, ⟨by (with_reducible repeat (first | refine blk_drewN ?_ _ | refine blk_drew ?_ | refine blk_alloc ?_ _)); refine blk_far ?_ NB302_318.out _; exact BK302.out⟩, ⟨by (with_reducible repeat (first | refine blk_drewN ?_ _ | refine blk_drew ?_ | refine blk_alloc ?_ _)); refine blk_far ?_ NB313_318.out _; exact BK313.out⟩, ⟨by (with_reducible repeat (first | refine blk_drewN ?_ _ | refine blk_drew ?_ | refine blk_alloc ?_ _)); refine blk_put (cs := #[.int .i64 x319000_1, .int .i64 x319001_1, .int .i64 x319002_1]) ?_ 1 _ rfl; exact BK318.out⟩, ⟨by repeat (first | (with_reducible first | exact HB.out | apply below_alloc | apply pw_below_drewN | apply below_drew1 | refine below_set ?_ GE296.out | refine below_set ?_ GE302.out | refine below_set ?_ GE313.out | refine below_set ?_ GE318.out) | exact HB.out)⟩⟩
         ·rw [if_neg c49] at H
          by_cases c54 : x45_1 = 2
          ·subst c54
           have H1 : ((fix_Add.f x319002_1 t308).bind fun t321 => (tourref5_PlaceOf.l0 k1 (wrap64 (2 + 1)) t298 t299 t300 t301 t306 t307 t308 t309 t310 t311 t312 x319000_1 x319001_1 t321)) = some (r1, r2, r3, r4, r5, r6, r7) := by rw [if_pos rfl] at H; exact H
           clear H
           have H := H1
           clear H1
           replace H := Option.bind_eq_some_iff.mp H
           obtain ⟨t321, A550, H⟩ := H
           replace H : (tourref5_PlaceOf.l0 k1 (wrap64 (2 + 1)) t298 t299 t300 t301 t306 t307 t308 t309 t310 t311 t312 x319000_1 x319001_1 t321) = some (r1, r2, r3, r4, r5, r6, r7) := H
           have A55 := Aside0.mk A550
           clear A550
           have H' := Aside0.mk H
           clear H
           try go_wp2
           have n0_ := Aside0.mk (blk_drew BK296.out)
           have n1_ := Aside0.mk (blk_drew BK302.out)
           have n2_ := Aside0.mk (blk_drew BK313.out)
           have n3_ := Aside0.mk (blk_drew BK318.out)
           have n4_ := Aside0.mk (below_drew1 HB.out)
           clear BK296
           clear BK302
           clear BK313
           clear BK318
           clear HB
           have BK296 := n0_
           have BK302 := n1_
           have BK313 := n2_
           have BK318 := n3_
           have HB := n4_
           clear n0_ n1_ n2_ n3_ n4_
           refine start_ (n := 11) (S := fun w' => w'.cell? ⟨gb318, 0, none⟩ = some (.int .i64 x319000_1) ∧ w'.cell? ⟨gb318, 1, none⟩ = some (.int .i64 x319001_1) ∧ w'.cell? ⟨gb318, 2, none⟩ = some (.int .i64 x319002_1) ∧ w'.cell? ⟨gb313, 0, none⟩ = some (.int .i64 t306) ∧ w'.cell? ⟨gb313, 1, none⟩ = some (.int .i64 t307) ∧ w'.cell? ⟨gb313, 2, none⟩ = some (.int .i64 t308) ∧ w'.cell? ⟨gb313, 3, none⟩ = some (.int .i64 t309) ∧ w'.cell? ⟨gb313, 4, none⟩ = some (.int .i64 t310) ∧ w'.cell? ⟨gb313, 5, none⟩ = some (.int .i64 t311) ∧ w'.cell? ⟨gb313, 6, none⟩ = some (.int .i64 t312)) (ds := [10]) (ab 11 0) (by kernel_rfl) rfl rfl ⟨(blk_cell BK318.out 0).trans rfl, (blk_cell BK318.out 1).trans rfl, (blk_cell BK318.out 2).trans rfl, (blk_cell BK313.out 0).trans rfl, (blk_cell BK313.out 1).trans rfl, (blk_cell BK313.out 2).trans rfl, (blk_cell BK313.out 3).trans rfl, (blk_cell BK313.out 4).trans rfl, (blk_cell BK313.out 5).trans rfl, (blk_cell BK313.out 6).trans rfl⟩ (fun hHeld => ?_); refine with_tabW tourref5_PlaceOf.tab9 tourref5_PlaceOf.bits9 (fun HT_ HW_ => ?_)
           generalize wr.drew = w56 at BK296 BK302 BK313 BK318 HB hHeld ⊢
           refine pure_ (i := 0) (N := some 48) (v := ?_) (a' := ?_) (ab 11 1) rfl rfl (any_of HT_.out (by kernel_rfl)) (fun _ _ _ h => h) (Or.inl ⟨by rfl, ?_⟩) ?_ ?_
           rotate_left
           ·intro w'
            go_simp
            with_reducible rfl
           rotate_left
           ·simp only [Act.put, zq1, zq2, zq3, i64_w, i32_w]
            rfl
           refine pure_ (i := 1) (N := some 49) (v := ?_) (a' := ?_) (ab 11 3) rfl rfl (any_of HT_.out (by kernel_rfl)) (fun _ _ _ h => h) (Or.inl ⟨by rfl, ?_⟩) ?_ ?_
           rotate_left
           ·intro w'
            go_simp
            with_reducible rfl
           rotate_left
           ·simp only [Act.put, zq1, zq2, zq3, i64_w, i32_w]
            rfl
           refine pure_ (i := 2) (N := some 50) (v := ?_) (a' := ?_) (ab 11 7) rfl rfl (any_of HT_.out (by kernel_rfl)) (fun _ _ _ h => h) (Or.inl ⟨by rfl, ?_⟩) ?_ ?_
           rotate_left
           ·intro w'
            go_simp
            with_reducible rfl
           rotate_left
           ·simp only [Act.put, zq1, zq2, zq3, i64_w, i32_w]
            rfl
           refine pure_ (i := 4) (N := some 52) (v := ?_) (a' := ?_) (ab 11 23) rfl rfl (any_of HT_.out (by kernel_rfl)) (fun _ _ _ h => h) (Or.inl ⟨by rfl, ?_⟩) ?_ ?_
           rotate_left
           ·intro w'
            go_simp
            with_reducible rfl
           rotate_left
           ·simp only [Act.put, zq1, zq2, zq3, i64_w, i32_w]
            rfl
           refine pure_ (i := 5) (N := some 53) (v := ?_) (a' := ?_) (ab 11 55) rfl rfl (any_of HT_.out (by kernel_rfl)) (fun _ _ _ h => h) (Or.inl ⟨by rfl, ?_⟩) ?_ ?_
           rotate_left
           ·intro w'
            go_simp
            with_reducible rfl
           rotate_left
           ·simp only [Act.put, zq1, zq2, zq3, i64_w, i32_w]
            rfl
           refine pure_ (i := 6) (N := some 54) (v := ?_) (a' := ?_) (ab 11 119) rfl rfl (any_of HT_.out (by kernel_rfl)) (fun _ _ _ h => h) (Or.inl ⟨by rfl, ?_⟩) ?_ ?_
           rotate_left
           ·intro w'
            go_simp
            with_reducible rfl
           rotate_left
           ·simp only [Act.put, zq1, zq2, zq3, i64_w, i32_w]
            rfl
           refine take_ (i := 3) (N := some 51) (v := ?_) (a' := ?_) (ab 11 127) rfl rfl (take_ofW HT_.out HW_.out (by kernel_rfl)) (fun _ _ _ h => h) (Or.inl ⟨by rfl, ?_⟩) hHeld ?_ ?_
           rotate_left
           ·rintro w' ⟨s0, s1, s2, s3, s4, s5, s6, s7, s8, s9⟩
            go_simp
            with_reducible rfl
           rotate_left
           ·simp only [Act.put, zq1, zq2, zq3, i64_w, i32_w]
            rfl
           refine take_ (i := 7) (N := some 55) (v := ?_) (a' := ?_) (ab 11 255) rfl rfl (take_ofW HT_.out HW_.out (by kernel_rfl)) (fun _ _ _ h => h) (Or.inl ⟨by rfl, ?_⟩) hHeld ?_ ?_
           rotate_left
           ·rintro w' ⟨s0, s1, s2, s3, s4, s5, s6, s7, s8, s9⟩
            go_simp
            with_reducible rfl
           rotate_left
           ·simp only [Act.put, zq1, zq2, zq3, i64_w, i32_w]
            rfl
           refine one_ (i := 8) (N := some 56) (ab 11 511) rfl rfl (one_of HT_.out (by kernel_rfl)) (by decide) (fun K hK => ?_)
           refine goes_ Try.func23 (by kernel_rfl) rfl #[.int .i64 x319002_1, .int .i64 t308] (by rfl) rfl rfl (by (try simp only [zm1, zm2, zm3]); first | done | rfl) ?_
           with_reducible refine (fix_Add.calls x319002_1 t308 t321 _ A55.out).mono ?_
           rintro e w57 ⟨rfl, hb⟩
           refine ⟨_, rfl, ?_⟩
           have n0_ := Aside0.mk (bb hb BK296.out)
           have n1_ := Aside0.mk (bb hb BK302.out)
           have n2_ := Aside0.mk (bb hb BK313.out)
           have n3_ := Aside0.mk (bb hb BK318.out)
           have n4_ := Aside0.mk (below_step (by repeat (first | (with_reducible first | exact HB.out | apply below_alloc | apply pw_below_drewN | apply below_drew1 | refine below_set ?_ GE296.out | refine below_set ?_ GE302.out | refine below_set ?_ GE313.out | refine below_set ?_ GE318.out) | exact HB.out)) hb)
           clear BK296
           clear BK302
           clear BK313
           clear BK318
           clear HB
           have BK296 := n0_
           have BK302 := n1_
           have BK313 := n2_
           have BK318 := n3_
           have HB := n4_
           clear n0_ n1_ n2_ n3_ n4_
           (try clear hb)
           (try clear hb2)
           (try clear hk)
           (try clear hi)
           refine hK.out _ _ ⟨(blk_cell BK318.out 0).trans rfl, (blk_cell BK318.out 1).trans rfl, (blk_cell BK318.out 2).trans rfl, (blk_cell BK313.out 0).trans rfl, (blk_cell BK313.out 1).trans rfl, (blk_cell BK313.out 2).trans rfl, (blk_cell BK313.out 3).trans rfl, (blk_cell BK313.out 4).trans rfl, (blk_cell BK313.out 5).trans rfl, (blk_cell BK313.out 6).trans rfl⟩ (fun hHeld => ?_)
           clear hK K
           refine norm_ (a' := ?_) ?_ ?_
           rotate_left
           ·show Act.put _ (some 56) _ = _
            simp only [Act.put, zq1, zq2, zq3, i64_w, i32_w]
            rfl
           refine pure_ (i := 9) (N := some 57) (v := ?_) (a' := ?_) (ab 11 1023) rfl rfl (any_of HT_.out (by kernel_rfl)) (fun _ _ _ h => h) (Or.inl ⟨by rfl, ?_⟩) ?_ ?_
           rotate_left
           ·intro w'
            go_simp
            with_reducible rfl
           rotate_left
           ·simp only [Act.put, zq1, zq2, zq3, i64_w, i32_w]
            rfl
           refine last_ (i := 10) (N := none) (ab 11 2047) rfl rfl (one_of HT_.out (by kernel_rfl)) (by decide) (fun K hK => ?_)
           have hs58 : w57.cell? ⟨gb318, 2, none⟩ = some (.int .i64 x319002_1) := (blk_cell BK318.out 2).trans rfl
           have hfs58 := blk_frozen BK318.out 2
           have hns58_0 := NB296_318.out
           have hns58_1 := NB302_318.out
           have hns58_2 := NB313_318.out
           have hms58_0 := NB318_296.out
           have hms58_1 := NB318_302.out
           have hms58_2 := NB318_313.out
           refine skip_ (w1 := ?_) (by rfl) rfl ?_ ?_
           rotate_left
           ·go_simp
            rfl
           refine hK.out _ _ ?_
           clear hK K
           refine done_ (done_of HT_.out (by kernel_rfl)) ?_
           try go_wp2
           go_roundg k1
           case measure => have := HK1.out; omega
           case rel => exact ⟨(wrap64 (2 + 1)), (x319000_1), (x319001_1), (t321), (by first | rfl | (simp; done) | (simp [*]; done) | (simp; decide +kernel)), H', ⟨by have := HK1.out; omega⟩, ⟨by (with_reducible repeat (first | refine blk_drewN ?_ _ | refine blk_drew ?_ | refine blk_alloc ?_ _)); refine blk_far ?_ NB296_318.out _; exact BK296.out⟩, ⟨by (with_reducible repeat (first | refine blk_drewN ?_ _ | refine blk_drew ?_ | refine blk_alloc ?_ _)); refine blk_far ?_ NB302_318.out _; exact BK302.out⟩, ⟨by (with_reducible repeat (first | refine blk_drewN ?_ _ | refine blk_drew ?_ | refine blk_alloc ?_ _)); refine blk_far ?_ NB313_318.out _; exact BK313.out⟩, ⟨by (with_reducible repeat (first | refine blk_drewN ?_ _ | refine blk_drew ?_ | refine blk_alloc ?_ _)); refine blk_put (cs := #[.int .i64 x319000_1, .int .i64 x319001_1, .int .i64 x319002_1]) ?_ 2 _ rfl; exact BK318.out⟩, ⟨by repeat (first | (with_reducible first | exact HB.out | apply below_alloc | apply pw_below_drewN | apply below_drew1 | refine below_set ?_ GE296.out | refine below_set ?_ GE302.out | refine below_set ?_ GE313.out | refine below_set ?_ GE318.out) | exact HB.out)⟩⟩
          ·rw [if_neg c54] at H
           exact absurd H (by simp)
       ·rw [if_neg c43] at H
        have c43b0 : decide (x45_1 < 3) = false := decide_eq_false c43
        clear c43
        replace H := Option.bind_eq_some_iff.mp H
        obtain ⟨⟨t322, t323, t324, t325⟩, A590, H⟩ := H
        replace H : ((quat_Unit.f k1 t322 t323 t324 t325).bind fun bt326 => (some (x319000_1, x319001_1, x319002_1, bt326.1, bt326.2.1, bt326.2.2.1, bt326.2.2.2))) = some (r1, r2, r3, r4, r5, r6, r7) := H
        have A59 := Aside0.mk A590
        clear A590
        replace H := Option.bind_eq_some_iff.mp H
        obtain ⟨⟨t326, t327, t328, t329⟩, A600, H⟩ := H
        replace H : (some (x319000_1, x319001_1, x319002_1, t326, t327, t328, t329)) = some (r1, r2, r3, r4, r5, r6, r7) := H
        have A60 := Aside0.mk A600
        clear A600
        simp only [Option.some.injEq, Prod.mk.injEq] at H
        obtain ⟨rfl, rfl, rfl, rfl, rfl, rfl, rfl⟩ := H
        try go_wp2
        have n0_ := Aside0.mk (blk_drew BK296.out)
        have n1_ := Aside0.mk (blk_drew BK302.out)
        have n2_ := Aside0.mk (blk_drew BK313.out)
        have n3_ := Aside0.mk (blk_drew BK318.out)
        have n4_ := Aside0.mk (below_drew1 HB.out)
        clear BK296
        clear BK302
        clear BK313
        clear BK318
        clear HB
        have BK296 := n0_
        have BK302 := n1_
        have BK313 := n2_
        have BK318 := n3_
        have HB := n4_
        clear n0_ n1_ n2_ n3_ n4_
        refine start_ (n := 8) (S := fun w' => w'.cell? ⟨gb318, 0, none⟩ = some (.int .i64 x319000_1) ∧ w'.cell? ⟨gb318, 1, none⟩ = some (.int .i64 x319001_1) ∧ w'.cell? ⟨gb318, 2, none⟩ = some (.int .i64 x319002_1) ∧ w'.cell? ⟨gb313, 0, none⟩ = some (.int .i64 t306) ∧ w'.cell? ⟨gb313, 1, none⟩ = some (.int .i64 t307) ∧ w'.cell? ⟨gb313, 2, none⟩ = some (.int .i64 t308) ∧ w'.cell? ⟨gb313, 3, none⟩ = some (.int .i64 t309) ∧ w'.cell? ⟨gb313, 4, none⟩ = some (.int .i64 t310) ∧ w'.cell? ⟨gb313, 5, none⟩ = some (.int .i64 t311) ∧ w'.cell? ⟨gb313, 6, none⟩ = some (.int .i64 t312) ∧ w'.cell? ⟨gb302, 0, none⟩ = some (.int .i64 t298) ∧ w'.cell? ⟨gb302, 1, none⟩ = some (.int .i64 t299) ∧ w'.cell? ⟨gb302, 2, none⟩ = some (.int .i64 t300) ∧ w'.cell? ⟨gb302, 3, none⟩ = some (.int .i64 t301)) (ds := []) (ab 8 0) (by kernel_rfl) rfl rfl ⟨(blk_cell BK318.out 0).trans rfl, (blk_cell BK318.out 1).trans rfl, (blk_cell BK318.out 2).trans rfl, (blk_cell BK313.out 0).trans rfl, (blk_cell BK313.out 1).trans rfl, (blk_cell BK313.out 2).trans rfl, (blk_cell BK313.out 3).trans rfl, (blk_cell BK313.out 4).trans rfl, (blk_cell BK313.out 5).trans rfl, (blk_cell BK313.out 6).trans rfl, (blk_cell BK302.out 0).trans rfl, (blk_cell BK302.out 1).trans rfl, (blk_cell BK302.out 2).trans rfl, (blk_cell BK302.out 3).trans rfl⟩ (fun hHeld => ?_); refine with_tabW tourref5_PlaceOf.tab11 tourref5_PlaceOf.bits11 (fun HT_ HW_ => ?_)
        generalize wr.drew = w61 at BK296 BK302 BK313 BK318 HB hHeld ⊢
        refine pure_ (i := 1) (N := some 60) (v := ?_) (a' := ?_) (ab 8 2) rfl rfl (any_of HT_.out (by kernel_rfl)) (fun _ _ _ h => h) (Or.inl ⟨by rfl, ?_⟩) ?_ ?_
        rotate_left
        ·intro w'
         go_simp
         with_reducible rfl
        rotate_left
        ·simp only [Act.put, zq1, zq2, zq3, i64_w, i32_w]
         rfl
        refine take_ (i := 0) (N := some 59) (v := ?_) (a' := ?_) (ab 8 3) rfl rfl (take_ofW HT_.out HW_.out (by kernel_rfl)) (fun _ _ _ h => h) (Or.inl ⟨by rfl, ?_⟩) hHeld ?_ ?_
        rotate_left
        ·rintro w' ⟨s0, s1, s2, s3, s4, s5, s6, s7, s8, s9, s10, s11, s12, s13⟩
         go_simp
         with_reducible rfl
        rotate_left
        ·simp only [Act.put, zq1, zq2, zq3, i64_w, i32_w]
         rfl
        refine take_ (i := 2) (N := some 61) (v := ?_) (a' := ?_) (ab 8 7) rfl rfl (take_ofW HT_.out HW_.out (by kernel_rfl)) (fun _ _ _ h => h) (Or.inl ⟨by rfl, ?_⟩) hHeld ?_ ?_
        rotate_left
        ·rintro w' ⟨s0, s1, s2, s3, s4, s5, s6, s7, s8, s9, s10, s11, s12, s13⟩
         go_simp
         with_reducible rfl
        rotate_left
        ·simp only [Act.put, zq1, zq2, zq3, i64_w, i32_w]
         rfl
        refine take_ (i := 3) (N := some 62) (v := ?_) (a' := ?_) (ab 8 15) rfl rfl (take_ofW HT_.out HW_.out (by kernel_rfl)) (fun _ _ _ h => h) (Or.inl ⟨by rfl, ?_⟩) hHeld ?_ ?_
        rotate_left
        ·rintro w' ⟨s0, s1, s2, s3, s4, s5, s6, s7, s8, s9, s10, s11, s12, s13⟩
         go_simp
         with_reducible rfl
        rotate_left
        ·simp only [Act.put, zq1, zq2, zq3, i64_w, i32_w]
         rfl
        refine one_ (i := 4) (N := some 63) (ab 8 31) rfl rfl (one_of HT_.out (by kernel_rfl)) (by decide) (fun K hK => ?_)
        refine goes_ Try.func29 (by kernel_rfl) rfl #[.agg #[.int .i64 t309, .int .i64 t310, .int .i64 t311, .int .i64 t312], .agg #[.int .i64 t298, .int .i64 t299, .int .i64 t300, .int .i64 t301]] (by rfl) rfl rfl (by (try simp only [zm1, zm2, zm3]); first | done | rfl) ?_
        with_reducible refine (quat_Mul.calls k1 t309 t310 t311 t312 t298 t299 t300 t301 t322 t323 t324 t325 _ A59.out).mono ?_
        rintro e w62 ⟨rfl, hb⟩
        refine ⟨_, rfl, ?_⟩
        have n0_ := Aside0.mk (bb hb BK296.out)
        have n1_ := Aside0.mk (bb hb BK302.out)
        have n2_ := Aside0.mk (bb hb BK313.out)
        have n3_ := Aside0.mk (bb hb BK318.out)
        have n4_ := Aside0.mk (below_step (by repeat (first | (with_reducible first | exact HB.out | apply below_alloc | apply pw_below_drewN | apply below_drew1 | refine below_set ?_ GE296.out | refine below_set ?_ GE302.out | refine below_set ?_ GE313.out | refine below_set ?_ GE318.out) | exact HB.out)) hb)
        clear BK296
        clear BK302
        clear BK313
        clear BK318
        clear HB
        have BK296 := n0_
        have BK302 := n1_
        have BK313 := n2_
        have BK318 := n3_
        have HB := n4_
        clear n0_ n1_ n2_ n3_ n4_
        (try clear hb)
        (try clear hb2)
        (try clear hk)
        (try clear hi)
        refine hK.out _ _ ⟨(blk_cell BK318.out 0).trans rfl, (blk_cell BK318.out 1).trans rfl, (blk_cell BK318.out 2).trans rfl, (blk_cell BK313.out 0).trans rfl, (blk_cell BK313.out 1).trans rfl, (blk_cell BK313.out 2).trans rfl, (blk_cell BK313.out 3).trans rfl, (blk_cell BK313.out 4).trans rfl, (blk_cell BK313.out 5).trans rfl, (blk_cell BK313.out 6).trans rfl, (blk_cell BK302.out 0).trans rfl, (blk_cell BK302.out 1).trans rfl, (blk_cell BK302.out 2).trans rfl, (blk_cell BK302.out 3).trans rfl⟩ (fun hHeld => ?_)
        clear hK K
        refine norm_ (a' := ?_) ?_ ?_
        rotate_left
        ·show Act.put _ (some 63) _ = _
         simp only [Act.put, zq1, zq2, zq3, i64_w, i32_w]
         rfl
        refine one_ (i := 5) (N := some 64) (ab 8 63) rfl rfl (one_of HT_.out (by kernel_rfl)) (by decide) (fun K hK => ?_)
        refine goes_ Try.func22 (by kernel_rfl) rfl #[.agg #[.int .i64 t322, .int .i64 t323, .int .i64 t324, .int .i64 t325]] (by rfl) rfl rfl (by (try simp only [zm1, zm2, zm3]); first | done | rfl) ?_
        with_reducible refine (quat_Unit.calls k1 t322 t323 t324 t325 t326 t327 t328 t329 _ A60.out).mono ?_
        rintro e w63 ⟨rfl, hb⟩
        refine ⟨_, rfl, ?_⟩
        have n0_ := Aside0.mk (bb hb BK296.out)
        have n1_ := Aside0.mk (bb hb BK302.out)
        have n2_ := Aside0.mk (bb hb BK313.out)
        have n3_ := Aside0.mk (bb hb BK318.out)
        have n4_ := Aside0.mk (below_step (by repeat (first | (with_reducible first | exact HB.out | apply below_alloc | apply pw_below_drewN | apply below_drew1 | refine below_set ?_ GE296.out | refine below_set ?_ GE302.out | refine below_set ?_ GE313.out | refine below_set ?_ GE318.out) | exact HB.out)) hb)
        clear BK296
        clear BK302
        clear BK313
        clear BK318
        clear HB
        have BK296 := n0_
        have BK302 := n1_
        have BK313 := n2_
        have BK318 := n3_
        have HB := n4_
        clear n0_ n1_ n2_ n3_ n4_
        (try clear hb)
        (try clear hb2)
        (try clear hk)
        (try clear hi)
        refine hK.out _ _ ⟨(blk_cell BK318.out 0).trans rfl, (blk_cell BK318.out 1).trans rfl, (blk_cell BK318.out 2).trans rfl, (blk_cell BK313.out 0).trans rfl, (blk_cell BK313.out 1).trans rfl, (blk_cell BK313.out 2).trans rfl, (blk_cell BK313.out 3).trans rfl, (blk_cell BK313.out 4).trans rfl, (blk_cell BK313.out 5).trans rfl, (blk_cell BK313.out 6).trans rfl, (blk_cell BK302.out 0).trans rfl, (blk_cell BK302.out 1).trans rfl, (blk_cell BK302.out 2).trans rfl, (blk_cell BK302.out 3).trans rfl⟩ (fun hHeld => ?_)
        clear hK K
        refine norm_ (a' := ?_) ?_ ?_
        rotate_left
        ·show Act.put _ (some 64) _ = _
         simp only [Act.put, zq1, zq2, zq3, i64_w, i32_w]
         rfl
        refine pure_ (i := 6) (N := some 65) (v := ?_) (a' := ?_) (ab 8 127) rfl rfl (any_of HT_.out (by kernel_rfl)) (fun _ _ _ h => h) (Or.inl ⟨by rfl, ?_⟩) ?_ ?_
        rotate_left
        ·intro w'
         go_simp
         with_reducible rfl
        rotate_left
        ·simp only [Act.put, zq1, zq2, zq3, i64_w, i32_w]
         rfl
        refine one_ (i := 7) (N := none) (ab 8 255) rfl rfl (one_of HT_.out (by kernel_rfl)) (by decide) (fun K hK => ?_)
        have hs64 : w63.cell? ⟨gb296, 0, none⟩ = some (.int .i64 0) := (blk_cell BK296.out 0).trans rfl
        have hfs64 := blk_frozen BK296.out 0
        have hns64_1 := NB302_296.out
        have hns64_2 := NB313_296.out
        have hns64_3 := NB318_296.out
        have hms64_1 := NB296_302.out
        have hms64_2 := NB296_313.out
        have hms64_3 := NB296_318.out
        have hs65 : w63.cell? ⟨gb296, 1, none⟩ = some (.int .i64 0) := (blk_cell BK296.out 1).trans rfl
        have hfs65 := blk_frozen BK296.out 1
        have hns65_1 := NB302_296.out
        have hns65_2 := NB313_296.out
        have hns65_3 := NB318_296.out
        have hms65_1 := NB296_302.out
        have hms65_2 := NB296_313.out
        have hms65_3 := NB296_318.out
        have hs66 : w63.cell? ⟨gb296, 2, none⟩ = some (.int .i64 0) := (blk_cell BK296.out 2).trans rfl
        have hfs66 := blk_frozen BK296.out 2
        have hns66_1 := NB302_296.out
        have hns66_2 := NB313_296.out
        have hns66_3 := NB318_296.out
        have hms66_1 := NB296_302.out
        have hms66_2 := NB296_313.out
        have hms66_3 := NB296_318.out
        have hs67 : w63.cell? ⟨gb296, 3, none⟩ = some (.int .i64 0) := (blk_cell BK296.out 3).trans rfl
        have hfs67 := blk_frozen BK296.out 3
        have hns67_1 := NB302_296.out
        have hns67_2 := NB313_296.out
        have hns67_3 := NB318_296.out
        have hms67_1 := NB296_302.out
        have hms67_2 := NB296_313.out
        have hms67_3 := NB296_318.out
        have hs68 : w63.cell? ⟨gb296, 4, none⟩ = some (.int .i64 0) := (blk_cell BK296.out 4).trans rfl
        have hfs68 := blk_frozen BK296.out 4
        have hns68_1 := NB302_296.out
        have hns68_2 := NB313_296.out
        have hns68_3 := NB318_296.out
        have hms68_1 := NB296_302.out
        have hms68_2 := NB296_313.out
        have hms68_3 := NB296_318.out
        have hs69 : w63.cell? ⟨gb296, 5, none⟩ = some (.int .i64 0) := (blk_cell BK296.out 5).trans rfl
        have hfs69 := blk_frozen BK296.out 5
        have hns69_1 := NB302_296.out
        have hns69_2 := NB313_296.out
        have hns69_3 := NB318_296.out
        have hms69_1 := NB296_302.out
        have hms69_2 := NB296_313.out
        have hms69_3 := NB296_318.out
        have hs70 : w63.cell? ⟨gb296, 6, none⟩ = some (.int .i64 0) := (blk_cell BK296.out 6).trans rfl
        have hfs70 := blk_frozen BK296.out 6
        have hns70_1 := NB302_296.out
        have hns70_2 := NB313_296.out
        have hns70_3 := NB318_296.out
        have hms70_1 := NB296_302.out
        have hms70_2 := NB296_313.out
        have hms70_3 := NB296_318.out
        refine skip_ (w1 := ?_) (by rfl) rfl ?_ ?_
        rotate_left
        ·go_simp
         rfl
        refine hK.out _ _ ⟨(cf NB318_296.out ((cf NB318_296.out ((cf NB318_296.out ((cf NB318_296.out ((cf NB318_296.out ((cf NB318_296.out ((cf NB318_296.out (hHeld.1)))))))))))))), (cf NB318_296.out ((cf NB318_296.out ((cf NB318_296.out ((cf NB318_296.out ((cf NB318_296.out ((cf NB318_296.out ((cf NB318_296.out (hHeld.2.1)))))))))))))), (cf NB318_296.out ((cf NB318_296.out ((cf NB318_296.out ((cf NB318_296.out ((cf NB318_296.out ((cf NB318_296.out ((cf NB318_296.out (hHeld.2.2.1)))))))))))))), (cf NB313_296.out ((cf NB313_296.out ((cf NB313_296.out ((cf NB313_296.out ((cf NB313_296.out ((cf NB313_296.out ((cf NB313_296.out (hHeld.2.2.2.1)))))))))))))), (cf NB313_296.out ((cf NB313_296.out ((cf NB313_296.out ((cf NB313_296.out ((cf NB313_296.out ((cf NB313_296.out ((cf NB313_296.out (hHeld.2.2.2.2.1)))))))))))))), (cf NB313_296.out ((cf NB313_296.out ((cf NB313_296.out ((cf NB313_296.out ((cf NB313_296.out ((cf NB313_296.out ((cf NB313_296.out (hHeld.2.2.2.2.2.1)))))))))))))), (cf NB313_296.out ((cf NB313_296.out ((cf NB313_296.out ((cf NB313_296.out ((cf NB313_296.out ((cf NB313_296.out ((cf NB313_296.out (hHeld.2.2.2.2.2.2.1)))))))))))))), (cf NB313_296.out ((cf NB313_296.out ((cf NB313_296.out ((cf NB313_296.out ((cf NB313_296.out ((cf NB313_296.out ((cf NB313_296.out (hHeld.2.2.2.2.2.2.2.1)))))))))))))), (cf NB313_296.out ((cf NB313_296.out ((cf NB313_296.out ((cf NB313_296.out ((cf NB313_296.out ((cf NB313_296.out ((cf NB313_296.out (hHeld.2.2.2.2.2.2.2.2.1)))))))))))))), (cf NB313_296.out ((cf NB313_296.out ((cf NB313_296.out ((cf NB313_296.out ((cf NB313_296.out ((cf NB313_296.out ((cf NB313_296.out (hHeld.2.2.2.2.2.2.2.2.2.1)))))))))))))), (cf NB302_296.out ((cf NB302_296.out ((cf NB302_296.out ((cf NB302_296.out ((cf NB302_296.out ((cf NB302_296.out ((cf NB302_296.out (hHeld.2.2.2.2.2.2.2.2.2.2.1)))))))))))))), (cf NB302_296.out ((cf NB302_296.out ((cf NB302_296.out ((cf NB302_296.out ((cf NB302_296.out ((cf NB302_296.out ((cf NB302_296.out (hHeld.2.2.2.2.2.2.2.2.2.2.2.1)))))))))))))), (cf NB302_296.out ((cf NB302_296.out ((cf NB302_296.out ((cf NB302_296.out ((cf NB302_296.out ((cf NB302_296.out ((cf NB302_296.out (hHeld.2.2.2.2.2.2.2.2.2.2.2.2.1)))))))))))))), (cf NB302_296.out ((cf NB302_296.out ((cf NB302_296.out ((cf NB302_296.out ((cf NB302_296.out ((cf NB302_296.out ((cf NB302_296.out (hHeld.2.2.2.2.2.2.2.2.2.2.2.2.2))))))))))))))⟩ (fun hHeld => ?_)
        clear hK K
        refine done_ (done_of HT_.out (by kernel_rfl)) ?_
        try go_wp2
        refine bodyPost_ret (results_cell_row rfl _ _ gb296 39 #[.int .i64 x319000_1, .int .i64 x319001_1, .int .i64 x319002_1, .int .i64 t326, .int .i64 t327, .int .i64 t328, .int .i64 t329] (0, 0) _ rfl (by (with_reducible repeat (first | refine blk_drewN ?_ _ | refine blk_drew ?_ | refine blk_alloc ?_ _)); refine blk_put (cs := #[.int .i64 x319000_1, .int .i64 x319001_1, .int .i64 x319002_1, .int .i64 t326, .int .i64 t327, .int .i64 t328, .int .i64 0]) ?_ 6 _ rfl; refine blk_put (cs := #[.int .i64 x319000_1, .int .i64 x319001_1, .int .i64 x319002_1, .int .i64 t326, .int .i64 t327, .int .i64 0, .int .i64 0]) ?_ 5 _ rfl; refine blk_put (cs := #[.int .i64 x319000_1, .int .i64 x319001_1, .int .i64 x319002_1, .int .i64 t326, .int .i64 0, .int .i64 0, .int .i64 0]) ?_ 4 _ rfl; refine blk_put (cs := #[.int .i64 x319000_1, .int .i64 x319001_1, .int .i64 x319002_1, .int .i64 0, .int .i64 0, .int .i64 0, .int .i64 0]) ?_ 3 _ rfl; refine blk_put (cs := #[.int .i64 x319000_1, .int .i64 x319001_1, .int .i64 0, .int .i64 0, .int .i64 0, .int .i64 0, .int .i64 0]) ?_ 2 _ rfl; refine blk_put (cs := #[.int .i64 x319000_1, .int .i64 0, .int .i64 0, .int .i64 0, .int .i64 0, .int .i64 0, .int .i64 0]) ?_ 1 _ rfl; refine blk_put (cs := #[.int .i64 0, .int .i64 0, .int .i64 0, .int .i64 0, .int .i64 0, .int .i64 0, .int .i64 0]) ?_ 0 _ rfl; exact BK296.out) Try.underlying39 rfl (by kernel_rfl)) rfl ?_
        exact ⟨by first | rfl | (simp [errW_none, errW_some] <;> rfl) | (simp [*, errW_none, errW_some] <;> rfl), by repeat (first | (with_reducible first | exact HB.out | apply below_alloc | apply pw_below_drewN | apply below_drew1 | refine below_set ?_ GE296.out | refine below_set ?_ GE302.out | refine below_set ?_ GE313.out | refine below_set ?_ GE318.out) | exact HB.out)⟩
   ·rw [if_neg c7] at H
    exact absurd H (by simp)
  ·rw [if_neg c5] at H
   exact absurd H (by simp)
 ·rw [if_neg c4] at H
  exact absurd H (by simp)

end Go.Proofs.Ytfallkiaojefnaa.PBonesTell
