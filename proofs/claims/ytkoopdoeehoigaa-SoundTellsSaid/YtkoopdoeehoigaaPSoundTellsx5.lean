-- Printed by a program: the print with changes of this session (wip/printpatch.py).
import Derived.Test.YtkoopdoeehoigaaPSoundTellsx0
import Derived.Test.YtkoopdoeehoigaaPSoundTellsx2
import Derived.Test.YtkoopdoeehoigaaPSoundTellsx4
namespace Go.Proofs.Ytkoopdoeehoigaa.PSoundTells
open Go.Proofs.Ytkoopdoeehoigaa.Fnv Go.Proofs.Ytkoopdoeehoigaa.Ary
open Go.RowKit Go.Proofs.YtkoopdoeehoigaaW.PrintWords Go.Proofs.YtkoopdoeehoigaaW.PrintLast Go.Proofs.YtkoopdoeehoigaaW.PrintMore
attribute [local go_sem] max2_int min2_int max_two min_two max_three min_three max_four min_four   -- for this text's walks alone
set_option linter.unusedVariables false
set_option linter.unusedSimpArgs false

/-! ### sound_Heights: function 9 -/
def sound_Heights.l0 : Nat → List (List Int) → Int → Int → List (S29) → Int → Option ((List (List Int)) × Int)
 | 0, _, _, _, _, _ => none
 | k + 1, x5, x16, x17, x163000, x163001 => if x17 < x16 then ((sound_heights.f k x163000 x163001 x17).bind fun bt164 => (if x5.length < 5864062014805 then (sound_Heights.l0 k (x5 ++ [bt164.1]) x16 (wrap64 (x17 + 1)) x163000 x163001) else (none))) else (some (x5, 0))
def sound_Heights.f (k : Nat) (l0_0 : List (S29)) (a0_1 : Int) : Option ((List (List Int)) × Int) := (sound_Check.f k l0_0 a0_1).bind fun t163 => (if t163 = 0 then (sound_Heights.l0 k ([] : List (List Int)) (l0_0.length : Int) 0 l0_0 a0_1) else (some (([] : List (List Int)), t163)))
theorem sound_Heights.mono_l : ∀ k, (∀ y0 y1 y2 y3 y4, LeO (sound_Heights.l0 k y0 y1 y2 y3 y4) (sound_Heights.l0 (k + 1) y0 y1 y2 y3 y4))
 | 0 => fun _ _ _ _ _ r h => by simp [sound_Heights.l0] at h
 | k + 1 => by
  have ih0 := sound_Heights.mono_l k
  ·intro y0 y1 y2 y3 y4
   unfold sound_Heights.l0
   repeat' first
   | (with_reducible exact ih0 _ _ _ _ _)
   | (with_reducible exact sound_Check.mono _ _ _)
   | (with_reducible exact sound_heights.mono _ _ _ _)
   | (with_reducible exact LeO.refl _)
   | (with_reducible exact LeO.none _)
   | (with_reducible refine LeO.ite ?_ ?_)
   | (with_reducible refine LeO.bind ?_ (fun _ => ?_))
   | exact ih0 _ _ _ _ _
   | exact sound_Check.mono _ _ _
   | exact sound_heights.mono _ _ _ _
   | exact LeO.none _
   | refine LeO.ite ?_ ?_
   | refine LeO.bind ?_ (fun _ => ?_)
theorem sound_Heights.mono : ∀ a0 a1 k, LeO (sound_Heights.f k a0 a1) (sound_Heights.f (k + 1) a0 a1) := by
 intro a0 a1 k
 have ih0 := sound_Heights.mono_l k
 unfold sound_Heights.f
 repeat' first
   | (with_reducible exact ih0 _ _ _ _ _)
   | (with_reducible exact sound_Check.mono _ _ _)
   | (with_reducible exact sound_heights.mono _ _ _ _)
   | (with_reducible exact LeO.refl _)
   | (with_reducible exact LeO.none _)
   | (with_reducible refine LeO.ite ?_ ?_)
   | (with_reducible refine LeO.bind ?_ (fun _ => ?_))
   | exact ih0 _ _ _ _ _
   | exact sound_Check.mono _ _ _
   | exact sound_heights.mono _ _ _ _
   | exact LeO.none _
   | refine LeO.ite ?_ ?_
   | refine LeO.bind ?_ (fun _ => ?_)
set_option maxHeartbeats 8000000 in
set_option maxRecDepth 100000 in
theorem sound_Heights.calls (k : Nat) (A0_0 : Option Addr) (c0_0 : Nat) (l0_0 : List (S29)) (a0_1 : Int) (r1 : List (List Int)) (r2 : Int) (w : World) (hr0_0 : Kd.C k29 w A0_0 l0_0.length l0_0) (hc0_0 : l0_0.length ≤ c0_0) (h : sound_Heights.f k l0_0 a0_1 = some (r1, r2)) :
  Calls Try.prog 9 #[.agg #[.slice A0_0 l0_0.length c0_0, .int .i64 a0_1]] w fun e w' => ∃ v0_ : Value, e = .returned (.tuple #[v0_, .int .i64 r2]) ∧ Kd.S (Kd.slice 3 (Kd.int .i64)) 36 w' w.heap.size (fun _ => True) v0_ r1 ∧ Below w.heap.size w w' := by
 have hu24 := Try.underlying24
 have HR0_0 := Aside0.mk hr0_0
 have HC0_0 := Aside0.mk hc0_0
 clear hr0_0 hc0_0
 have HB := Aside0.mk (Below.refl w.heap.size w)
 have H : ((sound_Check.f k l0_0 a0_1).bind fun t163 => (if t163 = 0 then (sound_Heights.l0 k ([] : List (List Int)) (l0_0.length : Int) 0 l0_0 a0_1) else (some (([] : List (List Int)), t163)))) = some (r1, r2) := h
 clear h
 replace H := Option.bind_eq_some_iff.mp H
 obtain ⟨t163, A20, H⟩ := H
 replace H : (if t163 = 0 then (sound_Heights.l0 k ([] : List (List Int)) (l0_0.length : Int) 0 l0_0 a0_1) else (some (([] : List (List Int)), t163))) = some (r1, r2) := H
 have A2 := Aside0.mk A20
 clear A20
 by_cases c3 : t163 = 0
 ·rw [if_pos c3] at H
  have c3b0 : (t163 == 0) = true := beq_iff_eq.mpr c3
  have c3b1 : (t163 != 0) = false := bne_eq_false_iff_eq.mpr c3
  clear c3
  have H' := Aside0.mk H
  clear H
  go_enter Try.func9, Try.ntmps9
  go_wp2_with (first | ((with_reducible refine gate_dst (N := 1) rfl ?_); refine box_event ?hg (N := 1) ?hd (cs := #[.slice A0_0 l0_0.length c0_0, .int .i64 a0_1]) (t := 24) ?hr ?_; (case hd => rfl); (case hg => rfl); (case hr => first | (go_simp; done) | (go_simp; rfl)); intro gb162 hg w4 hbox hb; have n0_ := Aside0.mk (below_step (by repeat (first | (with_reducible first | exact HB.out | apply below_alloc | apply pw_below_drewN | apply below_drew1) | exact HB.out)) hb); have n1_ := Aside0.mk (hbox); have n2_ := Aside0.mk ((by rw [hg]; exact (below_size (by repeat (first | (with_reducible first | exact HB.out | apply below_alloc | apply pw_below_drewN | apply below_drew1) | exact HB.out))) : w.heap.size ≤ gb162)); have n3_ := Aside0.mk ((by rw [hg]; exact (below_size (by repeat (first | (with_reducible first | exact HB.out | apply below_alloc | apply pw_below_drewN | apply below_drew1) | exact HB.out))) : w.heap.size ≤ gb162)); clear HB; have HB := n0_; have BK162 := n1_; have GW162 := n2_; have GE162 := n3_; clear n0_ n1_ n2_ n3_; clear hb hbox hg; obtain ⟨hcz5_0, hcz5_1⟩ := blk2 BK162.out; obtain ⟨hfz5_0, hfz5_1⟩ := frz2 BK162.out) | ((with_reducible refine gate_callee (f := 10) rfl ?_); refine goesL_ (some 10) rfl rfl Try.func10 (by kernel_rfl) rfl #[.agg #[.slice A0_0 l0_0.length c0_0, .int .i64 a0_1]] rfl (by (try simp only [zm1, zm2, zm3]); first | done | rfl) ?_; (with_reducible refine (sound_Check.calls k _ _ l0_0 a0_1 t163 _ ?side1 ?side2 A2.out).mono ?_); (case side1 => repeat (first | exact (Kd.C_below HR0_0.out HB.out) | (with_reducible refine Kd.C_alloc ?_ _) | (with_reducible refine Kd.C_drewN ?_ _) | (with_reducible refine Kd.C_drew ?_))); (case side2 => exact HC0_0.out); rintro e w6 ⟨rfl, hb⟩; refine ⟨_, rfl, ?_⟩; have n0_ := Aside0.mk (bb hb BK162.out); have n1_ := Aside0.mk (below_step (by repeat (first | (with_reducible first | exact HB.out | apply below_alloc | apply pw_below_drewN | apply below_drew1 | refine below_set ?_ GE162.out) | exact HB.out)) hb); clear BK162; clear HB; have BK162 := n0_; have HB := n1_; clear n0_ n1_; (try clear hb); (try clear hb2); (try clear hk); (try clear hi); obtain ⟨hcz7_0, hcz7_1⟩ := blk2 BK162.out; obtain ⟨hfz7_0, hfz7_1⟩ := frz2 BK162.out))
  go_loopg [5, 17] k (fun kq v5 v17 w' => ∃ (x5_1 : List (List Int)) (x17_1 : Int), v17 = .int .i64 x17_1 ∧ Aside0 (sound_Heights.l0 kq x5_1 (l0_0.length : Int) x17_1 l0_0 a0_1 = some (r1, r2)) ∧ Aside0 (kq ≤ k) ∧ Aside0 (Kd.S (Kd.slice 3 (Kd.int .i64)) 36 w' w.heap.size (fun _ => True) v5 x5_1) ∧ Aside0 (w'.heap[gb162]? = some (.cells #[(.slice A0_0 l0_0.length c0_0), .int .i64 a0_1] 24 (0, 0))) ∧ Aside0 (Below w.heap.size w w'))
  case atStart => exact ⟨(([] : List (List Int))), (0), (by first | rfl | (simp; done) | (simp [*]; done)), H', ⟨Nat.le_refl _⟩, ⟨by first | exact Kd.S_nil _ _ _ _ _ | exact Kd.N_nil _ _ _ _ _ | exact Kd.V_nil _ _ _ _ _ | exact Kd.Q_nil _ _ _ _ _ | exact Kd.R_nil _ _ _ _ _⟩, ⟨BK162.out⟩, ⟨by repeat (first | (with_reducible first | exact HB.out | apply below_alloc | apply pw_below_drewN | apply below_drew1 | refine below_set ?_ GE162.out) | exact HB.out)⟩⟩
  case round =>
   clear H'
   try clear c1; try clear p2; try clear c3; try clear c3b0; try clear c3b1; try clear hcz5_0; try clear hcz5_1; try clear hcz7_0
   try clear hcz7_1; try clear hfz5_0; try clear hfz5_1; try clear hfz7_0; try clear hfz7_1
   obtain ⟨x5_1, x17_1, rfl, HA, HK1, HO_5, BK162, HB⟩ := hrel
   cases gk with
   | zero => exact absurd HA.out (by simp [sound_Heights.l0])
   | succ k1 =>
    have H := HA.out
    clear HA
    simp only [sound_Heights.l0] at H
    by_cases c8 : x17_1 < (l0_0.length : Int)
    ·rw [if_pos c8] at H
     have c8b0 : decide (x17_1 < (l0_0.length : Int)) = true := decide_eq_true c8
     clear c8
     replace H := Option.bind_eq_some_iff.mp H
     obtain ⟨⟨t164, t167⟩, A90, H⟩ := H
     replace H : (if x5_1.length < 5864062014805 then (sound_Heights.l0 k1 (x5_1 ++ [t164]) (l0_0.length : Int) (wrap64 (x17_1 + 1)) l0_0 a0_1) else (none)) = some (r1, r2) := H
     have A9 := Aside0.mk A90
     clear A90
     by_cases c10 : x5_1.length < 5864062014805
     ·rw [if_pos c10] at H
      have LMc10 := Aside0.mk c10
      clear c10
      obtain ⟨y168, hy168⟩ : ∃ y_ : List (List Int), y_ = (x5_1 ++ [t164]) := ⟨_, rfl⟩
      replace H : (sound_Heights.l0 k1 y168 (l0_0.length : Int) (wrap64 (x17_1 + 1)) l0_0 a0_1) = some (r1, r2) := by first | (rw [hy168]; with_reducible exact H) | (have H2_ := (Option.bind_some _ _).symm.trans H; rw [hy168]; with_reducible exact H2_) | (have H2_ := (Option.bind_some _ _).symm.trans H; with_reducible exact H2_) | with_reducible exact H | (rw [hy168]; exact H) | exact H
      have Ny168 := Aside0.mk hy168
      clear hy168
      have H' := Aside0.mk H
      clear H
      obtain ⟨hcz11_0, hcz11_1⟩ := blk2 BK162.out
      obtain ⟨hfz11_0, hfz11_1⟩ := frz2 BK162.out
      go_wp2_with (first | ((with_reducible refine gate_callee (f := 39) rfl ?_); refine goesL_ (some 23) rfl rfl Try.func39 (by kernel_rfl) rfl #[.agg #[.slice A0_0 l0_0.length c0_0, .int .i64 a0_1], .int .i64 x17_1] rfl (by (try simp only [zm1, zm2, zm3]); first | done | rfl) ?_; (with_reducible refine (sound_heights.calls k1 _ _ l0_0 a0_1 x17_1 t164 t167 _ ?side1 ?side2 A9.out).mono ?_); (case side1 => repeat (first | exact (Kd.C_below HR0_0.out HB.out) | (with_reducible refine Kd.C_alloc ?_ _) | (with_reducible refine Kd.C_drewN ?_ _) | (with_reducible refine Kd.C_drew ?_))); (case side2 => exact HC0_0.out); rintro e w12 ⟨v165, rfl, ho0, hb⟩; refine ⟨_, rfl, ?_⟩; have n0_ := Aside0.mk (Kd.S_elder' (by (with_reducible repeat (first | apply Kd.S_alloc | apply Kd.S_drewN | apply Kd.S_drew)); exact HO_5.out) (Kd.R_base ho0) hb); have n1_ := Aside0.mk (Kd.R_lower ho0 (below_size (by repeat (first | (with_reducible first | exact HB.out | apply below_alloc | apply pw_below_drewN | apply below_drew1 | refine below_set ?_ GE162.out) | exact HB.out)))); have n2_ := Aside0.mk (bb hb BK162.out); have n3_ := Aside0.mk (below_step (by repeat (first | (with_reducible first | exact HB.out | apply below_alloc | apply pw_below_drewN | apply below_drew1 | refine below_set ?_ GE162.out) | exact HB.out)) hb); clear HO_5; clear BK162; clear HB; have HO_5 := n0_; have HO166 := n1_; have BK162 := n2_; have HB := n3_; clear n0_ n1_ n2_ n3_; (try clear hb); (try clear hb2); (try clear hk); (try clear hi); (try clear ho0); obtain ⟨Ao14, co14, eo14⟩ := Kd.R_slice HO166.out; subst eo14) | ((with_reducible refine gate_builtin (b := .append) (xs := #[.tmp 26, .tmp 28]) rfl ?_); at_builtin; refine Kd.S_append (Kd.slice 3 (Kd.int .i64)) (w0 := w) w.heap.size rfl (.tmp 26) (.tmp 28) 30 36 (.slice none 0 0) 24 rfl Try.underlying30 info36 rfl (by decide) (by omega) u5 x5_1 t164 [.slice Ao14 t164.length co14] (fun _ => True) (fun k_ => some k_ = (.slice Ao14 t164.length co14 : Value).ownBlock) rfl rfl ?aP (fun k_ hk_ => ((Kd.R_mono (ok' := fun k_ => ((fun _ => True)) k_ ∧ some k_ ≠ (u5 : Value).ownBlock) (Kd.R_apart' (HO166.out) (Kd.S_typed HO_5.out) (by decide)) (fun k_ hk => ⟨trivial, hk.2⟩))).1 k_ hk_.symm) ?aF ?aO ?aB ?aS ?aL ?_; (case aP => exact Kd.M_row (Kd.R_mono (Kd.R_tight rfl (Kd.R_mono (ok' := fun k_ => ((fun _ => True)) k_ ∧ some k_ ≠ (u5 : Value).ownBlock) (Kd.R_apart' (HO166.out) (Kd.S_typed HO_5.out) (by decide)) (fun k_ hk => ⟨trivial, hk.2⟩))) (fun _ h_ => h_))); (case aB => exact (by repeat (first | (with_reducible first | exact HB.out | apply below_alloc | apply pw_below_drewN | apply below_drew1 | refine below_set ?_ GE162.out) | exact HB.out))); (case aF => exact (fun _ _ => trivial)); (case aO => exact (by (with_reducible repeat (first | apply Kd.S_alloc | apply Kd.S_drewN | apply Kd.S_drew)); exact Kd.S_mono HO_5.out (fun k_ hk => ⟨trivial, fun e_ => hk.2 e_⟩))); (case aS => exact (below_size (by repeat (first | (with_reducible first | exact HB.out | apply below_alloc | apply pw_below_drewN | apply below_drew1 | refine below_set ?_ GE162.out) | exact HB.out)))); (case aL => have := LMc10.out; omega); intro v169 w13 ho hb hg hat; rw [← Ny168.out] at ho; have n0_ := Aside0.mk (blk_grown (g := gb162) (o := .cells #[.slice A0_0 l0_0.length c0_0, .int .i64 a0_1] 24 (0, 0)) (by (with_reducible repeat (first | refine blk_drewN ?_ _ | refine blk_drew ?_ | refine blk_alloc ?_ _)); exact BK162.out) hg (Kd.S_ne HO_5.out BK162.out (by decide))); have n1_ := Aside0.mk (hb); have n2_ := Aside0.mk (ho); clear BK162; clear HB; clear HO_5; clear HO166; have BK162 := n0_; have HB := n1_; have HO170 := n2_; clear n0_ n1_ n2_; clear ho hb hg hat))
      go_roundg k1
      case measure => have := HK1.out; omega
      case rel => exact ⟨(y168), (wrap64 (x17_1 + 1)), (by first | rfl | (simp; done) | (simp [*]; done)), H', ⟨by have := HK1.out; omega⟩, ⟨by (with_reducible repeat (first | apply Kd.S_alloc | apply Kd.S_drewN | apply Kd.S_drew)); exact HO170.out⟩, ⟨BK162.out⟩, ⟨by repeat (first | (with_reducible first | exact HB.out | apply below_alloc | apply pw_below_drewN | apply below_drew1 | refine below_set ?_ GE162.out) | exact HB.out)⟩⟩
     ·rw [if_neg c10] at H
      exact absurd H (by simp)
    ·rw [if_neg c8] at H
     have c8b0 : decide (x17_1 < (l0_0.length : Int)) = false := decide_eq_false c8
     clear c8
     simp only [Option.some.injEq, Prod.mk.injEq] at H
     obtain ⟨rfl, rfl⟩ := H
     go_wp2
     go_ret2
     exact ⟨_, by first | rfl | (simp [errW_none, errW_some] <;> rfl) | (simp [*, errW_none, errW_some] <;> rfl), by (with_reducible repeat (first | apply Kd.S_alloc | apply Kd.S_drewN | apply Kd.S_drew)); exact HO_5.out, by repeat (first | (with_reducible first | exact HB.out | apply below_alloc | apply pw_below_drewN | apply below_drew1 | refine below_set ?_ GE162.out) | exact HB.out)⟩
 ·rw [if_neg c3] at H
  have c3b0 : (t163 == 0) = false := beq_eq_false_iff_ne.mpr c3
  have c3b1 : (t163 != 0) = true := bne_iff_ne.mpr c3
  simp only [Option.some.injEq, Prod.mk.injEq] at H
  obtain ⟨rfl, rfl⟩ := H
  go_enter Try.func9, Try.ntmps9
  go_wp2_with (first | ((with_reducible refine gate_dst (N := 1) rfl ?_); refine box_event ?hg (N := 1) ?hd (cs := #[.slice A0_0 l0_0.length c0_0, .int .i64 a0_1]) (t := 24) ?hr ?_; (case hd => rfl); (case hg => rfl); (case hr => first | (go_simp; done) | (go_simp; rfl)); intro gb162 hg w15 hbox hb; have n0_ := Aside0.mk (below_step (by repeat (first | (with_reducible first | exact HB.out | apply below_alloc | apply pw_below_drewN | apply below_drew1) | exact HB.out)) hb); have n1_ := Aside0.mk (hbox); have n2_ := Aside0.mk ((by rw [hg]; exact (below_size (by repeat (first | (with_reducible first | exact HB.out | apply below_alloc | apply pw_below_drewN | apply below_drew1) | exact HB.out))) : w.heap.size ≤ gb162)); have n3_ := Aside0.mk ((by rw [hg]; exact (below_size (by repeat (first | (with_reducible first | exact HB.out | apply below_alloc | apply pw_below_drewN | apply below_drew1) | exact HB.out))) : w.heap.size ≤ gb162)); clear HB; have HB := n0_; have BK162 := n1_; have GW162 := n2_; have GE162 := n3_; clear n0_ n1_ n2_ n3_; clear hb hbox hg; obtain ⟨hcz16_0, hcz16_1⟩ := blk2 BK162.out; obtain ⟨hfz16_0, hfz16_1⟩ := frz2 BK162.out) | ((with_reducible refine gate_callee (f := 10) rfl ?_); refine goesL_ (some 10) rfl rfl Try.func10 (by kernel_rfl) rfl #[.agg #[.slice A0_0 l0_0.length c0_0, .int .i64 a0_1]] rfl (by (try simp only [zm1, zm2, zm3]); first | done | rfl) ?_; (with_reducible refine (sound_Check.calls k _ _ l0_0 a0_1 t163 _ ?side1 ?side2 A2.out).mono ?_); (case side1 => repeat (first | exact (Kd.C_below HR0_0.out HB.out) | (with_reducible refine Kd.C_alloc ?_ _) | (with_reducible refine Kd.C_drewN ?_ _) | (with_reducible refine Kd.C_drew ?_))); (case side2 => exact HC0_0.out); rintro e w17 ⟨rfl, hb⟩; refine ⟨_, rfl, ?_⟩; have n0_ := Aside0.mk (bb hb BK162.out); have n1_ := Aside0.mk (below_step (by repeat (first | (with_reducible first | exact HB.out | apply below_alloc | apply pw_below_drewN | apply below_drew1 | refine below_set ?_ GE162.out) | exact HB.out)) hb); clear BK162; clear HB; have BK162 := n0_; have HB := n1_; clear n0_ n1_; (try clear hb); (try clear hb2); (try clear hk); (try clear hi)))
  go_ret2
  exact ⟨_, by first | rfl | (simp [errW_none, errW_some] <;> rfl) | (simp [*, errW_none, errW_some] <;> rfl), by first | exact Kd.S_nil _ _ _ _ _ | exact Kd.N_nil _ _ _ _ _ | exact Kd.V_nil _ _ _ _ _ | exact Kd.Q_nil _ _ _ _ _ | exact Kd.R_nil _ _ _ _ _, by repeat (first | (with_reducible first | exact HB.out | apply below_alloc | apply pw_below_drewN | apply below_drew1 | refine below_set ?_ GE162.out) | exact HB.out)⟩

/-! ### tourref5_opOf: function 41 -/
-- making
def tourref5_opOf.tab (x : Int) : Option (Int × Int × Int) := if x = 1 then some (0, 1, 0) else if x = 2 then some (0, 1, -1) else if x = 3 then some (1, 0, -1) else if x = 4 then some (1, 0, 1) else if x = 5 then some (1, 1, 1) else if x = 6 then some (1, 1, 1) else if x = 15 then some (0, 0, -1) else if x = 16 then some (1, 0, -1) else if x = 17 then some (0, 1, -1) else if x = 18 then some (1, 0, 1) else if x = 19 then some (1, 0, 1) else if x = 20 then some (0, 1, 128) else none
def tourref5_opOf.low (a : Int) : Int := Go.bits .and .i64 a 7
def tourref5_opOf.pops (l0_0 : List S29) (d a p : Int) : Int := if d = 17 ∧ 0 ≤ a ∧ a < (l0_0.length : Int) then (rd_T29 l0_0 a).f0 else if d = 20 then tourref5_opOf.low a else p
def tourref5_opOf.lim (l0_0 : List S29) (a1_1 : Int) (l1_2 : List S26) (d q : Int) : Int := if d = 2 ∨ d = 3 then a1_1 else if d = 15 ∨ d = 16 then (l1_2.length : Int) else if d = 17 then (l0_0.length : Int) else q
def tourref5_opOf.f (l0_0 : List S29) (_a0_1 : Int) (_a1_0 : Int) (a1_1 : Int) (l1_2 : List S26) (a2_0 : Int) (a2_1 : Int) : Option (Int × Int × Int × Bool) := match tourref5_opOf.tab a2_0 with | none => some (2, 1, 1, decide (7 ≤ a2_0 ∧ a2_0 ≤ 14)) | some x => some (tourref5_opOf.pops l0_0 a2_0 a2_1 x.1, x.2.1, tourref5_opOf.lim l0_0 a1_1 l1_2 a2_0 x.2.2, true)
def tourref5_opOf.es : Array MapEntry := #[⟨.int .i64 1, .agg #[.int .i64 0, .int .i64 1, .int .i64 0], 0⟩, ⟨.int .i64 2, .agg #[.int .i64 0, .int .i64 1, .int .i64 (-1)], 1⟩, ⟨.int .i64 3, .agg #[.int .i64 1, .int .i64 0, .int .i64 (-1)], 2⟩, ⟨.int .i64 4, .agg #[.int .i64 1, .int .i64 0, .int .i64 1], 3⟩, ⟨.int .i64 5, .agg #[.int .i64 1, .int .i64 1, .int .i64 1], 4⟩, ⟨.int .i64 6, .agg #[.int .i64 1, .int .i64 1, .int .i64 1], 5⟩, ⟨.int .i64 15, .agg #[.int .i64 0, .int .i64 0, .int .i64 (-1)], 6⟩, ⟨.int .i64 16, .agg #[.int .i64 1, .int .i64 0, .int .i64 (-1)], 7⟩, ⟨.int .i64 17, .agg #[.int .i64 0, .int .i64 1, .int .i64 (-1)], 8⟩, ⟨.int .i64 18, .agg #[.int .i64 1, .int .i64 0, .int .i64 1], 9⟩, ⟨.int .i64 19, .agg #[.int .i64 1, .int .i64 0, .int .i64 1], 10⟩, ⟨.int .i64 20, .agg #[.int .i64 0, .int .i64 1, .int .i64 128], 11⟩]
theorem tourref5_opOf.results {fn : Func} {t u v x : Tmp} (h : fn.results = #[.tmp t, .tmp u, .tmp v, .tmp x]) (tmps : Array Value) (P : Program) (w : World) :
  (Go.results fn tmps).run P w = .ok (.tuple #[tmps.getD t undef, tmps.getD u undef, tmps.getD v undef, tmps.getD x undef]) w := by
 simp [Go.results, h]
theorem tourref5_opOf.ins {P : Program} {w : World} {b : Nat} {es : Array MapEntry} {clock : Nat} {t k e : TypeId} (ht : P.underlying t = some (.map k e)) (hk : P.underlying k = some (.int .i64)) (hb : w.heap[b]? = some (.map es clock)) (x : Int) (v : Value)
  (hf : Instr.findNow (.int .i64) (.int .i64 x) es.toList 0 = some none) : (Instr.mapUpdate t (.map (some b)) (.int .i64 x) v).run P w = .ok () { w with heap := w.heap.setIfInBounds b (.map (es.push ⟨.int .i64 x, v, clock⟩) (clock + 1)) } := by
 have hc : (Instr.checkKey false 10000 k (.int .i64 x)).run P w = .ok () w := MapKept.run_checkKey (k := .int .i64 x) hk (by simp [MapKept.IsKey]) false 9999
 simp [Instr.mapUpdate, run_underlying ht, MapKept.run_getObj_map hb, hc, MapKept.run_findKey hk hf, MapKept.run_setObj_map _ hb, Result.andThen]
theorem tourref5_opOf.step {P : Program} {w0 w : World} {n b : Nat} {es : Array MapEntry} {clock : Nat} {t k e : TypeId} (ht : P.underlying t = some (.map k e)) (hk : P.underlying k = some (.int .i64)) (h : Below n w0 w) (hn : n ≤ b) (hb : w.heap[b]? = some (.map es clock)) (x : Int) (v : Value)
  (hf : Instr.findNow (.int .i64) (.int .i64 x) es.toList 0 = some none) : ∃ w', (Instr.mapUpdate t (.map (some b)) (.int .i64 x) v).run P w = .ok () w' ∧ w'.heap[b]? = some (.map (es.push ⟨.int .i64 x, v, clock⟩) (clock + 1)) ∧ Below n w0 w' := by
 refine ⟨_, tourref5_opOf.ins ht hk hb x v hf, ?_, ⟨h.os, h.tape, h.output, by simpa using h.size, fun i hi => ?_⟩⟩
 ·have := (Array.getElem?_eq_some_iff.1 hb).1
  simp [this]
 ·simp only
  rw [Array.getElem?_setIfInBounds_ne (by omega)]
  exact h.block i hi
theorem tourref5_opOf.look {P : Program} {w : World} {b : Nat} {es : Array MapEntry} {clock : Nat} {t k e : TypeId} (ht : P.underlying t = some (.map k e)) (hk : P.underlying k = some (.int .i64)) (hb : w.heap[b]? = some (.map es clock)) (x : Int) (v : Value) (ok : Bool) (z : Value)
  (hz : (zeroValue e).run P w = .ok z w) (hf : (∃ i, Instr.findNow (.int .i64) (.int .i64 x) es.toList 0 = some (some (i, v))) ∧ ok = true ∨ Instr.findNow (.int .i64) (.int .i64 x) es.toList 0 = some none ∧ v = z ∧ ok = false) : (Instr.lookup t (.map (some b)) (.int .i64 x) true).run P w = .ok (.tuple #[v, .bool ok]) w := by
 have hc : (Instr.checkKey es.isEmpty 10000 k (.int .i64 x)).run P w = .ok () w := MapKept.run_checkKey (k := .int .i64 x) hk (by simp [MapKept.IsKey]) _ 9999
 rcases hf with ⟨⟨i, hf⟩, rfl⟩ | ⟨hf, rfl, rfl⟩
 ·simp [Instr.lookup, run_underlying ht, MapKept.run_getObj_map hb, hc, MapKept.run_findKey hk hf, Result.andThen]
 ·simp [Instr.lookup, run_underlying ht, MapKept.run_getObj_map hb, hc, MapKept.run_findKey hk hf, Result.andThen, hz]
/-- The whole literal. -/
theorem tourref5_opOf.lit {P : Program} (w : World) {t k e : TypeId} (ht : P.underlying t = some (.map k e)) (hk : P.underlying k = some (.int .i64)) : ∃ w1 w2 w3 w4 w5 w6 w7 w8 w9 w10 w11 w12 : World,
  (Instr.mapUpdate t (.map (some w.heap.size)) (.int .i64 1) (.agg #[.int .i64 0, .int .i64 1, .int .i64 0])).run P (w.alloc (.map #[] 0)) = .ok () w1 ∧
  (Instr.mapUpdate t (.map (some w.heap.size)) (.int .i64 2) (.agg #[.int .i64 0, .int .i64 1, .int .i64 (-1)])).run P w1 = .ok () w2 ∧
  (Instr.mapUpdate t (.map (some w.heap.size)) (.int .i64 3) (.agg #[.int .i64 1, .int .i64 0, .int .i64 (-1)])).run P w2 = .ok () w3 ∧
  (Instr.mapUpdate t (.map (some w.heap.size)) (.int .i64 4) (.agg #[.int .i64 1, .int .i64 0, .int .i64 1])).run P w3 = .ok () w4 ∧
  (Instr.mapUpdate t (.map (some w.heap.size)) (.int .i64 5) (.agg #[.int .i64 1, .int .i64 1, .int .i64 1])).run P w4 = .ok () w5 ∧
  (Instr.mapUpdate t (.map (some w.heap.size)) (.int .i64 6) (.agg #[.int .i64 1, .int .i64 1, .int .i64 1])).run P w5 = .ok () w6 ∧
  (Instr.mapUpdate t (.map (some w.heap.size)) (.int .i64 15) (.agg #[.int .i64 0, .int .i64 0, .int .i64 (-1)])).run P w6 = .ok () w7 ∧
  (Instr.mapUpdate t (.map (some w.heap.size)) (.int .i64 16) (.agg #[.int .i64 1, .int .i64 0, .int .i64 (-1)])).run P w7 = .ok () w8 ∧
  (Instr.mapUpdate t (.map (some w.heap.size)) (.int .i64 17) (.agg #[.int .i64 0, .int .i64 1, .int .i64 (-1)])).run P w8 = .ok () w9 ∧
  (Instr.mapUpdate t (.map (some w.heap.size)) (.int .i64 18) (.agg #[.int .i64 1, .int .i64 0, .int .i64 1])).run P w9 = .ok () w10 ∧
  (Instr.mapUpdate t (.map (some w.heap.size)) (.int .i64 19) (.agg #[.int .i64 1, .int .i64 0, .int .i64 1])).run P w10 = .ok () w11 ∧
  (Instr.mapUpdate t (.map (some w.heap.size)) (.int .i64 20) (.agg #[.int .i64 0, .int .i64 1, .int .i64 128])).run P w11 = .ok () w12 ∧
  w12.heap[w.heap.size]? = some (.map tourref5_opOf.es 12) ∧ Below w.heap.size w w12 := by
 have h0 : (w.alloc (.map #[] 0)).heap[w.heap.size]? = some (.map #[] 0) := heap_alloc_new w _
 have b0 : Below w.heap.size w (w.alloc (.map #[] 0)) := below_alloc (Below.refl _ _) _
 obtain ⟨w1, i1, h1, b1⟩ := tourref5_opOf.step ht hk b0 (Nat.le_refl _) h0 1 (.agg #[.int .i64 0, .int .i64 1, .int .i64 0]) (by rfl)
 obtain ⟨w2, i2, h2, b2⟩ := tourref5_opOf.step ht hk b1 (Nat.le_refl _) h1 2 (.agg #[.int .i64 0, .int .i64 1, .int .i64 (-1)]) (by rfl)
 obtain ⟨w3, i3, h3, b3⟩ := tourref5_opOf.step ht hk b2 (Nat.le_refl _) h2 3 (.agg #[.int .i64 1, .int .i64 0, .int .i64 (-1)]) (by rfl)
 obtain ⟨w4, i4, h4, b4⟩ := tourref5_opOf.step ht hk b3 (Nat.le_refl _) h3 4 (.agg #[.int .i64 1, .int .i64 0, .int .i64 1]) (by rfl)
 obtain ⟨w5, i5, h5, b5⟩ := tourref5_opOf.step ht hk b4 (Nat.le_refl _) h4 5 (.agg #[.int .i64 1, .int .i64 1, .int .i64 1]) (by rfl)
 obtain ⟨w6, i6, h6, b6⟩ := tourref5_opOf.step ht hk b5 (Nat.le_refl _) h5 6 (.agg #[.int .i64 1, .int .i64 1, .int .i64 1]) (by rfl)
 obtain ⟨w7, i7, h7, b7⟩ := tourref5_opOf.step ht hk b6 (Nat.le_refl _) h6 15 (.agg #[.int .i64 0, .int .i64 0, .int .i64 (-1)]) (by rfl)
 obtain ⟨w8, i8, h8, b8⟩ := tourref5_opOf.step ht hk b7 (Nat.le_refl _) h7 16 (.agg #[.int .i64 1, .int .i64 0, .int .i64 (-1)]) (by rfl)
 obtain ⟨w9, i9, h9, b9⟩ := tourref5_opOf.step ht hk b8 (Nat.le_refl _) h8 17 (.agg #[.int .i64 0, .int .i64 1, .int .i64 (-1)]) (by rfl)
 obtain ⟨w10, i10, h10, b10⟩ := tourref5_opOf.step ht hk b9 (Nat.le_refl _) h9 18 (.agg #[.int .i64 1, .int .i64 0, .int .i64 1]) (by rfl)
 obtain ⟨w11, i11, h11, b11⟩ := tourref5_opOf.step ht hk b10 (Nat.le_refl _) h10 19 (.agg #[.int .i64 1, .int .i64 0, .int .i64 1]) (by rfl)
 obtain ⟨w12, i12, h12, b12⟩ := tourref5_opOf.step ht hk b11 (Nat.le_refl _) h11 20 (.agg #[.int .i64 0, .int .i64 1, .int .i64 128]) (by rfl)
 exact ⟨w1, w2, w3, w4, w5, w6, w7, w8, w9, w10, w11, w12, i1, i2, i3, i4, i5, i6, i7, i8, i9, i10, i11, i12, h12, b12⟩
theorem tourref5_opOf.find (x : Int) : (∃ i, Instr.findNow (.int .i64) (.int .i64 x) tourref5_opOf.es.toList 0 = some (some (i, .agg #[.int .i64 ((tourref5_opOf.tab x).getD (0, 0, 0)).1, .int .i64 ((tourref5_opOf.tab x).getD (0, 0, 0)).2.1, .int .i64 ((tourref5_opOf.tab x).getD (0, 0, 0)).2.2]))) ∧ (tourref5_opOf.tab x).isSome = true ∨ Instr.findNow (.int .i64) (.int .i64 x) tourref5_opOf.es.toList 0 = some none ∧ (.agg #[.int .i64 ((tourref5_opOf.tab x).getD (0, 0, 0)).1, .int .i64 ((tourref5_opOf.tab x).getD (0, 0, 0)).2.1, .int .i64 ((tourref5_opOf.tab x).getD (0, 0, 0)).2.2] : Value) = .agg #[.int .i64 0, .int .i64 0, .int .i64 0] ∧ (tourref5_opOf.tab x).isSome = false := by
 by_cases c0 : x = 1
 ·subst c0; exact .inl ⟨⟨0, by rfl⟩, by rfl⟩
 by_cases c1 : x = 2
 ·subst c1; exact .inl ⟨⟨1, by rfl⟩, by rfl⟩
 by_cases c2 : x = 3
 ·subst c2; exact .inl ⟨⟨2, by rfl⟩, by rfl⟩
 by_cases c3 : x = 4
 ·subst c3; exact .inl ⟨⟨3, by rfl⟩, by rfl⟩
 by_cases c4 : x = 5
 ·subst c4; exact .inl ⟨⟨4, by rfl⟩, by rfl⟩
 by_cases c5 : x = 6
 ·subst c5; exact .inl ⟨⟨5, by rfl⟩, by rfl⟩
 by_cases c6 : x = 15
 ·subst c6; exact .inl ⟨⟨6, by rfl⟩, by rfl⟩
 by_cases c7 : x = 16
 ·subst c7; exact .inl ⟨⟨7, by rfl⟩, by rfl⟩
 by_cases c8 : x = 17
 ·subst c8; exact .inl ⟨⟨8, by rfl⟩, by rfl⟩
 by_cases c9 : x = 18
 ·subst c9; exact .inl ⟨⟨9, by rfl⟩, by rfl⟩
 by_cases c10 : x = 19
 ·subst c10; exact .inl ⟨⟨10, by rfl⟩, by rfl⟩
 by_cases c11 : x = 20
 ·subst c11; exact .inl ⟨⟨11, by rfl⟩, by rfl⟩
 have e : tourref5_opOf.tab x = none := by unfold tourref5_opOf.tab; rw [if_neg c0, if_neg c1, if_neg c2, if_neg c3, if_neg c4, if_neg c5, if_neg c6, if_neg c7, if_neg c8, if_neg c9, if_neg c10, if_neg c11]
 refine .inr ⟨?_, by rw [e]; rfl, by rw [e]; rfl⟩
 simp only [tourref5_opOf.es, Instr.findNow, Instr.sameNow, if_true, show (x == 1) = false from beq_eq_false_iff_ne.mpr c0, show (x == 2) = false from beq_eq_false_iff_ne.mpr c1, show (x == 3) = false from beq_eq_false_iff_ne.mpr c2, show (x == 4) = false from beq_eq_false_iff_ne.mpr c3, show (x == 5) = false from beq_eq_false_iff_ne.mpr c4, show (x == 6) = false from beq_eq_false_iff_ne.mpr c5, show (x == 15) = false from beq_eq_false_iff_ne.mpr c6, show (x == 16) = false from beq_eq_false_iff_ne.mpr c7, show (x == 17) = false from beq_eq_false_iff_ne.mpr c8, show (x == 18) = false from beq_eq_false_iff_ne.mpr c9, show (x == 19) = false from beq_eq_false_iff_ne.mpr c10, show (x == 20) = false from beq_eq_false_iff_ne.mpr c11]
set_option maxHeartbeats 8000000 in
set_option maxRecDepth 100000 in
theorem tourref5_opOf.calls (A0_0 : Option Addr) (c0_0 : Nat) (l0_0 : List S29) (a0_1 : Int) (a1_0 : Int) (a1_1 : Int) (A1_2 : Option Addr) (c1_2 : Nat) (l1_2 : List S26) (a2_0 : Int) (a2_1 : Int) (r1 : Int) (r2 : Int) (r3 : Int) (r4 : Bool) (w : World) (hr0_0 : Kd.C k29 w A0_0 l0_0.length l0_0) (_hc0_0 : l0_0.length ≤ c0_0) (_hr1_2 : Kd.C k26 w A1_2 l1_2.length l1_2) (_hc1_2 : l1_2.length ≤ c1_2) (h : tourref5_opOf.f l0_0 a0_1 a1_0 a1_1 l1_2 a2_0 a2_1 = some (r1, r2, r3, r4)) :
  Calls Try.prog 41 #[.agg #[.slice A0_0 l0_0.length c0_0, .int .i64 a0_1], .agg #[.int .i64 a1_0, .int .i64 a1_1, .slice A1_2 l1_2.length c1_2], .agg #[.int .i64 a2_0, .int .i64 a2_1]] w fun e w' => e = .returned (.tuple #[.int .i64 r1, .int .i64 r2, .int .i64 r3, .bool r4]) ∧ Below w.heap.size w w' := by
 have hu1 := Try.underlying24
 have hu2 := Try.underlying29
 have hu3 := Try.underlying26
 have hu4 := Try.underlying70
 have hmm := @run_makeMap Try.prog
 have HR := Aside0.mk hr0_0
 have H := Aside0.mk h
 clear hr0_0 h
 go_enter Try.func41, Try.ntmps41
 go_upto_region 0 with fail
 go_cut [3, 4, 5] (fun v3 v4 v5 w' => ∃ g3 g4 g5 : Nat, v3 = .pointer (some ⟨g3, 0, none⟩) ∧ v4 = .pointer (some ⟨g4, 0, none⟩) ∧ v5 = .pointer (some ⟨g5, 0, none⟩) ∧ w'.heap[g3]? = some (.cells #[.slice A0_0 l0_0.length c0_0, .int .i64 a0_1] 24 (0, 0)) ∧ w'.heap[g4]? = some (.cells #[.int .i64 a1_0, .int .i64 a1_1, .slice A1_2 l1_2.length c1_2] 29 (0, 0)) ∧ w'.heap[g5]? = some (.cells #[.int .i64 a2_0, .int .i64 a2_1] 26 (0, 0)) ∧ Below w.heap.size w w')
 case first =>
  go_wp2_with fail
  go_meet
  exact ⟨_, _, _, rfl, rfl, rfl, blk_alloc (blk_alloc (blk_new _ _) _) _, (by have h := blk_alloc (blk_new (w.alloc (.cells #[.slice A0_0 l0_0.length c0_0, .int .i64 a0_1] 24 (0, 0))) (.cells #[.int .i64 a1_0, .int .i64 a1_1, .slice A1_2 l1_2.length c1_2] 29 (0, 0))) (.cells #[.int .i64 a2_0, .int .i64 a2_1] 26 (0, 0)); simp only [World.alloc, Array.size_push] at h ⊢; exact h), (by have h := blk_new ((w.alloc (.cells #[.slice A0_0 l0_0.length c0_0, .int .i64 a0_1] 24 (0, 0))).alloc (.cells #[.int .i64 a1_0, .int .i64 a1_1, .slice A1_2 l1_2.length c1_2] 29 (0, 0))) (.cells #[.int .i64 a2_0, .int .i64 a2_1] 26 (0, 0)); simp only [World.alloc, Array.size_push] at h ⊢; exact h), below_alloc (below_alloc (below_alloc (Below.refl _ _) _) _) _⟩
 case rest =>
  obtain ⟨g3, g4, g5, rfl, rfl, rfl, B3, B4, B5, hb⟩ := hcut
  replace B3 := Aside0.mk B3
  replace B4 := Aside0.mk B4
  replace B5 := Aside0.mk B5
  have HB := Aside0.mk hb
  clear hb
  go_upto_region 1 with fail
  go_cut [10] (fun v10 w' => ∃ b : Nat, v10 = .map (some b) ∧ w'.heap[b]? = some (.map tourref5_opOf.es 12) ∧ Below wc.heap.size wc w')
  case first =>
   obtain ⟨w1, w2, w3, w4, w5, w6, w7, w8, w9, w10, w11, w12, h1, h2, h3, h4, h5, h6, h7, h8, h9, h10, h11, h12, hm, hb⟩ := tourref5_opOf.lit (P := Try.prog) wc (t := 131) (k := 3) (e := 70) Try.underlying131 Try.underlying3
   replace hm := Aside0.mk hm
   replace hb := Aside0.mk hb
   go_wp2_with fail
   go_meet
   exact ⟨_, rfl, hm.out, hb.out⟩
  case rest =>
   obtain ⟨b, rfl, hm, hb⟩ := hcut
   replace B3 := Aside0.mk (blk_below B3.out hb)
   replace B4 := Aside0.mk (blk_below B4.out hb)
   replace B5 := Aside0.mk (blk_below B5.out hb)
   replace HB := Aside0.mk (below_step HB.out hb)
   clear hb hmm
   have hl := tourref5_opOf.look (P := Try.prog) (t := 131) (k := 3) (e := 70) Try.underlying131 Try.underlying3 hm a2_0 _ _ (.agg #[.int .i64 0, .int .i64 0, .int .i64 0]) (by kernel_rfl) (tourref5_opOf.find a2_0)
   clear hm
   generalize hx : (tourref5_opOf.tab a2_0).getD (0, 0, 0) = x at hl
   generalize hk : (tourref5_opOf.tab a2_0).isSome = ok at hl
   replace hx := Aside0.mk hx
   replace hk := Aside0.mk hk
   have o0 : wc.cell? ⟨g5, 0, none⟩ = some (.int .i64 a2_0) := (blk_cell B5.out 0).trans rfl
   go_upto_region 2 with fail
   go_cut [9, 11] (fun v9 v11 w' => ∃ g : Nat, v9 = .bool ok ∧ v11 = .pointer (some ⟨g, 0, none⟩) ∧ w'.heap[g]? = some (.cells #[.int .i64 x.1, .int .i64 x.2.1, .int .i64 x.2.2] 70 (0, 0)) ∧ Below wc.heap.size wc w')
   case first =>
    go_wp2_with fail
    go_meet
    exact ⟨_, rfl, rfl, blk_new _ _, below_alloc (Below.refl _ _) _⟩
   case rest =>
    obtain ⟨g, rfl, rfl, B, hb⟩ := hcut
    replace B := Aside0.mk B
    replace B3 := Aside0.mk (blk_below B3.out hb)
    replace B4 := Aside0.mk (blk_below B4.out hb)
    replace B5 := Aside0.mk (blk_below B5.out hb)
    replace HB := Aside0.mk (below_step HB.out hb)
    clear hb hl o0
    have o0 : wc.cell? ⟨g5, 0, none⟩ = some (.int .i64 a2_0) := (blk_cell B5.out 0).trans rfl
    have o1 : wc.cell? ⟨g5, 1, none⟩ = some (.int .i64 a2_1) := (blk_cell B5.out 1).trans rfl
    have f1 : wc.cell? ⟨g4, 1, none⟩ = some (.int .i64 a1_1) := (blk_cell B4.out 1).trans rfl
    have f2 : wc.cell? ⟨g4, 2, none⟩ = some (.slice A1_2 l1_2.length c1_2) := (blk_cell B4.out 2).trans rfl
    have p0 : wc.cell? ⟨g3, 0, none⟩ = some (.slice A0_0 l0_0.length c0_0) := (blk_cell B3.out 0).trans rfl
    have x0 : wc.cell? ⟨g, 0, none⟩ = some (.int .i64 x.1) := (blk_cell B.out 0).trans rfl
    have x1 : wc.cell? ⟨g, 1, none⟩ = some (.int .i64 x.2.1) := (blk_cell B.out 1).trans rfl
    have x2 : wc.cell? ⟨g, 2, none⟩ = some (.int .i64 x.2.2) := (blk_cell B.out 2).trans rfl
    have H' := H.out
    clear H x0 x1 x2 o0 o1 f1 f2 p0
    unfold tourref5_opOf.f at H'
    cases ok with
    | false =>
     have e : tourref5_opOf.tab a2_0 = none := by have h_ := hk.out; revert h_; cases tourref5_opOf.tab a2_0 <;> simp
     rw [e] at H'
     clear hk hx e
     have H2 := Option.some.inj H'
     clear H'
     injection H2 with h1 h2; injection h2 with h2 h3; injection h3 with h3 h4
     subst h1 h2 h3
     by_cases y0 : a2_0 ≥ 7
     ·by_cases y1 : a2_0 ≤ 14
      ·obtain rfl : true = r4 := by rw [← h4]; exact (decide_eq_true (by omega)).symm
       have y0b : decide (a2_0 ≥ 7) = true := decide_eq_true y0; have y1b : decide (a2_0 ≤ 14) = true := decide_eq_true y1
       clear h4
       go_upto_region 4 with fail
       replace B := Aside0.mk (blk_drew B.out)
       replace B3 := Aside0.mk (blk_drew B3.out)
       replace B4 := Aside0.mk (blk_drew B4.out)
       replace B5 := Aside0.mk (blk_drew B5.out)
       replace HB := Aside0.mk HB.out.drew
       refine start_ (n := 12) (S := fun w' => w'.cell? ⟨g5, 0, none⟩ = some (.int .i64 a2_0)) (ds := []) (ab 12 0) (by kernel_rfl) rfl rfl ((blk_cell B5.out 0).trans rfl) (fun hHeld => ?_)
       generalize wc.drew = wd at B B3 B4 B5 HB hHeld ⊢
       refine pure_ (i := 0) (N := some 35) (v := ?_) (a' := ?_) (ab 12 1) rfl rfl (by kernel_rfl) (fun _ _ _ h => h) (Or.inl ⟨by rfl, ?_⟩) ?_ ?_
       rotate_left
       ·intro w'
        go_simp
        with_reducible rfl
       rotate_left
       ·simp only [Act.put, zq1, zq2, zq3, i64_w, i32_w]
        rfl
       refine take_ (i := 1) (N := some 36) (v := ?_) (a' := ?_) (ab 12 3) rfl rfl (by kernel_rfl) (fun _ _ _ h => h) (Or.inl ⟨by rfl, ?_⟩) hHeld ?_ ?_
       rotate_left
       ·intro w' s0
        go_simp
        with_reducible rfl
       rotate_left
       ·simp only [Act.put, zq1, zq2, zq3, i64_w, i32_w]
        rfl
       refine pure_ (i := 2) (N := some 37) (v := ?_) (a' := ?_) (ab 12 7) rfl rfl (by kernel_rfl) (fun _ _ _ h => h) (Or.inl ⟨by rfl, ?_⟩) ?_ ?_
       rotate_left
       ·intro w'
        go_simp
        with_reducible rfl
       rotate_left
       ·simp only [Act.put, zq1, zq2, zq3, i64_w, i32_w]
        rfl
       refine pure_ (i := 3) (N := some 38) (v := ?_) (a' := ?_) (ab 12 15) rfl rfl (by kernel_rfl) (fun _ _ _ h => h) (Or.inl ⟨by rfl, ?_⟩) ?_ ?_
       rotate_left
       ·intro w'
        go_simp
        with_reducible rfl
       rotate_left
       ·simp only [Act.put, zq1, zq2, zq3, i64_w, i32_w]
        rfl
       refine pure_ (i := 4) (N := some 39) (v := ?_) (a' := ?_) (ab 12 31) rfl rfl (by kernel_rfl) (fun _ _ _ h => h) (Or.inl ⟨by rfl, ?_⟩) ?_ ?_
       rotate_left
       ·intro w'
        go_simp
        with_reducible rfl
       rotate_left
       ·simp only [Act.put, zq1, zq2, zq3, i64_w, i32_w]
        rfl
       refine pure_ (i := 8) (N := some 6) (v := ?_) (a' := ?_) (ab 12 287) rfl rfl (by kernel_rfl) (fun _ _ _ h => h) (Or.inl ⟨by rfl, ?_⟩) ?_ ?_
       rotate_left
       ·intro w'
        go_simp
        with_reducible rfl
       rotate_left
       ·simp only [Act.put, zq1, zq2, zq3, i64_w, i32_w]
        rfl
       refine pure_ (i := 9) (N := some 7) (v := ?_) (a' := ?_) (ab 12 799) rfl rfl (by kernel_rfl) (fun _ _ _ h => h) (Or.inl ⟨by rfl, ?_⟩) ?_ ?_
       rotate_left
       ·intro w'
        go_simp
        with_reducible rfl
       rotate_left
       ·simp only [Act.put, zq1, zq2, zq3, i64_w, i32_w]
        rfl
       refine pure_ (i := 10) (N := some 8) (v := ?_) (a' := ?_) (ab 12 1823) rfl rfl (by kernel_rfl) (fun _ _ _ h => h) (Or.inl ⟨by rfl, ?_⟩) ?_ ?_
       rotate_left
       ·intro w'
        go_simp
        with_reducible rfl
       rotate_left
       ·simp only [Act.put, zq1, zq2, zq3, i64_w, i32_w]
        rfl
       refine take_ (i := 5) (N := some 40) (v := ?_) (a' := ?_) (ab 12 1855) rfl rfl (by kernel_rfl) (fun _ _ _ h => h) (Or.inl ⟨by rfl, ?_⟩) hHeld ?_ ?_
       rotate_left
       ·intro w' s0
        go_simp
        with_reducible rfl
       rotate_left
       ·simp only [Act.put, zq1, zq2, zq3, i64_w, i32_w]
        rfl
       refine pure_ (i := 6) (N := some 41) (v := ?_) (a' := ?_) (ab 12 1919) rfl rfl (by kernel_rfl) (fun _ _ _ h => h) (Or.inl ⟨by rfl, ?_⟩) ?_ ?_
       rotate_left
       ·intro w'
        go_simp
        with_reducible rfl
       rotate_left
       ·simp only [Act.put, zq1, zq2, zq3, i64_w, i32_w]
        rfl
       refine pure_ (i := 7) (N := some 42) (v := ?_) (a' := ?_) (ab 12 2047) rfl rfl (by kernel_rfl) (fun _ _ _ h => h) (Or.inl ⟨by rfl, ?_⟩) ?_ ?_
       rotate_left
       ·intro w'
        go_simp
        with_reducible rfl
       rotate_left
       ·simp only [Act.put, zq1, zq2, zq3, i64_w, i32_w]
        rfl
       refine pure_ (i := 11) (N := some 9) (v := ?_) (a' := ?_) (ab 12 4095) rfl rfl (by kernel_rfl) (fun _ _ _ h => h) (Or.inl ⟨by rfl, ?_⟩) ?_ ?_
       rotate_left
       ·intro w'
        go_simp
        with_reducible rfl
       rotate_left
       ·simp only [Act.put, zq1, zq2, zq3, i64_w, i32_w]
        rfl
       refine done_ (by kernel_rfl) ?_
              
       go_wp2
       (try simp only [Exit.inBlock, Exit.then])
       refine bodyPost_ret (tourref5_opOf.results rfl _ _ _) rfl ?_
       exact ⟨rfl, HB.out⟩
      ·obtain rfl : false = r4 := by rw [← h4]; exact (decide_eq_false (by omega)).symm
       have y0b : decide (a2_0 ≥ 7) = true := decide_eq_true y0; have y1b : decide (a2_0 ≤ 14) = false := decide_eq_false y1
       clear h4
       go_upto_region 4 with fail
       replace B := Aside0.mk (blk_drew B.out)
       replace B3 := Aside0.mk (blk_drew B3.out)
       replace B4 := Aside0.mk (blk_drew B4.out)
       replace B5 := Aside0.mk (blk_drew B5.out)
       replace HB := Aside0.mk HB.out.drew
       refine start_ (n := 12) (S := fun w' => w'.cell? ⟨g5, 0, none⟩ = some (.int .i64 a2_0)) (ds := []) (ab 12 0) (by kernel_rfl) rfl rfl ((blk_cell B5.out 0).trans rfl) (fun hHeld => ?_)
       generalize wc.drew = wd at B B3 B4 B5 HB hHeld ⊢
       refine pure_ (i := 0) (N := some 35) (v := ?_) (a' := ?_) (ab 12 1) rfl rfl (by kernel_rfl) (fun _ _ _ h => h) (Or.inl ⟨by rfl, ?_⟩) ?_ ?_
       rotate_left
       ·intro w'
        go_simp
        with_reducible rfl
       rotate_left
       ·simp only [Act.put, zq1, zq2, zq3, i64_w, i32_w]
        rfl
       refine take_ (i := 1) (N := some 36) (v := ?_) (a' := ?_) (ab 12 3) rfl rfl (by kernel_rfl) (fun _ _ _ h => h) (Or.inl ⟨by rfl, ?_⟩) hHeld ?_ ?_
       rotate_left
       ·intro w' s0
        go_simp
        with_reducible rfl
       rotate_left
       ·simp only [Act.put, zq1, zq2, zq3, i64_w, i32_w]
        rfl
       refine pure_ (i := 2) (N := some 37) (v := ?_) (a' := ?_) (ab 12 7) rfl rfl (by kernel_rfl) (fun _ _ _ h => h) (Or.inl ⟨by rfl, ?_⟩) ?_ ?_
       rotate_left
       ·intro w'
        go_simp
        with_reducible rfl
       rotate_left
       ·simp only [Act.put, zq1, zq2, zq3, i64_w, i32_w]
        rfl
       refine pure_ (i := 3) (N := some 38) (v := ?_) (a' := ?_) (ab 12 15) rfl rfl (by kernel_rfl) (fun _ _ _ h => h) (Or.inl ⟨by rfl, ?_⟩) ?_ ?_
       rotate_left
       ·intro w'
        go_simp
        with_reducible rfl
       rotate_left
       ·simp only [Act.put, zq1, zq2, zq3, i64_w, i32_w]
        rfl
       refine pure_ (i := 4) (N := some 39) (v := ?_) (a' := ?_) (ab 12 31) rfl rfl (by kernel_rfl) (fun _ _ _ h => h) (Or.inl ⟨by rfl, ?_⟩) ?_ ?_
       rotate_left
       ·intro w'
        go_simp
        with_reducible rfl
       rotate_left
       ·simp only [Act.put, zq1, zq2, zq3, i64_w, i32_w]
        rfl
       refine pure_ (i := 8) (N := some 6) (v := ?_) (a' := ?_) (ab 12 287) rfl rfl (by kernel_rfl) (fun _ _ _ h => h) (Or.inl ⟨by rfl, ?_⟩) ?_ ?_
       rotate_left
       ·intro w'
        go_simp
        with_reducible rfl
       rotate_left
       ·simp only [Act.put, zq1, zq2, zq3, i64_w, i32_w]
        rfl
       refine pure_ (i := 9) (N := some 7) (v := ?_) (a' := ?_) (ab 12 799) rfl rfl (by kernel_rfl) (fun _ _ _ h => h) (Or.inl ⟨by rfl, ?_⟩) ?_ ?_
       rotate_left
       ·intro w'
        go_simp
        with_reducible rfl
       rotate_left
       ·simp only [Act.put, zq1, zq2, zq3, i64_w, i32_w]
        rfl
       refine pure_ (i := 10) (N := some 8) (v := ?_) (a' := ?_) (ab 12 1823) rfl rfl (by kernel_rfl) (fun _ _ _ h => h) (Or.inl ⟨by rfl, ?_⟩) ?_ ?_
       rotate_left
       ·intro w'
        go_simp
        with_reducible rfl
       rotate_left
       ·simp only [Act.put, zq1, zq2, zq3, i64_w, i32_w]
        rfl
       refine take_ (i := 5) (N := some 40) (v := ?_) (a' := ?_) (ab 12 1855) rfl rfl (by kernel_rfl) (fun _ _ _ h => h) (Or.inl ⟨by rfl, ?_⟩) hHeld ?_ ?_
       rotate_left
       ·intro w' s0
        go_simp
        with_reducible rfl
       rotate_left
       ·simp only [Act.put, zq1, zq2, zq3, i64_w, i32_w]
        rfl
       refine pure_ (i := 6) (N := some 41) (v := ?_) (a' := ?_) (ab 12 1919) rfl rfl (by kernel_rfl) (fun _ _ _ h => h) (Or.inl ⟨by rfl, ?_⟩) ?_ ?_
       rotate_left
       ·intro w'
        go_simp
        with_reducible rfl
       rotate_left
       ·simp only [Act.put, zq1, zq2, zq3, i64_w, i32_w]
        rfl
       refine pure_ (i := 7) (N := some 42) (v := ?_) (a' := ?_) (ab 12 2047) rfl rfl (by kernel_rfl) (fun _ _ _ h => h) (Or.inl ⟨by rfl, ?_⟩) ?_ ?_
       rotate_left
       ·intro w'
        go_simp
        with_reducible rfl
       rotate_left
       ·simp only [Act.put, zq1, zq2, zq3, i64_w, i32_w]
        rfl
       refine pure_ (i := 11) (N := some 9) (v := ?_) (a' := ?_) (ab 12 4095) rfl rfl (by kernel_rfl) (fun _ _ _ h => h) (Or.inl ⟨by rfl, ?_⟩) ?_ ?_
       rotate_left
       ·intro w'
        go_simp
        with_reducible rfl
       rotate_left
       ·simp only [Act.put, zq1, zq2, zq3, i64_w, i32_w]
        rfl
       refine done_ (by kernel_rfl) ?_
              
       go_wp2
       (try simp only [Exit.inBlock, Exit.then])
       refine bodyPost_ret (tourref5_opOf.results rfl _ _ _) rfl ?_
       exact ⟨rfl, HB.out⟩
     ·obtain rfl : false = r4 := by rw [← h4]; exact (decide_eq_false (by omega)).symm
      have y0b : decide (a2_0 ≥ 7) = false := decide_eq_false y0
      clear h4
      go_upto_region 4 with fail
      replace B := Aside0.mk (blk_drew B.out)
      replace B3 := Aside0.mk (blk_drew B3.out)
      replace B4 := Aside0.mk (blk_drew B4.out)
      replace B5 := Aside0.mk (blk_drew B5.out)
      replace HB := Aside0.mk HB.out.drew
      refine start_ (n := 12) (S := fun w' => w'.cell? ⟨g5, 0, none⟩ = some (.int .i64 a2_0)) (ds := []) (ab 12 0) (by kernel_rfl) rfl rfl ((blk_cell B5.out 0).trans rfl) (fun hHeld => ?_)
      generalize wc.drew = wd at B B3 B4 B5 HB hHeld ⊢
      refine pure_ (i := 0) (N := some 35) (v := ?_) (a' := ?_) (ab 12 1) rfl rfl (by kernel_rfl) (fun _ _ _ h => h) (Or.inl ⟨by rfl, ?_⟩) ?_ ?_
      rotate_left
      ·intro w'
       go_simp
       with_reducible rfl
      rotate_left
      ·simp only [Act.put, zq1, zq2, zq3, i64_w, i32_w]
       rfl
      refine take_ (i := 1) (N := some 36) (v := ?_) (a' := ?_) (ab 12 3) rfl rfl (by kernel_rfl) (fun _ _ _ h => h) (Or.inl ⟨by rfl, ?_⟩) hHeld ?_ ?_
      rotate_left
      ·intro w' s0
       go_simp
       with_reducible rfl
      rotate_left
      ·simp only [Act.put, zq1, zq2, zq3, i64_w, i32_w]
       rfl
      refine pure_ (i := 2) (N := some 37) (v := ?_) (a' := ?_) (ab 12 7) rfl rfl (by kernel_rfl) (fun _ _ _ h => h) (Or.inl ⟨by rfl, ?_⟩) ?_ ?_
      rotate_left
      ·intro w'
       go_simp
       with_reducible rfl
      rotate_left
      ·simp only [Act.put, zq1, zq2, zq3, i64_w, i32_w]
       rfl
      refine pure_ (i := 3) (N := some 38) (v := ?_) (a' := ?_) (ab 12 15) rfl rfl (by kernel_rfl) (fun _ _ _ h => h) (Or.inl ⟨by rfl, ?_⟩) ?_ ?_
      rotate_left
      ·intro w'
       go_simp
       with_reducible rfl
      rotate_left
      ·simp only [Act.put, zq1, zq2, zq3, i64_w, i32_w]
       rfl
      refine pure_ (i := 4) (N := some 39) (v := undef) (a' := ?_) (ab 12 31) rfl rfl (by kernel_rfl) (fun _ _ _ h => h) (Or.inr ⟨by rfl, rfl⟩) ?_ ?_
      rotate_left
      ·simp only [Act.put, zq1, zq2, zq3, i64_w, i32_w]
       rfl
      refine pure_ (i := 5) (N := some 40) (v := undef) (a' := ?_) (ab 12 63) rfl rfl (by kernel_rfl) (fun _ _ _ h => h) (Or.inr ⟨by rfl, rfl⟩) ?_ ?_
      rotate_left
      ·simp only [Act.put, zq1, zq2, zq3, i64_w, i32_w]
       rfl
      refine pure_ (i := 6) (N := some 41) (v := undef) (a' := ?_) (ab 12 127) rfl rfl (by kernel_rfl) (fun _ _ _ h => h) (Or.inr ⟨by rfl, rfl⟩) ?_ ?_
      rotate_left
      ·simp only [Act.put, zq1, zq2, zq3, i64_w, i32_w]
       rfl
      refine pure_ (i := 7) (N := some 42) (v := ?_) (a' := ?_) (ab 12 255) rfl rfl (by kernel_rfl) (fun _ _ _ h => h) (Or.inl ⟨by rfl, ?_⟩) ?_ ?_
      rotate_left
      ·intro w'
       go_simp
       with_reducible rfl
      rotate_left
      ·simp only [Act.put, zq1, zq2, zq3, i64_w, i32_w]
       rfl
      refine pure_ (i := 8) (N := some 6) (v := ?_) (a' := ?_) (ab 12 511) rfl rfl (by kernel_rfl) (fun _ _ _ h => h) (Or.inl ⟨by rfl, ?_⟩) ?_ ?_
      rotate_left
      ·intro w'
       go_simp
       with_reducible rfl
      rotate_left
      ·simp only [Act.put, zq1, zq2, zq3, i64_w, i32_w]
       rfl
      refine pure_ (i := 9) (N := some 7) (v := ?_) (a' := ?_) (ab 12 1023) rfl rfl (by kernel_rfl) (fun _ _ _ h => h) (Or.inl ⟨by rfl, ?_⟩) ?_ ?_
      rotate_left
      ·intro w'
       go_simp
       with_reducible rfl
      rotate_left
      ·simp only [Act.put, zq1, zq2, zq3, i64_w, i32_w]
       rfl
      refine pure_ (i := 10) (N := some 8) (v := ?_) (a' := ?_) (ab 12 2047) rfl rfl (by kernel_rfl) (fun _ _ _ h => h) (Or.inl ⟨by rfl, ?_⟩) ?_ ?_
      rotate_left
      ·intro w'
       go_simp
       with_reducible rfl
      rotate_left
      ·simp only [Act.put, zq1, zq2, zq3, i64_w, i32_w]
       rfl
      refine pure_ (i := 11) (N := some 9) (v := ?_) (a' := ?_) (ab 12 4095) rfl rfl (by kernel_rfl) (fun _ _ _ h => h) (Or.inl ⟨by rfl, ?_⟩) ?_ ?_
      rotate_left
      ·intro w'
       go_simp
       with_reducible rfl
      rotate_left
      ·simp only [Act.put, zq1, zq2, zq3, i64_w, i32_w]
       rfl
      refine done_ (by kernel_rfl) ?_
            
      go_wp2
      (try simp only [Exit.inBlock, Exit.then])
      refine bodyPost_ret (tourref5_opOf.results rfl _ _ _) rfl ?_
      exact ⟨rfl, HB.out⟩
    | true =>
     have e : tourref5_opOf.tab a2_0 = some x := by have h_ := hk.out; have h2_ := hx.out; revert h_ h2_; cases tourref5_opOf.tab a2_0 <;> simp
     rw [e] at H'
     clear hk hx e
     have H2 := Option.some.inj H'
     clear H'
     injection H2 with h1 h2; injection h2 with h2 h3; injection h3 with h3 h4
     subst h2 h4
     replace h1 := Aside0.mk h1
     replace h3 := Aside0.mk h3
     go_upto_region 5 with fail
     replace B := Aside0.mk (blk_drew B.out)
     replace B3 := Aside0.mk (blk_drew B3.out)
     replace B4 := Aside0.mk (blk_drew B4.out)
     replace B5 := Aside0.mk (blk_drew B5.out)
     replace HB := Aside0.mk HB.out.drew
     refine start_ (n := 9) (S := fun w' => w'.cell? ⟨g, 0, none⟩ = some (.int .i64 x.1) ∧ w'.cell? ⟨g, 1, none⟩ = some (.int .i64 x.2.1) ∧ w'.cell? ⟨g, 2, none⟩ = some (.int .i64 x.2.2)) (ds := []) (ab 9 0) (by kernel_rfl) rfl rfl ⟨(blk_cell B.out 0).trans rfl, (blk_cell B.out 1).trans rfl, (blk_cell B.out 2).trans rfl⟩ (fun hHeld => ?_)
     generalize wc.drew = wd at B B3 B4 B5 HB hHeld ⊢
     refine pure_ (i := 0) (N := some 43) (v := ?_) (a' := ?_) (ab 9 1) rfl rfl (by kernel_rfl) (fun _ _ _ h => h) (Or.inl ⟨by rfl, ?_⟩) ?_ ?_
     rotate_left
     ·intro w'
      go_simp
      with_reducible rfl
     rotate_left
     ·simp only [Act.put, zq1, zq2, zq3, i64_w, i32_w]
      rfl
     refine pure_ (i := 2) (N := some 45) (v := ?_) (a' := ?_) (ab 9 5) rfl rfl (by kernel_rfl) (fun _ _ _ h => h) (Or.inl ⟨by rfl, ?_⟩) ?_ ?_
     rotate_left
     ·intro w'
      go_simp
      with_reducible rfl
     rotate_left
     ·simp only [Act.put, zq1, zq2, zq3, i64_w, i32_w]
      rfl
     refine pure_ (i := 4) (N := some 47) (v := ?_) (a' := ?_) (ab 9 21) rfl rfl (by kernel_rfl) (fun _ _ _ h => h) (Or.inl ⟨by rfl, ?_⟩) ?_ ?_
     rotate_left
     ·intro w'
      go_simp
      with_reducible rfl
     rotate_left
     ·simp only [Act.put, zq1, zq2, zq3, i64_w, i32_w]
      rfl
     refine take_ (i := 1) (N := some 44) (v := ?_) (a' := ?_) (ab 9 23) rfl rfl (by kernel_rfl) (fun _ _ _ h => h) (Or.inl ⟨by rfl, ?_⟩) hHeld ?_ ?_
     rotate_left
     ·rintro w' ⟨s0, s1, s2⟩
      go_simp
      with_reducible rfl
     rotate_left
     ·simp only [Act.put, zq1, zq2, zq3, i64_w, i32_w]
      rfl
     refine pure_ (i := 6) (N := some 6) (v := ?_) (a' := ?_) (ab 9 87) rfl rfl (by kernel_rfl) (fun _ _ _ h => h) (Or.inl ⟨by rfl, ?_⟩) ?_ ?_
     rotate_left
     ·intro w'
      go_simp
      with_reducible rfl
     rotate_left
     ·simp only [Act.put, zq1, zq2, zq3, i64_w, i32_w]
      rfl
     refine take_ (i := 3) (N := some 46) (v := ?_) (a' := ?_) (ab 9 95) rfl rfl (by kernel_rfl) (fun _ _ _ h => h) (Or.inl ⟨by rfl, ?_⟩) hHeld ?_ ?_
     rotate_left
     ·rintro w' ⟨s0, s1, s2⟩
      go_simp
      with_reducible rfl
     rotate_left
     ·simp only [Act.put, zq1, zq2, zq3, i64_w, i32_w]
      rfl
     refine pure_ (i := 7) (N := some 7) (v := ?_) (a' := ?_) (ab 9 223) rfl rfl (by kernel_rfl) (fun _ _ _ h => h) (Or.inl ⟨by rfl, ?_⟩) ?_ ?_
     rotate_left
     ·intro w'
      go_simp
      with_reducible rfl
     rotate_left
     ·simp only [Act.put, zq1, zq2, zq3, i64_w, i32_w]
      rfl
     refine take_ (i := 5) (N := some 48) (v := ?_) (a' := ?_) (ab 9 255) rfl rfl (by kernel_rfl) (fun _ _ _ h => h) (Or.inl ⟨by rfl, ?_⟩) hHeld ?_ ?_
     rotate_left
     ·rintro w' ⟨s0, s1, s2⟩
      go_simp
      with_reducible rfl
     rotate_left
     ·simp only [Act.put, zq1, zq2, zq3, i64_w, i32_w]
      rfl
     refine pure_ (i := 8) (N := some 8) (v := ?_) (a' := ?_) (ab 9 511) rfl rfl (by kernel_rfl) (fun _ _ _ h => h) (Or.inl ⟨by rfl, ?_⟩) ?_ ?_
     rotate_left
     ·intro w'
      go_simp
      with_reducible rfl
     rotate_left
     ·simp only [Act.put, zq1, zq2, zq3, i64_w, i32_w]
      rfl
     refine done_ (by kernel_rfl) ?_
          
     have o0 : wd.cell? ⟨g5, 0, none⟩ = some (.int .i64 a2_0) := (blk_cell B5.out 0).trans rfl
     have o1 : wd.cell? ⟨g5, 1, none⟩ = some (.int .i64 a2_1) := (blk_cell B5.out 1).trans rfl
     have f1 : wd.cell? ⟨g4, 1, none⟩ = some (.int .i64 a1_1) := (blk_cell B4.out 1).trans rfl
     have f2 : wd.cell? ⟨g4, 2, none⟩ = some (.slice A1_2 l1_2.length c1_2) := (blk_cell B4.out 2).trans rfl
     have p0 : wd.cell? ⟨g3, 0, none⟩ = some (.slice A0_0 l0_0.length c0_0) := (blk_cell B3.out 0).trans rfl
     clear hHeld B B3 B4 B5
     by_cases z2 : a2_0 = 2
     ·have z2b : (a2_0 == 2) = true := beq_iff_eq.mpr z2
      obtain rfl : x.1 = r1 := by rw [← h1.out]; exact (by unfold tourref5_opOf.pops; rw [if_neg (by omega), if_neg (by omega)])
      obtain rfl : a1_1 = r3 := by rw [← h3.out]; exact (by unfold tourref5_opOf.lim; rw [if_pos (by omega)])
      clear h1 h3
      go_wp2
      (try simp only [Exit.inBlock, Exit.then])
      refine bodyPost_ret (tourref5_opOf.results rfl _ _ _) rfl ?_
      exact ⟨rfl, HB.out⟩
     have z2b : (a2_0 == 2) = false := beq_eq_false_iff_ne.mpr z2
     by_cases z3 : a2_0 = 3
     ·have z3b : (a2_0 == 3) = true := beq_iff_eq.mpr z3
      obtain rfl : x.1 = r1 := by rw [← h1.out]; exact (by unfold tourref5_opOf.pops; rw [if_neg (by omega), if_neg (by omega)])
      obtain rfl : a1_1 = r3 := by rw [← h3.out]; exact (by unfold tourref5_opOf.lim; rw [if_pos (by omega)])
      clear h1 h3
      go_wp2
      (try simp only [Exit.inBlock, Exit.then])
      refine bodyPost_ret (tourref5_opOf.results rfl _ _ _) rfl ?_
      exact ⟨rfl, HB.out⟩
     have z3b : (a2_0 == 3) = false := beq_eq_false_iff_ne.mpr z3
     by_cases z15 : a2_0 = 15
     ·have z15b : (a2_0 == 15) = true := beq_iff_eq.mpr z15
      obtain rfl : x.1 = r1 := by rw [← h1.out]; exact (by unfold tourref5_opOf.pops; rw [if_neg (by omega), if_neg (by omega)])
      obtain rfl : (l1_2.length : Int) = r3 := by rw [← h3.out]; exact (by unfold tourref5_opOf.lim; rw [if_neg (by omega), if_pos (by omega)])
      clear h1 h3
      go_wp2
      (try simp only [Exit.inBlock, Exit.then])
      refine bodyPost_ret (tourref5_opOf.results rfl _ _ _) rfl ?_
      exact ⟨rfl, HB.out⟩
     have z15b : (a2_0 == 15) = false := beq_eq_false_iff_ne.mpr z15
     by_cases z16 : a2_0 = 16
     ·have z16b : (a2_0 == 16) = true := beq_iff_eq.mpr z16
      obtain rfl : x.1 = r1 := by rw [← h1.out]; exact (by unfold tourref5_opOf.pops; rw [if_neg (by omega), if_neg (by omega)])
      obtain rfl : (l1_2.length : Int) = r3 := by rw [← h3.out]; exact (by unfold tourref5_opOf.lim; rw [if_neg (by omega), if_pos (by omega)])
      clear h1 h3
      go_wp2
      (try simp only [Exit.inBlock, Exit.then])
      refine bodyPost_ret (tourref5_opOf.results rfl _ _ _) rfl ?_
      exact ⟨rfl, HB.out⟩
     have z16b : (a2_0 == 16) = false := beq_eq_false_iff_ne.mpr z16
     by_cases z17 : a2_0 = 17
     ·have z17b : (a2_0 == 17) = true := beq_iff_eq.mpr z17
      by_cases y0 : 0 ≤ a2_1
      ·by_cases y1 : a2_1 < (l0_0.length : Int)
       ·obtain ⟨ad, A2, c2, e2, k0, k1, k2, _⟩ := at_T29 HR.out a2_1 y0 y1
        cases e2
        replace k0 := (HB.out.cell (World.block_lt_of_cell? w _ k0)).trans k0
        have y0b : decide (a2_1 ≥ 0) = true := decide_eq_true y0
        have y1b : decide (a2_1 < (l0_0.length : Int)) = true := decide_eq_true y1
        clear k1 k2
        obtain rfl : (rd_T29 l0_0 a2_1).f0 = r1 := by rw [← h1.out]; exact (by unfold tourref5_opOf.pops; rw [if_pos ⟨z17, y0, y1⟩])
        obtain rfl : (l0_0.length : Int) = r3 := by rw [← h3.out]; exact (by unfold tourref5_opOf.lim; rw [if_neg (by omega), if_neg (by omega), if_pos z17])
        clear h1 h3
        go_wp2
        (try simp only [Exit.inBlock, Exit.then])
        refine bodyPost_ret (tourref5_opOf.results rfl _ _ _) rfl ?_
        exact ⟨rfl, HB.out⟩
       ·skip
        have y0b : decide (a2_1 ≥ 0) = true := decide_eq_true y0
        have y1b : decide (a2_1 < (l0_0.length : Int)) = false := decide_eq_false y1
        obtain rfl : x.1 = r1 := by rw [← h1.out]; exact (by unfold tourref5_opOf.pops; rw [if_neg (fun h => y1 h.2.2), if_neg (by omega)])
        obtain rfl : (l0_0.length : Int) = r3 := by rw [← h3.out]; exact (by unfold tourref5_opOf.lim; rw [if_neg (by omega), if_neg (by omega), if_pos z17])
        clear h1 h3
        go_wp2
        (try simp only [Exit.inBlock, Exit.then])
        refine bodyPost_ret (tourref5_opOf.results rfl _ _ _) rfl ?_
        exact ⟨rfl, HB.out⟩
      ·skip
       have y0b : decide (a2_1 ≥ 0) = false := decide_eq_false y0
       obtain rfl : x.1 = r1 := by rw [← h1.out]; exact (by unfold tourref5_opOf.pops; rw [if_neg (fun h => y0 h.2.1), if_neg (by omega)])
       obtain rfl : (l0_0.length : Int) = r3 := by rw [← h3.out]; exact (by unfold tourref5_opOf.lim; rw [if_neg (by omega), if_neg (by omega), if_pos z17])
       clear h1 h3
       go_wp2
       (try simp only [Exit.inBlock, Exit.then])
       refine bodyPost_ret (tourref5_opOf.results rfl _ _ _) rfl ?_
       exact ⟨rfl, HB.out⟩
     have z17b : (a2_0 == 17) = false := beq_eq_false_iff_ne.mpr z17
     by_cases z20 : a2_0 = 20
     ·have z20b : (a2_0 == 20) = true := beq_iff_eq.mpr z20
      obtain rfl : Go.bits .and .i64 a2_1 7 = r1 := by rw [← h1.out]; exact (by unfold tourref5_opOf.pops tourref5_opOf.low; rw [if_neg (by omega), if_pos z20])
      obtain rfl : x.2.2 = r3 := by rw [← h3.out]; exact (by unfold tourref5_opOf.lim; rw [if_neg (by omega), if_neg (by omega), if_neg (by omega)])
      clear h1 h3
      go_wp2
      (try simp only [Exit.inBlock, Exit.then])
      refine bodyPost_ret (tourref5_opOf.results rfl _ _ _) rfl ?_
      exact ⟨rfl, HB.out⟩
     have z20b : (a2_0 == 20) = false := beq_eq_false_iff_ne.mpr z20
     obtain rfl : x.1 = r1 := by rw [← h1.out]; exact (by unfold tourref5_opOf.pops; rw [if_neg (by omega), if_neg (by omega)])
     obtain rfl : x.2.2 = r3 := by rw [← h3.out]; exact (by unfold tourref5_opOf.lim; rw [if_neg (by omega), if_neg (by omega), if_neg (by omega)])
     clear h1 h3
     go_wp2
     (try simp only [Exit.inBlock, Exit.then])
     refine bodyPost_ret (tourref5_opOf.results rfl _ _ _) rfl ?_
     exact ⟨rfl, HB.out⟩

/-! ### bits_Mul32: function 99 -/
def bits_Mul32.f (a0 : Int) (a1 : Int) : Option (Int × Int) := some (((IntKind.u64.wrap ((IntKind.u64.wrap (a0)) * (IntKind.u64.wrap (a1)))) / 4294967296) % 4294967296, (IntKind.u64.wrap ((IntKind.u64.wrap (a0)) * (IntKind.u64.wrap (a1)))) % 4294967296)
set_option maxHeartbeats 8000000 in
set_option maxRecDepth 100000 in
theorem bits_Mul32.calls (a0 : Int) (a1 : Int) (r1 : Int) (r2 : Int) (w : World) (h : bits_Mul32.f a0 a1 = some (r1, r2)) :
  Calls Try.prog 99 #[.int .u32 a0, .int .u32 a1] w fun e w' => e = .returned (.tuple #[.int .u32 r1, .int .u32 r2]) ∧ Drawn0 w w' := by
 have H : (some (((IntKind.u64.wrap ((IntKind.u64.wrap (a0)) * (IntKind.u64.wrap (a1)))) / 4294967296) % 4294967296, (IntKind.u64.wrap ((IntKind.u64.wrap (a0)) * (IntKind.u64.wrap (a1)))) % 4294967296)) = some (r1, r2) := h
 clear h
 simp only [Option.some.injEq, Prod.mk.injEq] at H
 obtain ⟨rfl, rfl⟩ := H
 go_enter Try.func99, Try.ntmps99
 go_wp2
 go_ret2
 exact ⟨by first | rfl | (simp; done) | (simp [*]; done), by repeat (first | exact Drawn0.refl _ | apply Drawn0.step)⟩

/-! ### bits_Mul64: function 100 -/
-- the shelf's contract
def bits_Mul64.f (a0 : Int) (a1 : Int) : Option (Int × Int) := if (0 ≤ a0 ∧ a0 ≤ 18446744073709551615) ∧ 0 ≤ a1 ∧ a1 ≤ 18446744073709551615 then some (a0 * a1 / 18446744073709551616, a0 * a1 % 18446744073709551616) else none
theorem bits_Mul64.calls (a0 : Int) (a1 : Int) (r1 : Int) (r2 : Int) (w : World) (h : bits_Mul64.f a0 a1 = some (r1, r2)) :
  Calls Try.prog 100 #[.int .u64 a0, .int .u64 a1] w fun e w' => e = .returned (.tuple #[.int .u64 r1, .int .u64 r2]) ∧ Drawn0 w w' := by
 unfold bits_Mul64.f at h
 split at h
 ·rename_i hh
  obtain ⟨⟨h0, h1⟩, h2, h3⟩ := hh
  obtain ⟨x, rfl⟩ := Int.eq_ofNat_of_zero_le h0
  obtain ⟨y, rfl⟩ := Int.eq_ofNat_of_zero_le h2
  have e := Option.some.inj h
  have e1 : (x : Int) * y / 18446744073709551616 = r1 := congrArg Prod.fst e
  have e2 : (x : Int) * y % 18446744073709551616 = r2 := congrArg Prod.snd e
  subst e1 e2
  refine (Try.bits_Mul64 x y (by omega) (by omega) w).mono ?_
  rintro e w' ⟨rfl, rfl⟩
  refine ⟨?_, Drawn0.refl _⟩
  simp
 ·cases h

/-! ### bits_Mul: function 86 -/
def bits_Mul.f (a0 : Int) (a1 : Int) : Option (Int × Int) := (bits_Mul64.f a0 a1).bind fun bt171 => (some (bt171.1, bt171.2))
set_option maxHeartbeats 8000000 in
set_option maxRecDepth 100000 in
theorem bits_Mul.calls (a0 : Int) (a1 : Int) (r1 : Int) (r2 : Int) (w : World) (h : bits_Mul.f a0 a1 = some (r1, r2)) :
  Calls Try.prog 86 #[.int .u64 a0, .int .u64 a1] w fun e w' => e = .returned (.tuple #[.int .u64 r1, .int .u64 r2]) ∧ Drawn0 w w' := by
 have H : ((bits_Mul64.f a0 a1).bind fun bt171 => (some (bt171.1, bt171.2))) = some (r1, r2) := h
 clear h
 replace H := Option.bind_eq_some_iff.mp H
 obtain ⟨⟨t171, t172⟩, A30, H⟩ := H
 replace H : (some (t171, t172)) = some (r1, r2) := H
 have A3 := Aside0.mk A30
 clear A30
 simp only [Option.some.injEq, Prod.mk.injEq] at H
 obtain ⟨rfl, rfl⟩ := H
 go_enter Try.func86, Try.ntmps86
 go_wp2_with (first | ((with_reducible refine gate_callee (f := 100) rfl ?_); refine goesL_ (some 25) rfl rfl Try.func100 (by kernel_rfl) rfl #[.int .u64 a0, .int .u64 a1] rfl (by (try simp only [zm1, zm2, zm3]); first | done | rfl) ?_; (with_reducible refine (bits_Mul64.calls a0 a1 t171 t172 _ A3.out).mono ?_); rintro e w' ⟨rfl, ⟨nd, rfl⟩⟩; refine ⟨_, rfl, ?_⟩))
 go_ret2
 exact ⟨by first | rfl | (simp; done) | (simp [*]; done), by repeat (first | exact Drawn0.refl _ | apply Drawn0.step)⟩

end Go.Proofs.Ytkoopdoeehoigaa.PSoundTells
