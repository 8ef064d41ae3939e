-- Printed by a program: the print with changes of this session (wip/printpatch.py).
import Derived.Test.YtmpfboilodlfnaaPFlowMadex0
import Derived.Test.YtmpfboilodlfnaaPFlowMadex1
import Derived.Test.YtmpfboilodlfnaaPFlowMadex2
import Derived.Test.YtmpfboilodlfnaaPFlowMadex3
import Derived.Test.YtmpfboilodlfnaaPFlowMadex4
import Derived.Test.YtmpfboilodlfnaaPFlowMadex5
import Derived.Test.YtmpfboilodlfnaaPFlowMadex6
import Derived.Test.YtmpfboilodlfnaaPFlowMadex7
import Derived.Test.YtmpfboilodlfnaaPFlowMadex8
import Derived.Test.YtmpfboilodlfnaaPFlowMadex9
namespace Go.Proofs.Ytmpfboilodlfnaa.PFlowMade
open Go.Proofs.Ytmpfboilodlfnaa.Fnv Go.Proofs.Ytmpfboilodlfnaa.Ary
open Go.RowKit Go.Proofs.YtmpfboilodlfnaaW.PrintWords Go.Proofs.YtmpfboilodlfnaaW.PrintLast Go.Proofs.YtmpfboilodlfnaaW.PrintMore
attribute [local go_sem] max2_int min2_int max_two min_two max_three min_three max_four min_four   -- for this text's walks alone
set_option linter.unusedVariables false
set_option linter.unusedSimpArgs false

set_option maxHeartbeats 8000000 in
set_option maxRecDepth 100000 in
theorem tourlaw5_FlowTells.calls (k : Nat) (a0_0 : Int) (a0_1 : Int) (A0_2 : Option Addr) (c0_2 : Nat) (l0_2 : List Int) (A1 : Option Addr) (c1 : Nat) (l1 : List Int) (a2 : Int) (a3 : Int) (r : Bool) (w : World) (hr0_2 : Kd.C (Kd.int .i64) w A0_2 l0_2.length l0_2) (hc0_2 : l0_2.length ≤ c0_2) (hr1 : Kd.C (Kd.int .i64) w A1 l1.length l1) (hc1 : l1.length ≤ c1) (h : tourlaw5_FlowTells.f k a0_0 a0_1 l0_2 l1 a2 a3 = some r) :
  Calls Try.prog 6 #[.agg #[.int .i64 a0_0, .int .i64 a0_1, .slice A0_2 l0_2.length c0_2], .slice A1 l1.length c1, .int .i64 a2, .int .i64 a3] w fun e w' => e = .returned (.bool r) ∧ Below w.heap.size w w' := by
 have hu25 := Try.underlying25
 have HR0_2 := Aside0.mk hr0_2
 have HC0_2 := Aside0.mk hc0_2
 clear hr0_2 hc0_2
 have HR1 := Aside0.mk hr1
 have HC1 := Aside0.mk hc1
 clear hr1 hc1
 have HB := Aside0.mk (Below.refl w.heap.size w)
 have H : ((flow_Check.f k 1 1 (([1] : List Int))).bind fun t178 => (if t178 = 0 then ((flow_Check.f k 0 0 ([] : List Int)).bind fun t179 => (tourlaw5_FlowTells.j0 k l1 a2 a3 (t179 != 2) a0_0 a0_1 l0_2)) else (tourlaw5_FlowTells.j0 k l1 a2 a3 true a0_0 a0_1 l0_2))) = some r := h
 clear h
 have HC5 := Aside0.mk H
 clear H
 go_enter Try.func6, Try.ntmps6
 go_upto_region 1 with (first | ((with_reducible refine gate_dst (N := 4) rfl ?_); (try (refine gate_guard (by rfl) ?_; dsimp only)); refine box_event ?hg (N := 4) ?hd (cs := #[.int .i64 a0_0, .int .i64 a0_1, .slice A0_2 l0_2.length c0_2]) (t := 25) ?hr ?_; (case hd => rfl); (case hg => rfl); (case hr => first | (go_simp; done) | (go_simp; rfl)); intro gb174 hg w6 hbox hb; have n0_ := Aside0.mk (below_step (by repeat (first | (with_reducible first | exact HB.out | apply below_alloc | apply pw_below_drewN | apply below_drew1) | exact HB.out)) hb); have n1_ := Aside0.mk (hbox); have n2_ := Aside0.mk ((by rw [hg]; exact (below_size (by repeat (first | (with_reducible first | exact HB.out | apply below_alloc | apply pw_below_drewN | apply below_drew1) | exact HB.out))) : w.heap.size ≤ gb174)); have n3_ := Aside0.mk ((by rw [hg]; exact (below_size (by repeat (first | (with_reducible first | exact HB.out | apply below_alloc | apply pw_below_drewN | apply below_drew1) | exact HB.out))) : w.heap.size ≤ gb174)); clear HB; have HB := n0_; have BK174 := n1_; have GW174 := n2_; have GE174 := n3_; clear n0_ n1_ n2_ n3_; clear hb hbox hg))
 (try simp only [Act.put, zq1, zq2, zq3])
 go_cut [31] (fun v31 wc => ∃ (kq : Nat) (x31_4 : Bool), v31 = .bool x31_4 ∧ Aside0 (tourlaw5_FlowTells.j0 kq l1 a2 a3 x31_4 a0_0 a0_1 l0_2 = some r) ∧ Aside0 (kq ≤ k) ∧ Aside0 (wc.heap[gb174]? = some (.cells #[.int .i64 a0_0, .int .i64 a0_1, (.slice A0_2 l0_2.length c0_2)] 25 (0, 0))) ∧ Aside0 (Below w.heap.size w wc))
 case first =>
  have H := HC5.out
  clear HC5
  obtain ⟨y175, hy175⟩ : ∃ y_ : List Int, y_ = (([1] : List Int)) := ⟨_, rfl⟩
  replace H : ((flow_Check.f k 1 1 y175).bind fun t178 => (if t178 = 0 then ((flow_Check.f k 0 0 ([] : List Int)).bind fun t179 => (tourlaw5_FlowTells.j0 k l1 a2 a3 (t179 != 2) a0_0 a0_1 l0_2)) else (tourlaw5_FlowTells.j0 k l1 a2 a3 true a0_0 a0_1 l0_2))) = some r := by first | (rw [hy175]; with_reducible exact H) | (have H2_ := (Option.bind_some _ _).symm.trans H; rw [hy175]; with_reducible exact H2_) | (have H2_ := (Option.bind_some _ _).symm.trans H; with_reducible exact H2_) | with_reducible exact H | (rw [hy175]; exact H) | exact H
  have Ny175 := Aside0.mk hy175
  clear hy175
  replace H := Option.bind_eq_some_iff.mp H
  obtain ⟨t178, A70, H⟩ := H
  replace H : (if t178 = 0 then ((flow_Check.f k 0 0 ([] : List Int)).bind fun t179 => (tourlaw5_FlowTells.j0 k l1 a2 a3 (t179 != 2) a0_0 a0_1 l0_2)) else (tourlaw5_FlowTells.j0 k l1 a2 a3 true a0_0 a0_1 l0_2)) = some r := H
  have A7 := Aside0.mk A70
  clear A70
  by_cases c8 : t178 = 0
  ·rw [if_pos c8] at H
   have c8b0 : (t178 == 0) = true := beq_iff_eq.mpr c8
   have c8b1 : (t178 != 0) = false := bne_eq_false_iff_eq.mpr c8
   clear c8
   (first | rw [c8b0] | (simp only [i64_w, i32_w]; rw [c8b0]) | skip)
   replace H := Option.bind_eq_some_iff.mp H
   obtain ⟨t179, A90, H⟩ := H
   replace H : (tourlaw5_FlowTells.j0 k l1 a2 a3 (t179 != 2) a0_0 a0_1 l0_2) = some r := H
   have A9 := Aside0.mk A90
   clear A90
   have H' := Aside0.mk H
   clear H
   go_wp2_with (first | ((with_reducible refine gate_dst (N := 23) rfl ?_); (try (refine gate_guard (by rfl) ?_; dsimp only)); refine Kd.R_lit (Kd.int .i64) _ 3 ?hg (N := 23) ?hd (xs := ([1] : List Int)) (inner := [.int .i64 1]) (ok := fun _ => True) (okp := fun _ => True) ?hr ?hp (fun _ hk => hk) trivial (Below.refl _ _) (Nat.le_refl _) (by simp) ?_; (case hd => rfl); (case hg => rfl); (case hr => first | (go_simp; done) | (go_simp; rfl)); (case hp => exact (Reps.one (show Kd.M (Kd.int .i64) _ _ _ 1 [.int .i64 1] from rfl) (Reps.none _ _))); intro v176 w10 ho11 hb hg_ hnew_; clear hg_ hnew_; (first | rw [← Ny175.out] at ho11 | (simp only [Int.reduceToNat] at ho11; rw [← Ny175.out] at ho11)); have n0_ := Aside0.mk (Kd.R_lower ho11 (below_size (by repeat (first | (with_reducible first | exact HB.out | apply below_alloc | apply pw_below_drewN | apply below_drew1 | refine below_set ?_ GE174.out) | exact HB.out)))); have n1_ := Aside0.mk (bb hb BK174.out); have n2_ := Aside0.mk (below_step (by repeat (first | (with_reducible first | exact HB.out | apply below_alloc | apply pw_below_drewN | apply below_drew1 | refine below_set ?_ GE174.out) | exact HB.out)) hb); clear BK174; clear HB; have HO177 := n0_; have BK174 := n1_; have HB := n2_; clear n0_ n1_ n2_; clear hb ho11; obtain ⟨Ao12, co12, eo12⟩ := Kd.R_slice HO177.out; subst eo12) | ((with_reducible refine gate_callee (f := 17) rfl ?_); refine goesL_ (some 25) rfl rfl Try.func17 (by kernel_rfl) rfl #[.agg #[.int .i64 1, .int .i64 1, .slice Ao12 y175.length co12]] rfl (by (try simp only [zm1, zm2, zm3]); first | done | rfl) ?_; (with_reducible refine (flow_Check.calls k 1 1 _ _ y175 t178 _ ?side1 ?side2 A7.out).mono ?_); (case side1 => repeat (first | exact (Kd.R_reads' HO177.out).2.2 | (with_reducible refine Kd.C_alloc ?_ _) | (with_reducible refine Kd.C_drewN ?_ _) | (with_reducible refine Kd.C_drew ?_))); (case side2 => exact (Kd.R_reads' HO177.out).2.1); rintro e w13 ⟨rfl, hb⟩; refine ⟨_, rfl, ?_⟩; have n0_ := Aside0.mk (Kd.R_below (by (with_reducible repeat (first | apply Kd.R_alloc | apply Kd.R_drewN | apply Kd.R_drew)); exact HO177.out) hb); have n1_ := Aside0.mk (bb hb BK174.out); have n2_ := Aside0.mk (below_step (by repeat (first | (with_reducible first | exact HB.out | apply below_alloc | apply pw_below_drewN | apply below_drew1 | refine below_set ?_ GE174.out) | exact HB.out)) hb); clear HO177; clear BK174; clear HB; have HO177 := n0_; have BK174 := n1_; have HB := n2_; clear n0_ n1_ n2_; (try clear hb); (try clear hb2); (try clear hk); (try clear hi)) | (go_at_call 17; (refine (flow_Check.calls k 0 0 _ _ ([] : List Int) t179 _ ?side1 ?side2 A9.out).mono ?_); (case side1 => exact Kd.C_nil _ _); (case side2 => exact Nat.le_refl _); rintro e w14 ⟨rfl, hb⟩; have n0_ := Aside0.mk (Kd.R_below (by (with_reducible repeat (first | apply Kd.R_alloc | apply Kd.R_drewN | apply Kd.R_drew)); exact HO177.out) hb); have n1_ := Aside0.mk (bb hb BK174.out); have n2_ := Aside0.mk (below_step (by repeat (first | (with_reducible first | exact HB.out | apply below_alloc | apply pw_below_drewN | apply below_drew1 | refine below_set ?_ GE174.out) | exact HB.out)) hb); clear HO177; clear BK174; clear HB; have HO177 := n0_; have BK174 := n1_; have HB := n2_; clear n0_ n1_ n2_; (try clear hb); (try clear hb2); (try clear hk); (try clear hi)))
   go_meet
   case rel => exact ⟨_, ((t179 != 2)), (by first | rfl | (simp; done) | (simp [*]; done)), H', ⟨by first | omega | exact Nat.le_refl _⟩, ⟨BK174.out⟩, ⟨by repeat (first | (with_reducible first | exact HB.out | apply below_alloc | apply pw_below_drewN | apply below_drew1 | refine below_set ?_ GE174.out) | exact HB.out)⟩⟩
  ·rw [if_neg c8] at H
   have c8b0 : (t178 == 0) = false := beq_eq_false_iff_ne.mpr c8
   have c8b1 : (t178 != 0) = true := bne_iff_ne.mpr c8
   (first | rw [c8b0] | (simp only [i64_w, i32_w]; rw [c8b0]) | skip)
   have H' := Aside0.mk H
   clear H
   go_wp2_with (first | ((with_reducible refine gate_dst (N := 23) rfl ?_); (try (refine gate_guard (by rfl) ?_; dsimp only)); refine Kd.R_lit (Kd.int .i64) _ 3 ?hg (N := 23) ?hd (xs := ([1] : List Int)) (inner := [.int .i64 1]) (ok := fun _ => True) (okp := fun _ => True) ?hr ?hp (fun _ hk => hk) trivial (Below.refl _ _) (Nat.le_refl _) (by simp) ?_; (case hd => rfl); (case hg => rfl); (case hr => first | (go_simp; done) | (go_simp; rfl)); (case hp => exact (Reps.one (show Kd.M (Kd.int .i64) _ _ _ 1 [.int .i64 1] from rfl) (Reps.none _ _))); intro v176 w15 ho16 hb hg_ hnew_; clear hg_ hnew_; (first | rw [← Ny175.out] at ho16 | (simp only [Int.reduceToNat] at ho16; rw [← Ny175.out] at ho16)); have n0_ := Aside0.mk (Kd.R_lower ho16 (below_size (by repeat (first | (with_reducible first | exact HB.out | apply below_alloc | apply pw_below_drewN | apply below_drew1 | refine below_set ?_ GE174.out) | exact HB.out)))); have n1_ := Aside0.mk (bb hb BK174.out); have n2_ := Aside0.mk (below_step (by repeat (first | (with_reducible first | exact HB.out | apply below_alloc | apply pw_below_drewN | apply below_drew1 | refine below_set ?_ GE174.out) | exact HB.out)) hb); clear BK174; clear HB; have HO177 := n0_; have BK174 := n1_; have HB := n2_; clear n0_ n1_ n2_; clear hb ho16; obtain ⟨Ao17, co17, eo17⟩ := Kd.R_slice HO177.out; subst eo17) | ((with_reducible refine gate_callee (f := 17) rfl ?_); refine goesL_ (some 25) rfl rfl Try.func17 (by kernel_rfl) rfl #[.agg #[.int .i64 1, .int .i64 1, .slice Ao17 y175.length co17]] rfl (by (try simp only [zm1, zm2, zm3]); first | done | rfl) ?_; (with_reducible refine (flow_Check.calls k 1 1 _ _ y175 t178 _ ?side1 ?side2 A7.out).mono ?_); (case side1 => repeat (first | exact (Kd.R_reads' HO177.out).2.2 | (with_reducible refine Kd.C_alloc ?_ _) | (with_reducible refine Kd.C_drewN ?_ _) | (with_reducible refine Kd.C_drew ?_))); (case side2 => exact (Kd.R_reads' HO177.out).2.1); rintro e w18 ⟨rfl, hb⟩; refine ⟨_, rfl, ?_⟩; have n0_ := Aside0.mk (Kd.R_below (by (with_reducible repeat (first | apply Kd.R_alloc | apply Kd.R_drewN | apply Kd.R_drew)); exact HO177.out) hb); have n1_ := Aside0.mk (bb hb BK174.out); have n2_ := Aside0.mk (below_step (by repeat (first | (with_reducible first | exact HB.out | apply below_alloc | apply pw_below_drewN | apply below_drew1 | refine below_set ?_ GE174.out) | exact HB.out)) hb); clear HO177; clear BK174; clear HB; have HO177 := n0_; have BK174 := n1_; have HB := n2_; clear n0_ n1_ n2_; (try clear hb); (try clear hb2); (try clear hk); (try clear hi)))
   go_meet
   case rel => exact ⟨_, (true), (by first | rfl | (simp; done) | (simp [*]; done)), H', ⟨by first | omega | exact Nat.le_refl _⟩, ⟨BK174.out⟩, ⟨by repeat (first | (with_reducible first | exact HB.out | apply below_alloc | apply pw_below_drewN | apply below_drew1 | refine below_set ?_ GE174.out) | exact HB.out)⟩⟩
 case rest =>
  refine @idd ?P1 ?_
  let rec aux1 : ?P1 := by
   clear HC5
   try clear c1; try clear p2; try clear c6; try clear c8; try clear c8b0; try clear c8b1; try clear c17
   obtain ⟨kq, x31_4, rfl, HA, HJ4, BK174, HB⟩ := hcut
   cases kq with
   | zero => exact absurd HA.out (by simp [tourlaw5_FlowTells.j0])
   | succ kj4 =>
    have H := HA.out
    clear HA
    simp only [tourlaw5_FlowTells.j0] at H
    by_cases c19 : x31_4 = true
    ·subst c19
     have H1 : (some false) = some r := by rw [if_pos rfl] at H; exact H
     clear H
     have H := H1
     clear H1
     obtain rfl := Option.some.inj H
     go_wp2
     go_ret
     exact ⟨by first | rfl | (simp [errW_none, errW_some] <;> rfl) | (simp [*, errW_none, errW_some] <;> rfl), by repeat (first | (with_reducible first | exact HB.out | apply below_alloc | apply pw_below_drewN | apply below_drew1 | refine below_set ?_ GE174.out) | exact HB.out)⟩
    ·replace c19 := Bool.eq_false_iff.mpr c19
     subst c19
     have H1 : ((tourref5_GridFault.f kj4 a0_0 a0_1 l0_2).bind fun t180 => ((flow_Check.f kj4 a0_0 a0_1 l0_2).bind fun t181 => (if t181 = t180 then ((flow_Step.f kj4 a0_0 a0_1 l0_2 a2 a3).bind fun t182 => ((tourref5_Beyond.f kj4 a0_0 a0_1 l0_2 a2 a3).bind fun t183 => (tourlaw5_FlowTells.j1 kj4 l1 a2 t180 (t182 != t183) a0_0 a0_1 l0_2))) else (tourlaw5_FlowTells.j1 kj4 l1 a2 t180 true a0_0 a0_1 l0_2)))) = some r := by rw [if_neg (show ¬ (false = true) by decide)] at H; exact H
     clear H
     have H := H1
     clear H1
     replace H := Option.bind_eq_some_iff.mp H
     obtain ⟨t180, A200, H⟩ := H
     replace H : ((flow_Check.f kj4 a0_0 a0_1 l0_2).bind fun t181 => (if t181 = t180 then ((flow_Step.f kj4 a0_0 a0_1 l0_2 a2 a3).bind fun t182 => ((tourref5_Beyond.f kj4 a0_0 a0_1 l0_2 a2 a3).bind fun t183 => (tourlaw5_FlowTells.j1 kj4 l1 a2 t180 (t182 != t183) a0_0 a0_1 l0_2))) else (tourlaw5_FlowTells.j1 kj4 l1 a2 t180 true a0_0 a0_1 l0_2))) = some r := H
     have A20 := Aside0.mk A200
     clear A200
     have HC21 := Aside0.mk H
     clear H
     have hcz22_0 : wc.cell? ⟨gb174, 0, none⟩ = some (.int .i64 a0_0) := (blk_cell BK174.out 0).trans rfl
     have hcz22_1 : wc.cell? ⟨gb174, 1, none⟩ = some (.int .i64 a0_1) := (blk_cell BK174.out 1).trans rfl
     have hcz22_2 : wc.cell? ⟨gb174, 2, none⟩ = some (.slice A0_2 l0_2.length c0_2) := (blk_cell BK174.out 2).trans rfl
     have hfz22_0 := blk_frozen BK174.out 0
     have hfz22_1 := blk_frozen BK174.out 1
     have hfz22_2 := blk_frozen BK174.out 2
     go_upto_region 4 with (first | ((with_reducible refine gate_callee (f := 18) rfl ?_); refine goesL_ (some 33) rfl rfl Try.func18 (by kernel_rfl) rfl #[.agg #[.int .i64 a0_0, .int .i64 a0_1, .slice A0_2 l0_2.length c0_2]] rfl (by (try simp only [zm1, zm2, zm3]); first | done | rfl) ?_; (with_reducible refine (tourref5_GridFault.calls kj4 a0_0 a0_1 _ _ l0_2 t180 _ ?side1 ?side2 A20.out).mono ?_); (case side1 => repeat (first | exact (Kd.C_below HR0_2.out HB.out) | (with_reducible refine Kd.C_alloc ?_ _) | (with_reducible refine Kd.C_drewN ?_ _) | (with_reducible refine Kd.C_drew ?_))); (case side2 => exact HC0_2.out); rintro e w23 ⟨rfl, hb⟩; refine ⟨_, rfl, ?_⟩; have n0_ := Aside0.mk (bb hb BK174.out); have n1_ := Aside0.mk (below_step (by repeat (first | (with_reducible first | exact HB.out | apply below_alloc | apply pw_below_drewN | apply below_drew1 | refine below_set ?_ GE174.out) | exact HB.out)) hb); clear BK174; clear HB; have BK174 := n0_; have HB := n1_; clear n0_ n1_; (try clear hb); (try clear hb2); (try clear hk); (try clear hi)))
     (try simp only [Act.put, zq1, zq2, zq3])
     go_cut [48] (fun v48 wc => ∃ (kq : Nat) (x48_20 : Bool), v48 = .bool x48_20 ∧ Aside0 (tourlaw5_FlowTells.j1 kq l1 a2 t180 x48_20 a0_0 a0_1 l0_2 = some r) ∧ Aside0 (kq ≤ kj4) ∧ Aside0 (wc.heap[gb174]? = some (.cells #[.int .i64 a0_0, .int .i64 a0_1, (.slice A0_2 l0_2.length c0_2)] 25 (0, 0))) ∧ Aside0 (Below w.heap.size w wc))
     case first =>
      have H := HC21.out
      clear HC21
      replace H := Option.bind_eq_some_iff.mp H
      obtain ⟨t181, A240, H⟩ := H
      replace H : (if t181 = t180 then ((flow_Step.f kj4 a0_0 a0_1 l0_2 a2 a3).bind fun t182 => ((tourref5_Beyond.f kj4 a0_0 a0_1 l0_2 a2 a3).bind fun t183 => (tourlaw5_FlowTells.j1 kj4 l1 a2 t180 (t182 != t183) a0_0 a0_1 l0_2))) else (tourlaw5_FlowTells.j1 kj4 l1 a2 t180 true a0_0 a0_1 l0_2)) = some r := H
      have A24 := Aside0.mk A240
      clear A240
      by_cases c25 : t181 = t180
      ·rw [if_pos c25] at H
       have c25b0 : (t181 == t180) = true := beq_iff_eq.mpr c25
       have c25b1 : (t181 != t180) = false := bne_eq_false_iff_eq.mpr c25
       clear c25
       (first | rw [c25b0] | (simp only [i64_w, i32_w]; rw [c25b0]) | skip)
       replace H := Option.bind_eq_some_iff.mp H
       obtain ⟨t182, A260, H⟩ := H
       replace H : ((tourref5_Beyond.f kj4 a0_0 a0_1 l0_2 a2 a3).bind fun t183 => (tourlaw5_FlowTells.j1 kj4 l1 a2 t180 (t182 != t183) a0_0 a0_1 l0_2)) = some r := H
       have A26 := Aside0.mk A260
       clear A260
       replace H := Option.bind_eq_some_iff.mp H
       obtain ⟨t183, A270, H⟩ := H
       replace H : (tourlaw5_FlowTells.j1 kj4 l1 a2 t180 (t182 != t183) a0_0 a0_1 l0_2) = some r := H
       have A27 := Aside0.mk A270
       clear A270
       have H' := Aside0.mk H
       clear H
       try go_wp2
       have n0_ := Aside0.mk (blk_drew BK174.out)
       have n1_ := Aside0.mk (below_drew1 HB.out)
       clear BK174
       clear HB
       have BK174 := n0_
       have HB := n1_
       clear n0_ n1_
       refine start_ (n := 15) (S := fun w' => w'.cell? ⟨gb174, 0, none⟩ = some (.int .i64 a0_0) ∧ w'.cell? ⟨gb174, 1, none⟩ = some (.int .i64 a0_1) ∧ w'.cell? ⟨gb174, 2, none⟩ = some (.slice A0_2 l0_2.length c0_2)) (ds := []) (ab 15 0) (by kernel_rfl) rfl rfl ⟨(blk_cell BK174.out 0).trans rfl, (blk_cell BK174.out 1).trans rfl, (blk_cell BK174.out 2).trans rfl⟩ (fun hHeld => ?_); refine with_tabW tourlaw5_FlowTells.tab4 tourlaw5_FlowTells.bits4 (fun HT_ HW_ => ?_)
       generalize w23.drew = w28 at BK174 HB hHeld ⊢
       refine pure_ (i := 2) (N := some 36) (v := ?_) (a' := ?_) (ab 15 4) rfl rfl (any_of HT_.out (by kernel_rfl)) (fun _ _ _ h => h) (Or.inl ⟨by rfl, ?_⟩) ?_ ?_
       rotate_left
       ·intro w'
        go_simp
        with_reducible rfl
       rotate_left
       ·simp only [Act.put, zq1, zq2, zq3, i64_w, i32_w]
        rfl
       refine take_ (i := 0) (N := some 34) (v := ?_) (a' := ?_) (ab 15 5) rfl rfl (take_ofW HT_.out HW_.out (by kernel_rfl)) (fun _ _ _ h => h) (Or.inl ⟨by rfl, ?_⟩) hHeld ?_ ?_
       rotate_left
       ·rintro w' ⟨s0, s1, s2⟩
        go_simp
        with_reducible rfl
       rotate_left
       ·simp only [Act.put, zq1, zq2, zq3, i64_w, i32_w]
        rfl
       refine one_ (i := 1) (N := some 35) (ab 15 7) rfl rfl (one_of HT_.out (by kernel_rfl)) (by decide) (fun K hK => ?_)
       refine goes_ Try.func17 (by kernel_rfl) rfl #[.agg #[.int .i64 a0_0, .int .i64 a0_1, .slice A0_2 l0_2.length c0_2]] (by rfl) rfl rfl (by (try simp only [zm1, zm2, zm3]); first | done | rfl) ?_
       with_reducible refine (flow_Check.calls kj4 a0_0 a0_1 _ _ l0_2 t181 _ ?side1 ?side2 A24.out).mono ?_
       (case side1 => repeat (first | exact (Kd.C_below HR0_2.out HB.out) | (with_reducible refine Kd.C_alloc ?_ _) | (with_reducible refine Kd.C_drewN ?_ _) | (with_reducible refine Kd.C_drew ?_)))
       (case side2 => exact HC0_2.out)
       rintro e w29 ⟨rfl, hb⟩
       refine ⟨_, rfl, ?_⟩
       have n0_ := Aside0.mk (bb hb BK174.out)
       have n1_ := Aside0.mk (below_step (by repeat (first | (with_reducible first | exact HB.out | apply below_alloc | apply pw_below_drewN | apply below_drew1 | refine below_set ?_ GE174.out) | exact HB.out)) hb)
       clear BK174
       clear HB
       have BK174 := n0_
       have HB := n1_
       clear n0_ n1_
       (try clear hb)
       (try clear hb2)
       (try clear hk)
       (try clear hi)
       refine hK.out _ _ ⟨(blk_cell BK174.out 0).trans rfl, (blk_cell BK174.out 1).trans rfl, (blk_cell BK174.out 2).trans rfl⟩ (fun hHeld => ?_)
       clear hK K
       refine norm_ (a' := ?_) ?_ ?_
       rotate_left
       ·show Act.put _ (some 35) _ = _
        simp only [Act.put, zq1, zq2, zq3, i64_w, i32_w]
        rfl
       refine pure_ (i := 3) (N := some 37) (v := ?_) (a' := ?_) (ab 15 15) rfl rfl (any_of HT_.out (by kernel_rfl)) (fun _ _ _ h => h) (Or.inl ⟨by rfl, ?_⟩) ?_ ?_
       rotate_left
       ·intro w'
        go_simp
        with_reducible rfl
       rotate_left
       ·simp only [Act.put, zq1, zq2, zq3, i64_w, i32_w]
        rfl
       refine pure_ (i := 4) (N := some 38) (v := ?_) (a' := ?_) (ab 15 31) rfl rfl (any_of HT_.out (by kernel_rfl)) (fun _ _ _ h => h) (Or.inl ⟨by rfl, ?_⟩) ?_ ?_
       rotate_left
       ·intro w'
        go_simp
        with_reducible rfl
       rotate_left
       ·simp only [Act.put, zq1, zq2, zq3, i64_w, i32_w]
        rfl
       refine pure_ (i := 6) (N := some 40) (v := ?_) (a' := ?_) (ab 15 95) rfl rfl (any_of HT_.out (by kernel_rfl)) (fun _ _ _ h => h) (Or.inl ⟨by rfl, ?_⟩) ?_ ?_
       rotate_left
       ·intro w'
        go_simp
        with_reducible rfl
       rotate_left
       ·simp only [Act.put, zq1, zq2, zq3, i64_w, i32_w]
        rfl
       refine pure_ (i := 7) (N := some 41) (v := ?_) (a' := ?_) (ab 15 223) rfl rfl (any_of HT_.out (by kernel_rfl)) (fun _ _ _ h => h) (Or.inl ⟨by rfl, ?_⟩) ?_ ?_
       rotate_left
       ·intro w'
        go_simp
        with_reducible rfl
       rotate_left
       ·simp only [Act.put, zq1, zq2, zq3, i64_w, i32_w]
        rfl
       refine pure_ (i := 10) (N := some 44) (v := ?_) (a' := ?_) (ab 15 1247) rfl rfl (any_of HT_.out (by kernel_rfl)) (fun _ _ _ h => h) (Or.inl ⟨by rfl, ?_⟩) ?_ ?_
       rotate_left
       ·intro w'
        go_simp
        with_reducible rfl
       rotate_left
       ·simp only [Act.put, zq1, zq2, zq3, i64_w, i32_w]
        rfl
       refine pure_ (i := 11) (N := some 45) (v := ?_) (a' := ?_) (ab 15 3295) rfl rfl (any_of HT_.out (by kernel_rfl)) (fun _ _ _ h => h) (Or.inl ⟨by rfl, ?_⟩) ?_ ?_
       rotate_left
       ·intro w'
        go_simp
        with_reducible rfl
       rotate_left
       ·simp only [Act.put, zq1, zq2, zq3, i64_w, i32_w]
        rfl
       refine take_ (i := 5) (N := some 39) (v := ?_) (a' := ?_) (ab 15 3327) rfl rfl (take_ofW HT_.out HW_.out (by kernel_rfl)) (fun _ _ _ h => h) (Or.inl ⟨by rfl, ?_⟩) hHeld ?_ ?_
       rotate_left
       ·rintro w' ⟨s0, s1, s2⟩
        go_simp
        with_reducible rfl
       rotate_left
       ·simp only [Act.put, zq1, zq2, zq3, i64_w, i32_w]
        rfl
       refine take_ (i := 9) (N := some 43) (v := ?_) (a' := ?_) (ab 15 3839) rfl rfl (take_ofW HT_.out HW_.out (by kernel_rfl)) (fun _ _ _ h => h) (Or.inl ⟨by rfl, ?_⟩) hHeld ?_ ?_
       rotate_left
       ·rintro w' ⟨s0, s1, s2⟩
        go_simp
        with_reducible rfl
       rotate_left
       ·simp only [Act.put, zq1, zq2, zq3, i64_w, i32_w]
        rfl
       refine one_ (i := 8) (N := some 42) (ab 15 4095) rfl rfl (one_of HT_.out (by kernel_rfl)) (by decide) (fun K hK => ?_)
       refine goes_ Try.func12 (by kernel_rfl) rfl #[.agg #[.int .i64 a0_0, .int .i64 a0_1, .slice A0_2 l0_2.length c0_2], .int .i64 a2, .int .i64 a3] (by rfl) rfl rfl (by (try simp only [zm1, zm2, zm3]); first | done | rfl) ?_
       with_reducible refine (flow_Step.calls kj4 a0_0 a0_1 _ _ l0_2 a2 a3 t182 _ ?side1 ?side2 A26.out).mono ?_
       (case side1 => repeat (first | exact (Kd.C_below HR0_2.out HB.out) | (with_reducible refine Kd.C_alloc ?_ _) | (with_reducible refine Kd.C_drewN ?_ _) | (with_reducible refine Kd.C_drew ?_)))
       (case side2 => exact HC0_2.out)
       rintro e w30 ⟨rfl, hb⟩
       refine ⟨_, rfl, ?_⟩
       have n0_ := Aside0.mk (bb hb BK174.out)
       have n1_ := Aside0.mk (below_step (by repeat (first | (with_reducible first | exact HB.out | apply below_alloc | apply pw_below_drewN | apply below_drew1 | refine below_set ?_ GE174.out) | exact HB.out)) hb)
       clear BK174
       clear HB
       have BK174 := n0_
       have HB := n1_
       clear n0_ n1_
       (try clear hb)
       (try clear hb2)
       (try clear hk)
       (try clear hi)
       refine hK.out _ _ ⟨(blk_cell BK174.out 0).trans rfl, (blk_cell BK174.out 1).trans rfl, (blk_cell BK174.out 2).trans rfl⟩ (fun hHeld => ?_)
       clear hK K
       refine norm_ (a' := ?_) ?_ ?_
       rotate_left
       ·show Act.put _ (some 42) _ = _
        simp only [Act.put, zq1, zq2, zq3, i64_w, i32_w]
        rfl
       refine one_ (i := 12) (N := some 46) (ab 15 8191) rfl rfl (one_of HT_.out (by kernel_rfl)) (by decide) (fun K hK => ?_)
       refine goes_ Try.func19 (by kernel_rfl) rfl #[.agg #[.int .i64 a0_0, .int .i64 a0_1, .slice A0_2 l0_2.length c0_2], .int .i64 a2, .int .i64 a3] (by rfl) rfl rfl (by (try simp only [zm1, zm2, zm3]); first | done | rfl) ?_
       with_reducible refine (tourref5_Beyond.calls kj4 a0_0 a0_1 _ _ l0_2 a2 a3 t183 _ ?side1 ?side2 A27.out).mono ?_
       (case side1 => repeat (first | exact (Kd.C_below HR0_2.out HB.out) | (with_reducible refine Kd.C_alloc ?_ _) | (with_reducible refine Kd.C_drewN ?_ _) | (with_reducible refine Kd.C_drew ?_)))
       (case side2 => exact HC0_2.out)
       rintro e w31 ⟨rfl, hb⟩
       refine ⟨_, rfl, ?_⟩
       have n0_ := Aside0.mk (bb hb BK174.out)
       have n1_ := Aside0.mk (below_step (by repeat (first | (with_reducible first | exact HB.out | apply below_alloc | apply pw_below_drewN | apply below_drew1 | refine below_set ?_ GE174.out) | exact HB.out)) hb)
       clear BK174
       clear HB
       have BK174 := n0_
       have HB := n1_
       clear n0_ n1_
       (try clear hb)
       (try clear hb2)
       (try clear hk)
       (try clear hi)
       refine hK.out _ _ ⟨(blk_cell BK174.out 0).trans rfl, (blk_cell BK174.out 1).trans rfl, (blk_cell BK174.out 2).trans rfl⟩ (fun hHeld => ?_)
       clear hK K
       refine norm_ (a' := ?_) ?_ ?_
       rotate_left
       ·show Act.put _ (some 46) _ = _
        simp only [Act.put, zq1, zq2, zq3, i64_w, i32_w]
        rfl
       refine pure_ (i := 13) (N := some 47) (v := ?_) (a' := ?_) (ab 15 16383) rfl rfl (any_of HT_.out (by kernel_rfl)) (fun _ _ _ h => h) (Or.inl ⟨by rfl, ?_⟩) ?_ ?_
       rotate_left
       ·intro w'
        go_simp
        with_reducible rfl
       rotate_left
       ·simp only [Act.put, zq1, zq2, zq3, i64_w, i32_w]
        rfl
       refine pure_ (i := 14) (N := some 48) (v := ?_) (a' := ?_) (ab 15 32767) rfl rfl (any_of HT_.out (by kernel_rfl)) (fun _ _ _ h => h) (Or.inl ⟨by rfl, ?_⟩) ?_ ?_
       rotate_left
       ·intro w'
        go_simp
        with_reducible rfl
       rotate_left
       ·simp only [Act.put, zq1, zq2, zq3, i64_w, i32_w]
        rfl
       refine done_ (done_of HT_.out (by kernel_rfl)) ?_
       try go_wp2
       go_meet
       case rel => exact ⟨_, ((t182 != t183)), (by first | rfl | (simp; done) | (simp [*]; done)), H', ⟨by have := HJ4.out; first | omega | exact Nat.le_refl _⟩, ⟨BK174.out⟩, ⟨by repeat (first | (with_reducible first | exact HB.out | apply below_alloc | apply pw_below_drewN | apply below_drew1 | refine below_set ?_ GE174.out) | exact HB.out)⟩⟩
      ·rw [if_neg c25] at H
       have c25b0 : (t181 == t180) = false := beq_eq_false_iff_ne.mpr c25
       have c25b1 : (t181 != t180) = true := bne_iff_ne.mpr c25
       (first | rw [c25b0] | (simp only [i64_w, i32_w]; rw [c25b0]) | skip)
       have H' := Aside0.mk H
       clear H
       try go_wp2
       have n0_ := Aside0.mk (blk_drew BK174.out)
       have n1_ := Aside0.mk (below_drew1 HB.out)
       clear BK174
       clear HB
       have BK174 := n0_
       have HB := n1_
       clear n0_ n1_
       refine start_ (n := 15) (S := fun w' => w'.cell? ⟨gb174, 0, none⟩ = some (.int .i64 a0_0) ∧ w'.cell? ⟨gb174, 1, none⟩ = some (.int .i64 a0_1) ∧ w'.cell? ⟨gb174, 2, none⟩ = some (.slice A0_2 l0_2.length c0_2)) (ds := []) (ab 15 0) (by kernel_rfl) rfl rfl ⟨(blk_cell BK174.out 0).trans rfl, (blk_cell BK174.out 1).trans rfl, (blk_cell BK174.out 2).trans rfl⟩ (fun hHeld => ?_); refine with_tabW tourlaw5_FlowTells.tab4 tourlaw5_FlowTells.bits4 (fun HT_ HW_ => ?_)
       generalize w23.drew = w32 at BK174 HB hHeld ⊢
       refine pure_ (i := 2) (N := some 36) (v := ?_) (a' := ?_) (ab 15 4) rfl rfl (any_of HT_.out (by kernel_rfl)) (fun _ _ _ h => h) (Or.inl ⟨by rfl, ?_⟩) ?_ ?_
       rotate_left
       ·intro w'
        go_simp
        with_reducible rfl
       rotate_left
       ·simp only [Act.put, zq1, zq2, zq3, i64_w, i32_w]
        rfl
       refine take_ (i := 0) (N := some 34) (v := ?_) (a' := ?_) (ab 15 5) rfl rfl (take_ofW HT_.out HW_.out (by kernel_rfl)) (fun _ _ _ h => h) (Or.inl ⟨by rfl, ?_⟩) hHeld ?_ ?_
       rotate_left
       ·rintro w' ⟨s0, s1, s2⟩
        go_simp
        with_reducible rfl
       rotate_left
       ·simp only [Act.put, zq1, zq2, zq3, i64_w, i32_w]
        rfl
       refine one_ (i := 1) (N := some 35) (ab 15 7) rfl rfl (one_of HT_.out (by kernel_rfl)) (by decide) (fun K hK => ?_)
       refine goes_ Try.func17 (by kernel_rfl) rfl #[.agg #[.int .i64 a0_0, .int .i64 a0_1, .slice A0_2 l0_2.length c0_2]] (by rfl) rfl rfl (by (try simp only [zm1, zm2, zm3]); first | done | rfl) ?_
       with_reducible refine (flow_Check.calls kj4 a0_0 a0_1 _ _ l0_2 t181 _ ?side1 ?side2 A24.out).mono ?_
       (case side1 => repeat (first | exact (Kd.C_below HR0_2.out HB.out) | (with_reducible refine Kd.C_alloc ?_ _) | (with_reducible refine Kd.C_drewN ?_ _) | (with_reducible refine Kd.C_drew ?_)))
       (case side2 => exact HC0_2.out)
       rintro e w33 ⟨rfl, hb⟩
       refine ⟨_, rfl, ?_⟩
       have n0_ := Aside0.mk (bb hb BK174.out)
       have n1_ := Aside0.mk (below_step (by repeat (first | (with_reducible first | exact HB.out | apply below_alloc | apply pw_below_drewN | apply below_drew1 | refine below_set ?_ GE174.out) | exact HB.out)) hb)
       clear BK174
       clear HB
       have BK174 := n0_
       have HB := n1_
       clear n0_ n1_
       (try clear hb)
       (try clear hb2)
       (try clear hk)
       (try clear hi)
       refine hK.out _ _ ⟨(blk_cell BK174.out 0).trans rfl, (blk_cell BK174.out 1).trans rfl, (blk_cell BK174.out 2).trans rfl⟩ (fun hHeld => ?_)
       clear hK K
       refine norm_ (a' := ?_) ?_ ?_
       rotate_left
       ·show Act.put _ (some 35) _ = _
        simp only [Act.put, zq1, zq2, zq3, i64_w, i32_w]
        rfl
       refine pure_ (i := 3) (N := some 37) (v := ?_) (a' := ?_) (ab 15 15) rfl rfl (any_of HT_.out (by kernel_rfl)) (fun _ _ _ h => h) (Or.inl ⟨by rfl, ?_⟩) ?_ ?_
       rotate_left
       ·intro w'
        go_simp
        with_reducible rfl
       rotate_left
       ·simp only [Act.put, zq1, zq2, zq3, i64_w, i32_w]
        rfl
       refine pure_ (i := 4) (N := some 38) (v := ?_) (a' := ?_) (ab 15 31) rfl rfl (any_of HT_.out (by kernel_rfl)) (fun _ _ _ h => h) (Or.inl ⟨by rfl, ?_⟩) ?_ ?_
       rotate_left
       ·intro w'
        go_simp
        with_reducible rfl
       rotate_left
       ·simp only [Act.put, zq1, zq2, zq3, i64_w, i32_w]
        rfl
       refine pure_ (i := 5) (N := some 39) (v := undef) (a' := ?_) (ab 15 63) rfl rfl (any_of HT_.out (by kernel_rfl)) (fun _ _ _ h => h) (Or.inr ⟨by rfl, rfl⟩) ?_ ?_
       rotate_left
       ·simp only [Act.put, zq1, zq2, zq3, i64_w, i32_w]
        rfl
       refine pure_ (i := 6) (N := some 40) (v := undef) (a' := ?_) (ab 15 127) rfl rfl (any_of HT_.out (by kernel_rfl)) (fun _ _ _ h => h) (Or.inr ⟨by rfl, rfl⟩) ?_ ?_
       rotate_left
       ·simp only [Act.put, zq1, zq2, zq3, i64_w, i32_w]
        rfl
       refine pure_ (i := 7) (N := some 41) (v := undef) (a' := ?_) (ab 15 255) rfl rfl (any_of HT_.out (by kernel_rfl)) (fun _ _ _ h => h) (Or.inr ⟨by rfl, rfl⟩) ?_ ?_
       rotate_left
       ·simp only [Act.put, zq1, zq2, zq3, i64_w, i32_w]
        rfl
       refine pure_ (i := 8) (N := some 42) (v := undef) (a' := ?_) (ab 15 511) rfl rfl (any_of HT_.out (by kernel_rfl)) (fun _ _ _ h => h) (Or.inr ⟨by rfl, rfl⟩) ?_ ?_
       rotate_left
       ·simp only [Act.put, zq1, zq2, zq3, i64_w, i32_w]
        rfl
       refine pure_ (i := 9) (N := some 43) (v := undef) (a' := ?_) (ab 15 1023) rfl rfl (any_of HT_.out (by kernel_rfl)) (fun _ _ _ h => h) (Or.inr ⟨by rfl, rfl⟩) ?_ ?_
       rotate_left
       ·simp only [Act.put, zq1, zq2, zq3, i64_w, i32_w]
        rfl
       refine pure_ (i := 10) (N := some 44) (v := undef) (a' := ?_) (ab 15 2047) rfl rfl (any_of HT_.out (by kernel_rfl)) (fun _ _ _ h => h) (Or.inr ⟨by rfl, rfl⟩) ?_ ?_
       rotate_left
       ·simp only [Act.put, zq1, zq2, zq3, i64_w, i32_w]
        rfl
       refine pure_ (i := 11) (N := some 45) (v := undef) (a' := ?_) (ab 15 4095) rfl rfl (any_of HT_.out (by kernel_rfl)) (fun _ _ _ h => h) (Or.inr ⟨by rfl, rfl⟩) ?_ ?_
       rotate_left
       ·simp only [Act.put, zq1, zq2, zq3, i64_w, i32_w]
        rfl
       refine pure_ (i := 12) (N := some 46) (v := undef) (a' := ?_) (ab 15 8191) rfl rfl (any_of HT_.out (by kernel_rfl)) (fun _ _ _ h => h) (Or.inr ⟨by rfl, rfl⟩) ?_ ?_
       rotate_left
       ·simp only [Act.put, zq1, zq2, zq3, i64_w, i32_w]
        rfl
       refine pure_ (i := 13) (N := some 47) (v := undef) (a' := ?_) (ab 15 16383) rfl rfl (any_of HT_.out (by kernel_rfl)) (fun _ _ _ h => h) (Or.inr ⟨by rfl, rfl⟩) ?_ ?_
       rotate_left
       ·simp only [Act.put, zq1, zq2, zq3, i64_w, i32_w]
        rfl
       refine pure_ (i := 14) (N := some 48) (v := ?_) (a' := ?_) (ab 15 32767) rfl rfl (any_of HT_.out (by kernel_rfl)) (fun _ _ _ h => h) (Or.inl ⟨by rfl, ?_⟩) ?_ ?_
       rotate_left
       ·intro w'
        go_simp
        with_reducible rfl
       rotate_left
       ·simp only [Act.put, zq1, zq2, zq3, i64_w, i32_w]
        rfl
       refine done_ (done_of HT_.out (by kernel_rfl)) ?_
       try go_wp2
       go_meet
       case rel => exact ⟨_, (true), (by first | rfl | (simp; done) | (simp [*]; done)), H', ⟨by have := HJ4.out; first | omega | exact Nat.le_refl _⟩, ⟨BK174.out⟩, ⟨by repeat (first | (with_reducible first | exact HB.out | apply below_alloc | apply pw_below_drewN | apply below_drew1 | refine below_set ?_ GE174.out) | exact HB.out)⟩⟩
     case rest =>
      refine @idd ?P2 ?_
      let rec aux2 : ?P2 := by
       clear HC21
       try clear c1; try clear c2; try clear p2; try clear c6; try clear c8; try clear c8b0; try clear c8b1; try clear c12
       try clear c17; try clear c18; try clear c19; try clear c25; try clear c25b0; try clear c25b1; try clear hcz22_0; try clear hcz22_1
       try clear hcz22_2; try clear hfz22_0; try clear hfz22_1; try clear hfz22_2; try clear p2
       obtain ⟨kq, x48_20, rfl, HA, HJ20, BK174, HB⟩ := hcut
       cases kq with
       | zero => exact absurd HA.out (by simp [tourlaw5_FlowTells.j1])
       | succ kj20 =>
        have H := HA.out
        clear HA
        simp only [tourlaw5_FlowTells.j1] at H
        by_cases c34 : x48_20 = true
        ·subst c34
         have H1 : (some false) = some r := by rw [if_pos rfl] at H; exact H
         clear H
         have H := H1
         clear H1
         obtain rfl := Option.some.inj H
         go_wp2
         go_ret
         exact ⟨by first | rfl | (simp [errW_none, errW_some] <;> rfl) | (simp [*, errW_none, errW_some] <;> rfl), by repeat (first | (with_reducible first | exact HB.out | apply below_alloc | apply pw_below_drewN | apply below_drew1 | refine below_set ?_ GE174.out) | exact HB.out)⟩
        ·replace c34 := Bool.eq_false_iff.mpr c34
         subst c34
         have H1 : (if t180 = 0 then ((slices_ContainsFunc_int_int.f l1 a0_0 a0_1 l0_2).bind fun t184 => (tourlaw5_FlowTells.j2 kj20 l1 a2 t180 t184 a0_0 a0_1 l0_2)) else (tourlaw5_FlowTells.j2 kj20 l1 a2 t180 false a0_0 a0_1 l0_2)) = some r := by rw [if_neg (show ¬ (false = true) by decide)] at H; exact H
         clear H
         have H := H1
         clear H1
         have HC35 := Aside0.mk H
         clear H
         go_upto_region 6 with (fail)
         go_cut [55] (fun v55 wc => ∃ (kq : Nat) (x55_34 : Bool), v55 = .bool x55_34 ∧ Aside0 (tourlaw5_FlowTells.j2 kq l1 a2 t180 x55_34 a0_0 a0_1 l0_2 = some r) ∧ Aside0 (kq ≤ kj20) ∧ Aside0 (wc.heap[gb174]? = some (.cells #[.int .i64 a0_0, .int .i64 a0_1, (.slice A0_2 l0_2.length c0_2)] 25 (0, 0))) ∧ Aside0 (Below w.heap.size w wc))
         case first =>
          have H := HC35.out
          clear HC35
          by_cases c36 : t180 = 0
          ·rw [if_pos c36] at H
           have c36b0 : (t180 == 0) = true := beq_iff_eq.mpr c36
           have c36b1 : (t180 != 0) = false := bne_eq_false_iff_eq.mpr c36
           clear c36
           (first | rw [c36b0] | (simp only [i64_w, i32_w]; rw [c36b0]) | skip)
           replace H := Option.bind_eq_some_iff.mp H
           obtain ⟨t184, A370, H⟩ := H
           replace H : (tourlaw5_FlowTells.j2 kj20 l1 a2 t180 t184 a0_0 a0_1 l0_2) = some r := H
           have A37 := Aside0.mk A370
           clear A370
           have H' := Aside0.mk H
           clear H
           have hcz38_0 : wc.cell? ⟨gb174, 0, none⟩ = some (.int .i64 a0_0) := (blk_cell BK174.out 0).trans rfl
           have hcz38_1 : wc.cell? ⟨gb174, 1, none⟩ = some (.int .i64 a0_1) := (blk_cell BK174.out 1).trans rfl
           have hcz38_2 : wc.cell? ⟨gb174, 2, none⟩ = some (.slice A0_2 l0_2.length c0_2) := (blk_cell BK174.out 2).trans rfl
           have hfz38_0 := blk_frozen BK174.out 0
           have hfz38_1 := blk_frozen BK174.out 1
           have hfz38_2 := blk_frozen BK174.out 2
           go_wp2_with (first | (go_at_call 20; (with_reducible refine (slices_ContainsFunc_int_int.calls _ _ l1 a0_0 a0_1 A0_2 c0_2 l0_2 t184 _ ?side1 ?side2 ?side3 ?side4 A37.out (gb := gb174) ?side5).mono ?_); (case side5 => exact BK174.out); (case side1 => repeat (first | exact (Kd.C_below HR1.out HB.out) | (with_reducible refine Kd.C_alloc ?_ _) | (with_reducible refine Kd.C_drewN ?_ _) | (with_reducible refine Kd.C_drew ?_))); (case side2 => exact HC1.out); (case side3 => repeat (first | exact (Kd.C_below HR0_2.out HB.out) | (with_reducible refine Kd.C_alloc ?_ _) | (with_reducible refine Kd.C_drewN ?_ _) | (with_reducible refine Kd.C_drew ?_))); (case side4 => exact HC0_2.out); rintro e w39 ⟨rfl, hb⟩; have n0_ := Aside0.mk (bb hb BK174.out); have n1_ := Aside0.mk (below_step (by repeat (first | (with_reducible first | exact HB.out | apply below_alloc | apply pw_below_drewN | apply below_drew1 | refine below_set ?_ GE174.out) | exact HB.out)) hb); clear BK174; clear HB; have BK174 := n0_; have HB := n1_; clear n0_ n1_; (try clear hb); (try clear hb2); (try clear hk); (try clear hi)))
           go_meet
           case rel => exact ⟨_, (t184), (by first | rfl | (simp; done) | (simp [*]; done)), H', ⟨by have := HJ4.out; have := HJ20.out; first | omega | exact Nat.le_refl _⟩, ⟨BK174.out⟩, ⟨by repeat (first | (with_reducible first | exact HB.out | apply below_alloc | apply pw_below_drewN | apply below_drew1 | refine below_set ?_ GE174.out) | exact HB.out)⟩⟩
          ·rw [if_neg c36] at H
           have c36b0 : (t180 == 0) = false := beq_eq_false_iff_ne.mpr c36
           have c36b1 : (t180 != 0) = true := bne_iff_ne.mpr c36
           (first | rw [c36b0] | (simp only [i64_w, i32_w]; rw [c36b0]) | skip)
           have H' := Aside0.mk H
           clear H
           go_wp2
           go_meet
           case rel => exact ⟨_, (false), (by first | rfl | (simp; done) | (simp [*]; done)), H', ⟨by have := HJ4.out; have := HJ20.out; first | omega | exact Nat.le_refl _⟩, ⟨BK174.out⟩, ⟨by repeat (first | (with_reducible first | exact HB.out | apply below_alloc | apply pw_below_drewN | apply below_drew1 | refine below_set ?_ GE174.out) | exact HB.out)⟩⟩
         case rest =>
          refine @idd ?P3 ?_
          let rec aux3 : ?P3 := by
           clear HC35
           try clear c1; try clear c2; try clear p2; try clear c3; try clear c6; try clear c8; try clear c8b0; try clear c8b1
           try clear c12; try clear c17; try clear c18; try clear c19; try clear c25; try clear c25b0; try clear c25b1; try clear c34
           try clear c36; try clear c36b0; try clear c36b1; try clear hcz22_0; try clear hcz22_1; try clear hcz22_2; try clear hcz38_0; try clear hcz38_1
           try clear hcz38_2; try clear hfz22_0; try clear hfz22_1; try clear hfz22_2; try clear hfz38_0; try clear hfz38_1; try clear hfz38_2; try clear p2
           obtain ⟨kq, x55_34, rfl, HA, HJ34, BK174, HB⟩ := hcut
           cases kq with
           | zero => exact absurd HA.out (by simp [tourlaw5_FlowTells.j2])
           | succ kj34 =>
            have H := HA.out
            clear HA
            simp only [tourlaw5_FlowTells.j2] at H
            have HC40 := Aside0.mk H
            clear H
            go_upto_if 55 with (fail)
            go_cut [9] (fun v9 wc => ∃ (kq : Nat) (x9_39 : Int), v9 = .int .i64 x9_39 ∧ Aside0 (tourlaw5_FlowTells.j3 kq l1 a2 x9_39 a0_0 a0_1 l0_2 = some r) ∧ Aside0 (kq ≤ kj34) ∧ Aside0 (wc.heap[gb174]? = some (.cells #[.int .i64 a0_0, .int .i64 a0_1, (.slice A0_2 l0_2.length c0_2)] 25 (0, 0))) ∧ Aside0 (Below w.heap.size w wc))
            case first =>
             have H := HC40.out
             clear HC40
             by_cases c41 : x55_34 = true
             ·subst c41
              have H1 : (tourlaw5_FlowTells.j3 kj34 l1 a2 1 a0_0 a0_1 l0_2) = some r := by rw [if_pos rfl] at H; exact H
              clear H
              have H := H1
              clear H1
              have H' := Aside0.mk H
              clear H
              go_wp2
              go_meet
              case rel => exact ⟨_, (1), (by first | rfl | (simp; done) | (simp [*]; done)), H', ⟨by have := HJ4.out; have := HJ20.out; have := HJ34.out; first | omega | exact Nat.le_refl _⟩, ⟨BK174.out⟩, ⟨by repeat (first | (with_reducible first | exact HB.out | apply below_alloc | apply pw_below_drewN | apply below_drew1 | refine below_set ?_ GE174.out) | exact HB.out)⟩⟩
             ·replace c41 := Bool.eq_false_iff.mpr c41
              subst c41
              have H1 : (tourlaw5_FlowTells.j3 kj34 l1 a2 t180 a0_0 a0_1 l0_2) = some r := by rw [if_neg (show ¬ (false = true) by decide)] at H; exact H
              clear H
              have H := H1
              clear H1
              have H' := Aside0.mk H
              clear H
              go_wp2
              go_meet
              case rel => exact ⟨_, (t180), (by first | rfl | (simp; done) | (simp [*]; done)), H', ⟨by have := HJ4.out; have := HJ20.out; have := HJ34.out; first | omega | exact Nat.le_refl _⟩, ⟨BK174.out⟩, ⟨by repeat (first | (with_reducible first | exact HB.out | apply below_alloc | apply pw_below_drewN | apply below_drew1 | refine below_set ?_ GE174.out) | exact HB.out)⟩⟩
            case rest =>
             refine @idd ?P4 ?_
             let rec aux4 : ?P4 := by
              clear HC40
              try clear c1; try clear c2; try clear p2; try clear c3; try clear c4; try clear c6; try clear c8; try clear c8b0
              try clear c8b1; try clear c12; try clear c17; try clear c18; try clear c19; try clear c25; try clear c25b0; try clear c25b1
              try clear c34; try clear c36; try clear c36b0; try clear c36b1; try clear c41; try clear hcz22_0; try clear hcz22_1; try clear hcz22_2
              try clear hcz38_0; try clear hcz38_1; try clear hcz38_2; try clear hfz22_0; try clear hfz22_1; try clear hfz22_2; try clear hfz38_0; try clear hfz38_1
              try clear hfz38_2; try clear p2
              obtain ⟨kq, x9_39, rfl, HA, HJ39, BK174, HB⟩ := hcut
              cases kq with
              | zero => exact absurd HA.out (by simp [tourlaw5_FlowTells.j3])
              | succ kj39 =>
               have H := HA.out
               clear HA
               simp only [tourlaw5_FlowTells.j3] at H
               replace H := Option.bind_eq_some_iff.mp H
               obtain ⟨⟨t185, t188⟩, A420, H⟩ := H
               replace H : ((flow_Ways.f kj39 a0_0 a0_1 l0_2 l1).bind fun bt189 => ((flow_Walk.f kj39 a0_0 a0_1 l0_2 l1 a2).bind fun bt193 => (if x9_39 = 0 then ((tourref5_Costs.f kj39 a0_0 a0_1 l0_2 l1).bind fun t197 => (if t188 = 0 then (if bt189.2 = 0 then ((slices_Equal_int_int.f kj39 t185 t197).bind fun t200 => (if t200 = true then (tourlaw5_FlowTells.j4 kj39 a2 bt189.1 bt193.1 bt193.2 t197 ((bt189.1.length : Int) != (t197.length : Int)) a0_0 a0_1 l0_2) else (tourlaw5_FlowTells.j4 kj39 a2 bt189.1 bt193.1 bt193.2 t197 true a0_0 a0_1 l0_2))) else (tourlaw5_FlowTells.j4 kj39 a2 bt189.1 bt193.1 bt193.2 t197 true a0_0 a0_1 l0_2)) else (tourlaw5_FlowTells.j4 kj39 a2 bt189.1 bt193.1 bt193.2 t197 true a0_0 a0_1 l0_2))) else (if t188 = x9_39 then (if bt189.2 = x9_39 then (if bt193.2 = x9_39 then (some ((wrap64 ((wrap64 ((t185.length : Int) + (bt189.1.length : Int))) + (bt193.1.length : Int))) == 0)) else (some false)) else (some false)) else (some false))))) = some r := H
               have A42 := Aside0.mk A420
               clear A420
               replace H := Option.bind_eq_some_iff.mp H
               obtain ⟨⟨t189, t192⟩, A430, H⟩ := H
               replace H : ((flow_Walk.f kj39 a0_0 a0_1 l0_2 l1 a2).bind fun bt193 => (if x9_39 = 0 then ((tourref5_Costs.f kj39 a0_0 a0_1 l0_2 l1).bind fun t197 => (if t188 = 0 then (if t192 = 0 then ((slices_Equal_int_int.f kj39 t185 t197).bind fun t200 => (if t200 = true then (tourlaw5_FlowTells.j4 kj39 a2 t189 bt193.1 bt193.2 t197 ((t189.length : Int) != (t197.length : Int)) a0_0 a0_1 l0_2) else (tourlaw5_FlowTells.j4 kj39 a2 t189 bt193.1 bt193.2 t197 true a0_0 a0_1 l0_2))) else (tourlaw5_FlowTells.j4 kj39 a2 t189 bt193.1 bt193.2 t197 true a0_0 a0_1 l0_2)) else (tourlaw5_FlowTells.j4 kj39 a2 t189 bt193.1 bt193.2 t197 true a0_0 a0_1 l0_2))) else (if t188 = x9_39 then (if t192 = x9_39 then (if bt193.2 = x9_39 then (some ((wrap64 ((wrap64 ((t185.length : Int) + (t189.length : Int))) + (bt193.1.length : Int))) == 0)) else (some false)) else (some false)) else (some false)))) = some r := H
               have A43 := Aside0.mk A430
               clear A430
               replace H := Option.bind_eq_some_iff.mp H
               obtain ⟨⟨t193, t196⟩, A440, H⟩ := H
               replace H : (if x9_39 = 0 then ((tourref5_Costs.f kj39 a0_0 a0_1 l0_2 l1).bind fun t197 => (if t188 = 0 then (if t192 = 0 then ((slices_Equal_int_int.f kj39 t185 t197).bind fun t200 => (if t200 = true then (tourlaw5_FlowTells.j4 kj39 a2 t189 t193 t196 t197 ((t189.length : Int) != (t197.length : Int)) a0_0 a0_1 l0_2) else (tourlaw5_FlowTells.j4 kj39 a2 t189 t193 t196 t197 true a0_0 a0_1 l0_2))) else (tourlaw5_FlowTells.j4 kj39 a2 t189 t193 t196 t197 true a0_0 a0_1 l0_2)) else (tourlaw5_FlowTells.j4 kj39 a2 t189 t193 t196 t197 true a0_0 a0_1 l0_2))) else (if t188 = x9_39 then (if t192 = x9_39 then (if t196 = x9_39 then (some ((wrap64 ((wrap64 ((t185.length : Int) + (t189.length : Int))) + (t193.length : Int))) == 0)) else (some false)) else (some false)) else (some false))) = some r := H
               have A44 := Aside0.mk A440
               clear A440
               by_cases c45 : x9_39 = 0
               ·rw [if_pos c45] at H
                have c45b0 : (x9_39 == 0) = true := beq_iff_eq.mpr c45
                have c45b1 : (x9_39 != 0) = false := bne_eq_false_iff_eq.mpr c45
                clear c45
                replace H := Option.bind_eq_some_iff.mp H
                obtain ⟨t197, A460, H⟩ := H
                replace H : (if t188 = 0 then (if t192 = 0 then ((slices_Equal_int_int.f kj39 t185 t197).bind fun t200 => (if t200 = true then (tourlaw5_FlowTells.j4 kj39 a2 t189 t193 t196 t197 ((t189.length : Int) != (t197.length : Int)) a0_0 a0_1 l0_2) else (tourlaw5_FlowTells.j4 kj39 a2 t189 t193 t196 t197 true a0_0 a0_1 l0_2))) else (tourlaw5_FlowTells.j4 kj39 a2 t189 t193 t196 t197 true a0_0 a0_1 l0_2)) else (tourlaw5_FlowTells.j4 kj39 a2 t189 t193 t196 t197 true a0_0 a0_1 l0_2)) = some r := H
                have A46 := Aside0.mk A460
                clear A460
                have HC47 := Aside0.mk H
                clear H
                have hcz48_0 : wc.cell? ⟨gb174, 0, none⟩ = some (.int .i64 a0_0) := (blk_cell BK174.out 0).trans rfl
                have hcz48_1 : wc.cell? ⟨gb174, 1, none⟩ = some (.int .i64 a0_1) := (blk_cell BK174.out 1).trans rfl
                have hcz48_2 : wc.cell? ⟨gb174, 2, none⟩ = some (.slice A0_2 l0_2.length c0_2) := (blk_cell BK174.out 2).trans rfl
                have hfz48_0 := blk_frozen BK174.out 0
                have hfz48_1 := blk_frozen BK174.out 1
                have hfz48_2 := blk_frozen BK174.out 2
                go_upto_region 14 with (first | ((with_reducible refine gate_callee (f := 10) rfl ?_); refine goesL_ (some 59) rfl rfl Try.func10 (by kernel_rfl) rfl #[.agg #[.int .i64 a0_0, .int .i64 a0_1, .slice A0_2 l0_2.length c0_2], .slice A1 l1.length c1] rfl (by (try simp only [zm1, zm2, zm3]); first | done | rfl) ?_; (with_reducible refine (flow_Field.calls kj39 a0_0 a0_1 _ _ l0_2 _ _ l1 t185 t188 _ ?side1 ?side2 ?side3 ?side4 A42.out).mono ?_); (case side1 => repeat (first | exact (Kd.C_below HR0_2.out HB.out) | (with_reducible refine Kd.C_alloc ?_ _) | (with_reducible refine Kd.C_drewN ?_ _) | (with_reducible refine Kd.C_drew ?_))); (case side2 => exact HC0_2.out); (case side3 => repeat (first | exact (Kd.C_below HR1.out HB.out) | (with_reducible refine Kd.C_alloc ?_ _) | (with_reducible refine Kd.C_drewN ?_ _) | (with_reducible refine Kd.C_drew ?_))); (case side4 => exact HC1.out); rintro e w49 ⟨v186, rfl, ho0, hb⟩; refine ⟨_, rfl, ?_⟩; have n0_ := Aside0.mk (Kd.R_lower ho0 (below_size (by repeat (first | (with_reducible first | exact HB.out | apply below_alloc | apply pw_below_drewN | apply below_drew1 | refine below_set ?_ GE174.out) | exact HB.out)))); have n1_ := Aside0.mk (bb hb BK174.out); have n2_ := Aside0.mk (below_step (by repeat (first | (with_reducible first | exact HB.out | apply below_alloc | apply pw_below_drewN | apply below_drew1 | refine below_set ?_ GE174.out) | exact HB.out)) hb); clear BK174; clear HB; have HO187 := n0_; have BK174 := n1_; have HB := n2_; clear n0_ n1_ n2_; (try clear hb); (try clear hb2); (try clear hk); (try clear hi); (try clear ho0); have hcz50_0 : w49.cell? ⟨gb174, 0, none⟩ = some (.int .i64 a0_0) := (blk_cell BK174.out 0).trans rfl; have hcz50_1 : w49.cell? ⟨gb174, 1, none⟩ = some (.int .i64 a0_1) := (blk_cell BK174.out 1).trans rfl; have hcz50_2 : w49.cell? ⟨gb174, 2, none⟩ = some (.slice A0_2 l0_2.length c0_2) := (blk_cell BK174.out 2).trans rfl; have hfz50_0 := blk_frozen BK174.out 0; have hfz50_1 := blk_frozen BK174.out 1; have hfz50_2 := blk_frozen BK174.out 2) | ((with_reducible refine gate_callee (f := 22) rfl ?_); refine goesL_ (some 65) rfl rfl Try.func22 (by kernel_rfl) rfl #[.agg #[.int .i64 a0_0, .int .i64 a0_1, .slice A0_2 l0_2.length c0_2], .slice A1 l1.length c1] rfl (by (try simp only [zm1, zm2, zm3]); first | done | rfl) ?_; (with_reducible refine (flow_Ways.calls kj39 a0_0 a0_1 _ _ l0_2 _ _ l1 t189 t192 _ ?side1 ?side2 ?side3 ?side4 A43.out).mono ?_); (case side1 => repeat (first | exact (Kd.C_below HR0_2.out HB.out) | (with_reducible refine Kd.C_alloc ?_ _) | (with_reducible refine Kd.C_drewN ?_ _) | (with_reducible refine Kd.C_drew ?_))); (case side2 => exact HC0_2.out); (case side3 => repeat (first | exact (Kd.C_below HR1.out HB.out) | (with_reducible refine Kd.C_alloc ?_ _) | (with_reducible refine Kd.C_drewN ?_ _) | (with_reducible refine Kd.C_drew ?_))); (case side4 => exact HC1.out); rintro e w51 ⟨v190, rfl, ho0, hb⟩; refine ⟨_, rfl, ?_⟩; have n0_ := Aside0.mk (Kd.R_elder' (by (with_reducible repeat (first | apply Kd.R_alloc | apply Kd.R_drewN | apply Kd.R_drew)); exact HO187.out) (Kd.R_base ho0) hb); have n1_ := Aside0.mk (Kd.R_lower (Kd.R_new' ho0 (Kd.R_lt (by (with_reducible repeat (first | apply Kd.R_alloc | apply Kd.R_drewN | apply Kd.R_drew)); exact HO187.out))) (below_size (by repeat (first | (with_reducible first | exact HB.out | apply below_alloc | apply pw_below_drewN | apply below_drew1 | refine below_set ?_ GE174.out) | exact HB.out)))); have n2_ := Aside0.mk (bb hb BK174.out); have n3_ := Aside0.mk (below_step (by repeat (first | (with_reducible first | exact HB.out | apply below_alloc | apply pw_below_drewN | apply below_drew1 | refine below_set ?_ GE174.out) | exact HB.out)) hb); clear HO187; clear BK174; clear HB; have HO187 := n0_; have HO191 := n1_; have BK174 := n2_; have HB := n3_; clear n0_ n1_ n2_ n3_; (try clear hb); (try clear hb2); (try clear hk); (try clear hi); (try clear ho0); have hcz52_0 : w51.cell? ⟨gb174, 0, none⟩ = some (.int .i64 a0_0) := (blk_cell BK174.out 0).trans rfl; have hcz52_1 : w51.cell? ⟨gb174, 1, none⟩ = some (.int .i64 a0_1) := (blk_cell BK174.out 1).trans rfl; have hcz52_2 : w51.cell? ⟨gb174, 2, none⟩ = some (.slice A0_2 l0_2.length c0_2) := (blk_cell BK174.out 2).trans rfl; have hfz52_0 := blk_frozen BK174.out 0; have hfz52_1 := blk_frozen BK174.out 1; have hfz52_2 := blk_frozen BK174.out 2) | ((with_reducible refine gate_callee (f := 15) rfl ?_); refine goesL_ (some 72) rfl rfl Try.func15 (by kernel_rfl) rfl #[.agg #[.int .i64 a0_0, .int .i64 a0_1, .slice A0_2 l0_2.length c0_2], .slice A1 l1.length c1, .int .i64 a2] rfl (by (try simp only [zm1, zm2, zm3]); first | done | rfl) ?_; (with_reducible refine (flow_Walk.calls kj39 a0_0 a0_1 _ _ l0_2 _ _ l1 a2 t193 t196 _ ?side1 ?side2 ?side3 ?side4 A44.out).mono ?_); (case side1 => repeat (first | exact (Kd.C_below HR0_2.out HB.out) | (with_reducible refine Kd.C_alloc ?_ _) | (with_reducible refine Kd.C_drewN ?_ _) | (with_reducible refine Kd.C_drew ?_))); (case side2 => exact HC0_2.out); (case side3 => repeat (first | exact (Kd.C_below HR1.out HB.out) | (with_reducible refine Kd.C_alloc ?_ _) | (with_reducible refine Kd.C_drewN ?_ _) | (with_reducible refine Kd.C_drew ?_))); (case side4 => exact HC1.out); rintro e w53 ⟨v194, rfl, ho0, hb⟩; refine ⟨_, rfl, ?_⟩; have n0_ := Aside0.mk (Kd.R_elder' (by (with_reducible repeat (first | apply Kd.R_alloc | apply Kd.R_drewN | apply Kd.R_drew)); exact HO187.out) (Kd.R_base ho0) hb); have n1_ := Aside0.mk (Kd.R_elder' (by (with_reducible repeat (first | apply Kd.R_alloc | apply Kd.R_drewN | apply Kd.R_drew)); exact HO191.out) (Kd.R_base ho0) hb); have n2_ := Aside0.mk (Kd.R_lower (Kd.R_new' (Kd.R_new' ho0 (Kd.R_lt (by (with_reducible repeat (first | apply Kd.R_alloc | apply Kd.R_drewN | apply Kd.R_drew)); exact HO187.out))) (Kd.R_lt (by (with_reducible repeat (first | apply Kd.R_alloc | apply Kd.R_drewN | apply Kd.R_drew)); exact HO191.out))) (below_size (by repeat (first | (with_reducible first | exact HB.out | apply below_alloc | apply pw_below_drewN | apply below_drew1 | refine below_set ?_ GE174.out) | exact HB.out)))); have n3_ := Aside0.mk (bb hb BK174.out); have n4_ := Aside0.mk (below_step (by repeat (first | (with_reducible first | exact HB.out | apply below_alloc | apply pw_below_drewN | apply below_drew1 | refine below_set ?_ GE174.out) | exact HB.out)) hb); clear HO187; clear HO191; clear BK174; clear HB; have HO187 := n0_; have HO191 := n1_; have HO195 := n2_; have BK174 := n3_; have HB := n4_; clear n0_ n1_ n2_ n3_ n4_; (try clear hb); (try clear hb2); (try clear hk); (try clear hi); (try clear ho0); have hcz54_0 : w53.cell? ⟨gb174, 0, none⟩ = some (.int .i64 a0_0) := (blk_cell BK174.out 0).trans rfl; have hcz54_1 : w53.cell? ⟨gb174, 1, none⟩ = some (.int .i64 a0_1) := (blk_cell BK174.out 1).trans rfl; have hcz54_2 : w53.cell? ⟨gb174, 2, none⟩ = some (.slice A0_2 l0_2.length c0_2) := (blk_cell BK174.out 2).trans rfl; have hfz54_0 := blk_frozen BK174.out 0; have hfz54_1 := blk_frozen BK174.out 1; have hfz54_2 := blk_frozen BK174.out 2) | ((with_reducible refine gate_callee (f := 23) rfl ?_); refine goesL_ (some 103) rfl rfl Try.func23 (by kernel_rfl) rfl #[.agg #[.int .i64 a0_0, .int .i64 a0_1, .slice A0_2 l0_2.length c0_2], .slice A1 l1.length c1] rfl (by (try simp only [zm1, zm2, zm3]); first | done | rfl) ?_; (with_reducible refine (tourref5_Costs.calls kj39 a0_0 a0_1 _ _ l0_2 _ _ l1 t197 _ ?side1 ?side2 ?side3 ?side4 A46.out).mono ?_); (case side1 => repeat (first | exact (Kd.C_below HR0_2.out HB.out) | (with_reducible refine Kd.C_alloc ?_ _) | (with_reducible refine Kd.C_drewN ?_ _) | (with_reducible refine Kd.C_drew ?_))); (case side2 => exact HC0_2.out); (case side3 => repeat (first | exact (Kd.C_below HR1.out HB.out) | (with_reducible refine Kd.C_alloc ?_ _) | (with_reducible refine Kd.C_drewN ?_ _) | (with_reducible refine Kd.C_drew ?_))); (case side4 => exact HC1.out); rintro e w55 ⟨v198, rfl, ho0, hb⟩; refine ⟨_, rfl, ?_⟩; have n0_ := Aside0.mk (Kd.R_elder' (by (with_reducible repeat (first | apply Kd.R_alloc | apply Kd.R_drewN | apply Kd.R_drew)); exact HO187.out) (Kd.R_base ho0) hb); have n1_ := Aside0.mk (Kd.R_elder' (by (with_reducible repeat (first | apply Kd.R_alloc | apply Kd.R_drewN | apply Kd.R_drew)); exact HO191.out) (Kd.R_base ho0) hb); have n2_ := Aside0.mk (Kd.R_elder' (by (with_reducible repeat (first | apply Kd.R_alloc | apply Kd.R_drewN | apply Kd.R_drew)); exact HO195.out) (Kd.R_base ho0) hb); have n3_ := Aside0.mk (Kd.R_lower (Kd.R_new' (Kd.R_new' (Kd.R_new' ho0 (Kd.R_lt (by (with_reducible repeat (first | apply Kd.R_alloc | apply Kd.R_drewN | apply Kd.R_drew)); exact HO187.out))) (Kd.R_lt (by (with_reducible repeat (first | apply Kd.R_alloc | apply Kd.R_drewN | apply Kd.R_drew)); exact HO191.out))) (Kd.R_lt (by (with_reducible repeat (first | apply Kd.R_alloc | apply Kd.R_drewN | apply Kd.R_drew)); exact HO195.out))) (below_size (by repeat (first | (with_reducible first | exact HB.out | apply below_alloc | apply pw_below_drewN | apply below_drew1 | refine below_set ?_ GE174.out) | exact HB.out)))); have n4_ := Aside0.mk (bb hb BK174.out); have n5_ := Aside0.mk (below_step (by repeat (first | (with_reducible first | exact HB.out | apply below_alloc | apply pw_below_drewN | apply below_drew1 | refine below_set ?_ GE174.out) | exact HB.out)) hb); clear HO187; clear HO191; clear HO195; clear BK174; clear HB; have HO187 := n0_; have HO191 := n1_; have HO195 := n2_; have HO199 := n3_; have BK174 := n4_; have HB := n5_; clear n0_ n1_ n2_ n3_ n4_ n5_; (try clear hb); (try clear hb2); (try clear hk); (try clear hi); (try clear ho0)))
                (try simp only [Act.put, zq1, zq2, zq3])
                go_cut [122] (fun v122 wc => ∃ (kq : Nat) (x122_46 : Bool), v122 = .bool x122_46 ∧ Aside0 (tourlaw5_FlowTells.j4 kq a2 t189 t193 t196 t197 x122_46 a0_0 a0_1 l0_2 = some r) ∧ Aside0 (kq ≤ kj39) ∧ Aside0 (Kd.R (Kd.int .i64) 3 wc w.heap.size (fun k_ => some k_ ≠ (v194 : Value).ownBlock ∧ some k_ ≠ (v198 : Value).ownBlock) v190 t189) ∧ Aside0 (Kd.Q (Kd.int .i64) 3 wc w.heap.size (fun k_ => some k_ ≠ (v190 : Value).ownBlock ∧ some k_ ≠ (v198 : Value).ownBlock) v194 t193) ∧ Aside0 (Kd.R (Kd.int .i64) 3 wc w.heap.size (fun k_ => some k_ ≠ (v190 : Value).ownBlock ∧ some k_ ≠ (v194 : Value).ownBlock) v198 t197) ∧ Aside0 (wc.heap[gb174]? = some (.cells #[.int .i64 a0_0, .int .i64 a0_1, (.slice A0_2 l0_2.length c0_2)] 25 (0, 0))) ∧ Aside0 (Below w.heap.size w wc))
                case first =>
                 have H := HC47.out
                 clear HC47
                 by_cases c56 : t188 = 0
                 ·rw [if_pos c56] at H
                  have c56b0 : (t188 == 0) = true := beq_iff_eq.mpr c56
                  have c56b1 : (t188 != 0) = false := bne_eq_false_iff_eq.mpr c56
                  clear c56
                  (first | rw [c56b0] | (simp only [i64_w, i32_w]; rw [c56b0]) | skip)
                  by_cases c57 : t192 = 0
                  ·rw [if_pos c57] at H
                   have c57b0 : (t192 == 0) = true := beq_iff_eq.mpr c57
                   have c57b1 : (t192 != 0) = false := bne_eq_false_iff_eq.mpr c57
                   clear c57
                   replace H := Option.bind_eq_some_iff.mp H
                   obtain ⟨t200, A580, H⟩ := H
                   replace H : (if t200 = true then (tourlaw5_FlowTells.j4 kj39 a2 t189 t193 t196 t197 ((t189.length : Int) != (t197.length : Int)) a0_0 a0_1 l0_2) else (tourlaw5_FlowTells.j4 kj39 a2 t189 t193 t196 t197 true a0_0 a0_1 l0_2)) = some r := H
                   have A58 := Aside0.mk A580
                   clear A580
                   by_cases c59 : t200 = true
                   ·subst c59
                    have H1 : (tourlaw5_FlowTells.j4 kj39 a2 t189 t193 t196 t197 ((t189.length : Int) != (t197.length : Int)) a0_0 a0_1 l0_2) = some r := by rw [if_pos rfl] at H; exact H
                    clear H
                    have H := H1
                    clear H1
                    have H' := Aside0.mk H
                    clear H
                    obtain ⟨Ao60, co60, eo60⟩ := Kd.R_slice HO187.out
                    subst eo60
                    obtain ⟨Ao61, co61, eo61⟩ := Kd.R_slice HO199.out
                    subst eo61
                    go_wp2_with (first | (go_at_call 24; (with_reducible refine (slices_Equal_int_int.calls kj39 _ _ t185 _ _ t197 true _ ?side1 ?side2 ?side3 ?side4 A58.out).mono ?_); (case side1 => repeat (first | exact (Kd.R_reads' HO187.out).2.2 | (with_reducible refine Kd.C_alloc ?_ _) | (with_reducible refine Kd.C_drewN ?_ _) | (with_reducible refine Kd.C_drew ?_))); (case side2 => exact (Kd.R_reads' HO187.out).2.1); (case side3 => repeat (first | exact (Kd.R_reads' HO199.out).2.2 | (with_reducible refine Kd.C_alloc ?_ _) | (with_reducible refine Kd.C_drewN ?_ _) | (with_reducible refine Kd.C_drew ?_))); (case side4 => exact (Kd.R_reads' HO199.out).2.1); rintro e w' ⟨rfl, ⟨nd, rfl⟩⟩; obtain ⟨Ao62, co62, eo62⟩ := Kd.R_slice HO191.out; subst eo62))
                    go_meet
                    case rel => exact ⟨_, (((t189.length : Int) != (t197.length : Int))), (by first | rfl | (simp; done) | (simp [*]; done)), H', ⟨by have := HJ4.out; have := HJ20.out; have := HJ34.out; have := HJ39.out; first | omega | exact Nat.le_refl _⟩, ⟨by (with_reducible repeat (first | apply Kd.R_alloc | apply Kd.R_drewN | apply Kd.R_drew)); exact Kd.R_mono HO191.out (fun _ hk => ⟨hk.1.2, hk.2⟩)⟩, ⟨Kd.Q_of_R (by (with_reducible repeat (first | apply Kd.R_alloc | apply Kd.R_drewN | apply Kd.R_drew)); exact Kd.R_mono HO195.out (fun _ hk => ⟨hk.1.2, hk.2⟩))⟩, ⟨by (with_reducible repeat (first | apply Kd.R_alloc | apply Kd.R_drewN | apply Kd.R_drew)); exact Kd.R_mono HO199.out (fun _ hk => ⟨hk.1.2, hk.2⟩)⟩, ⟨BK174.out⟩, ⟨by repeat (first | (with_reducible first | exact HB.out | apply below_alloc | apply pw_below_drewN | apply below_drew1 | refine below_set ?_ GE174.out) | exact HB.out)⟩⟩
                   ·replace c59 := Bool.eq_false_iff.mpr c59
                    subst c59
                    have H1 : (tourlaw5_FlowTells.j4 kj39 a2 t189 t193 t196 t197 true a0_0 a0_1 l0_2) = some r := by rw [if_neg (show ¬ (false = true) by decide)] at H; exact H
                    clear H
                    have H := H1
                    clear H1
                    have H' := Aside0.mk H
                    clear H
                    obtain ⟨Ao63, co63, eo63⟩ := Kd.R_slice HO187.out
                    subst eo63
                    obtain ⟨Ao64, co64, eo64⟩ := Kd.R_slice HO199.out
                    subst eo64
                    go_wp2_with (first | (go_at_call 24; (with_reducible refine (slices_Equal_int_int.calls kj39 _ _ t185 _ _ t197 false _ ?side1 ?side2 ?side3 ?side4 A58.out).mono ?_); (case side1 => repeat (first | exact (Kd.R_reads' HO187.out).2.2 | (with_reducible refine Kd.C_alloc ?_ _) | (with_reducible refine Kd.C_drewN ?_ _) | (with_reducible refine Kd.C_drew ?_))); (case side2 => exact (Kd.R_reads' HO187.out).2.1); (case side3 => repeat (first | exact (Kd.R_reads' HO199.out).2.2 | (with_reducible refine Kd.C_alloc ?_ _) | (with_reducible refine Kd.C_drewN ?_ _) | (with_reducible refine Kd.C_drew ?_))); (case side4 => exact (Kd.R_reads' HO199.out).2.1); rintro e w' ⟨rfl, ⟨nd, rfl⟩⟩))
                    go_meet
                    case rel => exact ⟨_, (true), (by first | rfl | (simp; done) | (simp [*]; done)), H', ⟨by have := HJ4.out; have := HJ20.out; have := HJ34.out; have := HJ39.out; first | omega | exact Nat.le_refl _⟩, ⟨by (with_reducible repeat (first | apply Kd.R_alloc | apply Kd.R_drewN | apply Kd.R_drew)); exact Kd.R_mono HO191.out (fun _ hk => ⟨hk.1.2, hk.2⟩)⟩, ⟨Kd.Q_of_R (by (with_reducible repeat (first | apply Kd.R_alloc | apply Kd.R_drewN | apply Kd.R_drew)); exact Kd.R_mono HO195.out (fun _ hk => ⟨hk.1.2, hk.2⟩))⟩, ⟨by (with_reducible repeat (first | apply Kd.R_alloc | apply Kd.R_drewN | apply Kd.R_drew)); exact Kd.R_mono HO199.out (fun _ hk => ⟨hk.1.2, hk.2⟩)⟩, ⟨BK174.out⟩, ⟨by repeat (first | (with_reducible first | exact HB.out | apply below_alloc | apply pw_below_drewN | apply below_drew1 | refine below_set ?_ GE174.out) | exact HB.out)⟩⟩
                  ·rw [if_neg c57] at H
                   have c57b0 : (t192 == 0) = false := beq_eq_false_iff_ne.mpr c57
                   have c57b1 : (t192 != 0) = true := bne_iff_ne.mpr c57
                   have H' := Aside0.mk H
                   clear H
                   go_wp2
                   go_meet
                   case rel => exact ⟨_, (true), (by first | rfl | (simp; done) | (simp [*]; done)), H', ⟨by have := HJ4.out; have := HJ20.out; have := HJ34.out; have := HJ39.out; first | omega | exact Nat.le_refl _⟩, ⟨by (with_reducible repeat (first | apply Kd.R_alloc | apply Kd.R_drewN | apply Kd.R_drew)); exact Kd.R_mono HO191.out (fun _ hk => ⟨hk.1.2, hk.2⟩)⟩, ⟨Kd.Q_of_R (by (with_reducible repeat (first | apply Kd.R_alloc | apply Kd.R_drewN | apply Kd.R_drew)); exact Kd.R_mono HO195.out (fun _ hk => ⟨hk.1.2, hk.2⟩))⟩, ⟨by (with_reducible repeat (first | apply Kd.R_alloc | apply Kd.R_drewN | apply Kd.R_drew)); exact Kd.R_mono HO199.out (fun _ hk => ⟨hk.1.2, hk.2⟩)⟩, ⟨BK174.out⟩, ⟨by repeat (first | (with_reducible first | exact HB.out | apply below_alloc | apply pw_below_drewN | apply below_drew1 | refine below_set ?_ GE174.out) | exact HB.out)⟩⟩
                 ·rw [if_neg c56] at H
                  have c56b0 : (t188 == 0) = false := beq_eq_false_iff_ne.mpr c56
                  have c56b1 : (t188 != 0) = true := bne_iff_ne.mpr c56
                  (first | rw [c56b0] | (simp only [i64_w, i32_w]; rw [c56b0]) | skip)
                  have H' := Aside0.mk H
                  clear H
                  go_wp2
                  go_meet
                  case rel => exact ⟨_, (true), (by first | rfl | (simp; done) | (simp [*]; done)), H', ⟨by have := HJ4.out; have := HJ20.out; have := HJ34.out; have := HJ39.out; first | omega | exact Nat.le_refl _⟩, ⟨by (with_reducible repeat (first | apply Kd.R_alloc | apply Kd.R_drewN | apply Kd.R_drew)); exact Kd.R_mono HO191.out (fun _ hk => ⟨hk.1.2, hk.2⟩)⟩, ⟨Kd.Q_of_R (by (with_reducible repeat (first | apply Kd.R_alloc | apply Kd.R_drewN | apply Kd.R_drew)); exact Kd.R_mono HO195.out (fun _ hk => ⟨hk.1.2, hk.2⟩))⟩, ⟨by (with_reducible repeat (first | apply Kd.R_alloc | apply Kd.R_drewN | apply Kd.R_drew)); exact Kd.R_mono HO199.out (fun _ hk => ⟨hk.1.2, hk.2⟩)⟩, ⟨BK174.out⟩, ⟨by repeat (first | (with_reducible first | exact HB.out | apply below_alloc | apply pw_below_drewN | apply below_drew1 | refine below_set ?_ GE174.out) | exact HB.out)⟩⟩
                case rest =>
                 refine @idd ?P5 ?_
                 let rec aux5 : ?P5 := by
                  clear HC47
                  try clear c1; try clear c2; try clear p2; try clear c3; try clear c4; try clear c5; try clear c6; try clear p6
                  try clear c8; try clear c8b0; try clear c8b1; try clear c10; try clear c12; try clear c15; try clear c17; try clear c18
                  try clear c19; try clear c22; try clear c23; try clear c25; try clear c25b0; try clear c25b1; try clear c34; try clear c36
                  try clear c36b0; try clear c36b1; try clear c41; try clear c45; try clear c45b0; try clear c45b1; try clear c56; try clear c56b0
                  try clear c56b1; try clear c57; try clear c57b0; try clear c57b1; try clear c59; try clear p64; try clear hcz22_0; try clear hcz22_1
                  try clear hcz22_2; try clear hcz38_0; try clear hcz38_1; try clear hcz38_2; try clear hcz48_0; try clear hcz48_1; try clear hcz48_2; try clear hcz50_0
                  try clear hcz50_1; try clear hcz50_2; try clear hcz52_0; try clear hcz52_1; try clear hcz52_2; try clear hcz54_0; try clear hcz54_1; try clear hcz54_2
                  try clear hfz22_0; try clear hfz22_1; try clear hfz22_2; try clear hfz38_0; try clear hfz38_1; try clear hfz38_2; try clear hfz48_0; try clear hfz48_1
                  try clear hfz48_2; try clear hfz50_0; try clear hfz50_1; try clear hfz50_2; try clear hfz52_0; try clear hfz52_1; try clear hfz52_2; try clear hfz54_0
                  try clear hfz54_1; try clear hfz54_2; try clear p2
                  obtain ⟨kq, x122_46, rfl, HA, HJ46, HO_12, HO_14, HO_16, BK174, HB⟩ := hcut
                  cases kq with
                  | zero => exact absurd HA.out (by simp [tourlaw5_FlowTells.j4])
                  | succ kj46 =>
                   have H := HA.out
                   clear HA
                   simp only [tourlaw5_FlowTells.j4] at H
                   by_cases c65 : x122_46 = true
                   ·subst c65
                    have H1 : (some false) = some r := by rw [if_pos rfl] at H; exact H
                    clear H
                    have H := H1
                    clear H1
                    obtain rfl := Option.some.inj H
                    go_wp2
                    go_ret
                    exact ⟨by first | rfl | (simp [errW_none, errW_some] <;> rfl) | (simp [*, errW_none, errW_some] <;> rfl), by repeat (first | (with_reducible first | exact HB.out | apply below_alloc | apply pw_below_drewN | apply below_drew1 | refine below_set ?_ GE174.out) | exact HB.out)⟩
                   ·replace c65 := Bool.eq_false_iff.mpr c65
                    subst c65
                    have H1 : (tourlaw5_FlowTells.l0 kj46 a2 t189 t193 t196 t197 t189 (t189.length : Int) 0 a0_0 a0_1 l0_2) = some r := by rw [if_neg (show ¬ (false = true) by decide)] at H; exact H
                    clear H
                    have H := H1
                    clear H1
                    have H' := Aside0.mk H
                    clear H
                    obtain ⟨Ao66, co66, eo66⟩ := Kd.R_slice HO_12.out
                    subst eo66
                    go_wp2
                    go_loopg [125] kj46 (fun kq v125 w' => ∃ (x125_6 : Int), v125 = .int .i64 x125_6 ∧ Aside0 (tourlaw5_FlowTells.l0 kq a2 t189 t193 t196 t197 t189 (t189.length : Int) x125_6 a0_0 a0_1 l0_2 = some r) ∧ Aside0 (kq ≤ kj46) ∧ Aside0 (Kd.R (Kd.int .i64) 3 w' w.heap.size (fun k_ => some k_ ≠ (v194 : Value).ownBlock ∧ some k_ ≠ (v198 : Value).ownBlock) (.slice Ao66 t189.length co66) t189) ∧ Aside0 (Kd.Q (Kd.int .i64) 3 w' w.heap.size (fun k_ => some k_ ≠ ((.slice Ao66 t189.length co66) : Value).ownBlock ∧ some k_ ≠ (v198 : Value).ownBlock ∧ some k_ ≠ ((.slice Ao66 t189.length co66) : Value).ownBlock) v194 t193) ∧ Aside0 (Kd.R (Kd.int .i64) 3 w' w.heap.size (fun k_ => some k_ ≠ ((.slice Ao66 t189.length co66) : Value).ownBlock ∧ some k_ ≠ (v194 : Value).ownBlock ∧ some k_ ≠ ((.slice Ao66 t189.length co66) : Value).ownBlock) v198 t197) ∧ Aside0 (Kd.R (Kd.int .i64) 3 w' w.heap.size (fun k_ => some k_ ≠ (v194 : Value).ownBlock ∧ some k_ ≠ (v198 : Value).ownBlock) (.slice Ao66 t189.length co66) t189) ∧ Aside0 (w'.heap[gb174]? = some (.cells #[.int .i64 a0_0, .int .i64 a0_1, (.slice A0_2 l0_2.length c0_2)] 25 (0, 0))) ∧ Aside0 (Below w.heap.size w w'))
                    case atStart => exact ⟨(0), (by first | rfl | (simp; done) | (simp [*]; done)), H', ⟨Nat.le_refl _⟩, ⟨by (with_reducible repeat (first | apply Kd.R_alloc | apply Kd.R_drewN | apply Kd.R_drew)); exact HO_12.out⟩, ⟨by (with_reducible repeat (first | apply Kd.Q_alloc | apply Kd.Q_drewN | apply Kd.Q_drew)); exact Kd.Q_mono HO_14.out (fun _ hk => ⟨hk.1, ⟨hk.2, hk.1⟩⟩)⟩, ⟨by (with_reducible repeat (first | apply Kd.R_alloc | apply Kd.R_drewN | apply Kd.R_drew)); exact Kd.R_mono HO_16.out (fun _ hk => ⟨hk.1, ⟨hk.2, hk.1⟩⟩)⟩, ⟨by (with_reducible repeat (first | apply Kd.R_alloc | apply Kd.R_drewN | apply Kd.R_drew)); exact HO_12.out⟩, ⟨BK174.out⟩, ⟨by repeat (first | (with_reducible first | exact HB.out | apply below_alloc | apply pw_below_drewN | apply below_drew1 | refine below_set ?_ GE174.out) | exact HB.out)⟩⟩
                    case round =>
                     clear H'
                     try clear c1; try clear c2; try clear p2; try clear c3; try clear c4; try clear c5; try clear c6; try clear p6
                     try clear c8; try clear c8b0; try clear c8b1; try clear c10; try clear c12; try clear c15; try clear c17; try clear c18
                     try clear c19; try clear c22; try clear c23; try clear c25; try clear c25b0; try clear c25b1; try clear c34; try clear c36
                     try clear c36b0; try clear c36b1; try clear c41; try clear c45; try clear c45b0; try clear c45b1; try clear c56; try clear c56b0
                     try clear c56b1; try clear c57; try clear c57b0; try clear c57b1; try clear c59; try clear p64; try clear c65; try clear hcz22_0
                     try clear hcz22_1; try clear hcz22_2; try clear hcz38_0; try clear hcz38_1; try clear hcz38_2; try clear hcz48_0; try clear hcz48_1; try clear hcz48_2
                     try clear hcz50_0; try clear hcz50_1; try clear hcz50_2; try clear hcz52_0; try clear hcz52_1; try clear hcz52_2; try clear hcz54_0; try clear hcz54_1
                     try clear hcz54_2; try clear hfz22_0; try clear hfz22_1; try clear hfz22_2; try clear hfz38_0; try clear hfz38_1; try clear hfz38_2; try clear hfz48_0
                     try clear hfz48_1; try clear hfz48_2; try clear hfz50_0; try clear hfz50_1; try clear hfz50_2; try clear hfz52_0; try clear hfz52_1; try clear hfz52_2
                     try clear hfz54_0; try clear hfz54_1; try clear hfz54_2; try clear p2; try clear p6; try clear p64
                     obtain ⟨x125_6, rfl, HA, HK6, HO_12, HO_14, HO_16, HO_123, BK174, HB⟩ := hrel
                     cases gk with
                     | zero => exact absurd HA.out (by simp [tourlaw5_FlowTells.l0])
                     | succ k6 =>
                      have H := HA.out
                      clear HA
                      simp only [tourlaw5_FlowTells.l0] at H
                      by_cases c67 : x125_6 < (t189.length : Int)
                      ·rw [if_pos c67] at H
                       have c67b0 : decide (x125_6 < (t189.length : Int)) = true := decide_eq_true c67
                       clear c67
                       by_cases c68 : 0 ≤ x125_6
                       ·rw [if_pos c68] at H
                        have c68b0 : decide (0 ≤ x125_6) = true := decide_eq_true c68
                        clear c68
                        by_cases c69 : x125_6 < (t189.length : Int)
                        ·rw [if_pos c69] at H
                         have c69b0 : decide (x125_6 < (t189.length : Int)) = true := decide_eq_true c69
                         clear c69
                         have H' := Aside0.mk H
                         clear H
                         have p201 : 0 ≤ (x125_6 : Int) := of_decide_eq_true (by first | (with_reducible assumption) | assumption)
                         have q201 : x125_6 < (t189.length : Int) := of_decide_eq_true (by first | (with_reducible assumption) | assumption)
                         obtain ⟨ad201, e201, hx201_0⟩ := Kd.at_int (Kd.R_reads' HO_123.out).2.2 x125_6 p201 q201
                         cases e201
                         replace p201 := eq_true p201
                         replace q201 := eq_true q201
                         go_wp2
                         go_loopg [19, 20] k6 (fun kq v19 v20 w' => ∃ (x19_7 : Int) (x20_7 : Int), v19 = .int .i64 x19_7 ∧ v20 = .int .i64 x20_7 ∧ Aside0 (tourlaw5_FlowTells.l1 kq a2 t189 t193 t196 t197 x125_6 (rd t189 x125_6) x19_7 x20_7 t189 (t189.length : Int) x125_6 a0_0 a0_1 l0_2 = some r) ∧ Aside0 (kq ≤ k6) ∧ Aside0 (Kd.R (Kd.int .i64) 3 w' w.heap.size (fun k_ => some k_ ≠ (v194 : Value).ownBlock ∧ some k_ ≠ (v198 : Value).ownBlock) (.slice (some ad201) t189.length co66) t189) ∧ Aside0 (Kd.Q (Kd.int .i64) 3 w' w.heap.size (fun k_ => some k_ ≠ ((.slice (some ad201) t189.length co66) : Value).ownBlock ∧ some k_ ≠ (v198 : Value).ownBlock ∧ some k_ ≠ ((.slice (some ad201) t189.length co66) : Value).ownBlock) v194 t193) ∧ Aside0 (Kd.R (Kd.int .i64) 3 w' w.heap.size (fun k_ => some k_ ≠ ((.slice (some ad201) t189.length co66) : Value).ownBlock ∧ some k_ ≠ (v194 : Value).ownBlock ∧ some k_ ≠ ((.slice (some ad201) t189.length co66) : Value).ownBlock) v198 t197) ∧ Aside0 (Kd.R (Kd.int .i64) 3 w' w.heap.size (fun k_ => some k_ ≠ (v194 : Value).ownBlock ∧ some k_ ≠ (v198 : Value).ownBlock) (.slice (some ad201) t189.length co66) t189) ∧ Aside0 (w'.heap[gb174]? = some (.cells #[.int .i64 a0_0, .int .i64 a0_1, (.slice A0_2 l0_2.length c0_2)] 25 (0, 0))) ∧ Aside0 (Below w.heap.size w w'))
                         case atStart => exact ⟨(0), (4), (by first | rfl | (simp; done) | (simp [*]; done)), (by first | rfl | (simp; done) | (simp [*]; done)), H', ⟨Nat.le_refl _⟩, ⟨by (with_reducible repeat (first | apply Kd.R_alloc | apply Kd.R_drewN | apply Kd.R_drew)); exact HO_12.out⟩, ⟨by (with_reducible repeat (first | apply Kd.Q_alloc | apply Kd.Q_drewN | apply Kd.Q_drew)); exact HO_14.out⟩, ⟨by (with_reducible repeat (first | apply Kd.R_alloc | apply Kd.R_drewN | apply Kd.R_drew)); exact HO_16.out⟩, ⟨by (with_reducible repeat (first | apply Kd.R_alloc | apply Kd.R_drewN | apply Kd.R_drew)); exact HO_123.out⟩, ⟨BK174.out⟩, ⟨by repeat (first | (with_reducible first | exact HB.out | apply below_alloc | apply pw_below_drewN | apply below_drew1 | refine below_set ?_ GE174.out) | exact HB.out)⟩⟩
                         case round =>
                          clear H'
                          try clear c1; try clear c2; try clear p2; try clear q2; try clear hx2; try clear c3; try clear c4; try clear c5
                          try clear c6; try clear p6; try clear c8; try clear c8b0; try clear c8b1; try clear c10; try clear c12; try clear c15
                          try clear c17; try clear c18; try clear c19; try clear p20; try clear q20; try clear hx20; try clear c22; try clear c23
                          try clear c25; try clear c25b0; try clear c25b1; try clear c34; try clear c36; try clear c36b0; try clear c36b1; try clear c41
                          try clear c45; try clear c45b0; try clear c45b1; try clear c56; try clear c56b0; try clear c56b1; try clear c57; try clear c57b0
                          try clear c57b1; try clear c59; try clear p64; try clear c65; try clear c67; try clear c67b0; try clear c68; try clear c68b0
                          try clear c69; try clear c69b0; try clear hcz22_0; try clear hcz22_1; try clear hcz22_2; try clear hcz38_0; try clear hcz38_1; try clear hcz38_2
                          try clear hcz48_0; try clear hcz48_1; try clear hcz48_2; try clear hcz50_0; try clear hcz50_1; try clear hcz50_2; try clear hcz52_0; try clear hcz52_1
                          try clear hcz52_2; try clear hcz54_0; try clear hcz54_1; try clear hcz54_2; try clear hfz22_0; try clear hfz22_1; try clear hfz22_2; try clear hfz38_0
                          try clear hfz38_1; try clear hfz38_2; try clear hfz48_0; try clear hfz48_1; try clear hfz48_2; try clear hfz50_0; try clear hfz50_1; try clear hfz50_2
                          try clear hfz52_0; try clear hfz52_1; try clear hfz52_2; try clear hfz54_0; try clear hfz54_1; try clear hfz54_2; try clear hx201_0; try clear p2
                          try clear p201; try clear p6; try clear p64; try clear q201
                          obtain ⟨x19_7, x20_7, rfl, rfl, HA, HK7, HO_12, HO_14, HO_16, HO_123, BK174, HB⟩ := hrel
                          cases gk with
                          | zero => exact absurd HA.out (by simp [tourlaw5_FlowTells.l1])
                          | succ k7 =>
                           have H := HA.out
                           clear HA
                           simp only [tourlaw5_FlowTells.l1] at H
                           by_cases c70 : x20_7 ≥ 1
                           ·rw [if_pos c70] at H
                            have c70b0 : decide (1 ≤ x20_7) = true := decide_eq_true c70
                            clear c70
                            replace H := Option.bind_eq_some_iff.mp H
                            obtain ⟨t202, A710, H⟩ := H
                            replace H : (if 0 ≤ x125_6 then (if x125_6 < (t197.length : Int) then (if (rd t197 x125_6) > 0 then (if t202 ≥ 0 then (if 0 ≤ t202 then (if t202 < (t197.length : Int) then (if (rd t197 t202) ≥ 0 then (if t202 < (l0_2.length : Int) then (if (wrap64 ((rd t197 t202) + (rd l0_2 t202))) = (rd t197 x125_6) then (tourlaw5_FlowTells.l1 k7 a2 t189 t193 t196 t197 x125_6 (rd t189 x125_6) x20_7 (wrap64 (x20_7 - 1)) t189 (t189.length : Int) x125_6 a0_0 a0_1 l0_2) else (tourlaw5_FlowTells.l1 k7 a2 t189 t193 t196 t197 x125_6 (rd t189 x125_6) x19_7 (wrap64 (x20_7 - 1)) t189 (t189.length : Int) x125_6 a0_0 a0_1 l0_2)) else (none)) else (tourlaw5_FlowTells.l1 k7 a2 t189 t193 t196 t197 x125_6 (rd t189 x125_6) x19_7 (wrap64 (x20_7 - 1)) t189 (t189.length : Int) x125_6 a0_0 a0_1 l0_2)) else (none)) else (none)) else (tourlaw5_FlowTells.l1 k7 a2 t189 t193 t196 t197 x125_6 (rd t189 x125_6) x19_7 (wrap64 (x20_7 - 1)) t189 (t189.length : Int) x125_6 a0_0 a0_1 l0_2)) else (tourlaw5_FlowTells.l1 k7 a2 t189 t193 t196 t197 x125_6 (rd t189 x125_6) x19_7 (wrap64 (x20_7 - 1)) t189 (t189.length : Int) x125_6 a0_0 a0_1 l0_2)) else (none)) else (none)) = some r := H
                            have A71 := Aside0.mk A710
                            clear A710
                            by_cases c72 : 0 ≤ x125_6
                            ·rw [if_pos c72] at H
                             have c72b0 : decide (0 ≤ x125_6) = true := decide_eq_true c72
                             clear c72
                             by_cases c73 : x125_6 < (t197.length : Int)
                             ·rw [if_pos c73] at H
                              have c73b0 : decide (x125_6 < (t197.length : Int)) = true := decide_eq_true c73
                              clear c73
                              by_cases c74 : (rd t197 x125_6) > 0
                              ·rw [if_pos c74] at H
                               have c74b0 : decide (0 < (rd t197 x125_6)) = true := decide_eq_true c74
                               clear c74
                               by_cases c75 : t202 ≥ 0
                               ·rw [if_pos c75] at H
                                have c75b0 : decide (0 ≤ t202) = true := decide_eq_true c75
                                clear c75
                                by_cases c76 : 0 ≤ t202
                                ·rw [if_pos c76] at H
                                 have c76b0 : decide (0 ≤ t202) = true := decide_eq_true c76
                                 clear c76
                                 by_cases c77 : t202 < (t197.length : Int)
                                 ·rw [if_pos c77] at H
                                  have c77b0 : decide (t202 < (t197.length : Int)) = true := decide_eq_true c77
                                  clear c77
                                  by_cases c78 : (rd t197 t202) ≥ 0
                                  ·rw [if_pos c78] at H
                                   have c78b0 : decide (0 ≤ (rd t197 t202)) = true := decide_eq_true c78
                                   clear c78
                                   by_cases c79 : t202 < (l0_2.length : Int)
                                   ·rw [if_pos c79] at H
                                    have c79b0 : decide (t202 < (l0_2.length : Int)) = true := decide_eq_true c79
                                    clear c79
                                    by_cases c80 : (wrap64 ((rd t197 t202) + (rd l0_2 t202))) = (rd t197 x125_6)
                                    ·rw [if_pos c80] at H
                                     have c80b0 : ((wrap64 ((rd t197 t202) + (rd l0_2 t202))) == (rd t197 x125_6)) = true := beq_iff_eq.mpr c80
                                     have c80b1 : ((wrap64 ((rd t197 t202) + (rd l0_2 t202))) != (rd t197 x125_6)) = false := bne_eq_false_iff_eq.mpr c80
                                     clear c80
                                     have H' := Aside0.mk H
                                     clear H
                                     have hcz81_0 : wr.cell? ⟨gb174, 0, none⟩ = some (.int .i64 a0_0) := (blk_cell BK174.out 0).trans rfl
                                     have hcz81_1 : wr.cell? ⟨gb174, 1, none⟩ = some (.int .i64 a0_1) := (blk_cell BK174.out 1).trans rfl
                                     have hcz81_2 : wr.cell? ⟨gb174, 2, none⟩ = some (.slice A0_2 l0_2.length c0_2) := (blk_cell BK174.out 2).trans rfl
                                     have hfz81_0 := blk_frozen BK174.out 0
                                     have hfz81_1 := blk_frozen BK174.out 1
                                     have hfz81_2 := blk_frozen BK174.out 2
                                     try go_wp2_with (first | ((with_reducible refine gate_callee (f := 19) rfl ?_); refine goesL_ (some 137) rfl rfl Try.func19 (by kernel_rfl) rfl #[.agg #[.int .i64 a0_0, .int .i64 a0_1, .slice A0_2 l0_2.length c0_2], .int .i64 x125_6, .int .i64 x20_7] rfl (by (try simp only [zm1, zm2, zm3]); first | done | rfl) ?_; (with_reducible refine (tourref5_Beyond.calls k7 a0_0 a0_1 _ _ l0_2 x125_6 x20_7 t202 _ ?side1 ?side2 A71.out).mono ?_); (case side1 => repeat (first | exact (Kd.C_below HR0_2.out HB.out) | (with_reducible refine Kd.C_alloc ?_ _) | (with_reducible refine Kd.C_drewN ?_ _) | (with_reducible refine Kd.C_drew ?_))); (case side2 => exact HC0_2.out); rintro e w82 ⟨rfl, hb⟩; refine ⟨_, rfl, ?_⟩; have n0_ := Aside0.mk (Kd.R_below (by (with_reducible repeat (first | apply Kd.R_alloc | apply Kd.R_drewN | apply Kd.R_drew)); exact HO_12.out) hb); have n1_ := Aside0.mk (Kd.Q_below (by (with_reducible repeat (first | apply Kd.Q_alloc | apply Kd.Q_drewN | apply Kd.Q_drew)); exact HO_14.out) hb); have n2_ := Aside0.mk (Kd.R_below (by (with_reducible repeat (first | apply Kd.R_alloc | apply Kd.R_drewN | apply Kd.R_drew)); exact HO_16.out) hb); have n3_ := Aside0.mk (Kd.R_below (by (with_reducible repeat (first | apply Kd.R_alloc | apply Kd.R_drewN | apply Kd.R_drew)); exact HO_123.out) hb); have n4_ := Aside0.mk (bb hb BK174.out); have n5_ := Aside0.mk (below_step (by repeat (first | (with_reducible first | exact HB.out | apply below_alloc | apply pw_below_drewN | apply below_drew1 | refine below_set ?_ GE174.out) | exact HB.out)) hb); clear HO_12; clear HO_14; clear HO_16; clear HO_123; clear BK174; clear HB; have HO_12 := n0_; have HO_14 := n1_; have HO_16 := n2_; have HO_123 := n3_; have BK174 := n4_; have HB := n5_; clear n0_ n1_ n2_ n3_ n4_ n5_; (try clear hb); (try clear hb2); (try clear hk); (try clear hi)))
                                     have n0_ := Aside0.mk (Kd.R_drew HO_12.out)
                                     have n1_ := Aside0.mk (Kd.Q_drew HO_14.out)
                                     have n2_ := Aside0.mk (Kd.R_drew HO_16.out)
                                     have n3_ := Aside0.mk (Kd.R_drew HO_123.out)
                                     have n4_ := Aside0.mk (blk_drew BK174.out)
                                     have n5_ := Aside0.mk (below_drew1 HB.out)
                                     clear HO_12
                                     clear HO_14
                                     clear HO_16
                                     clear HO_123
                                     clear BK174
                                     clear HB
                                     have HO_12 := n0_
                                     have HO_14 := n1_
                                     have HO_16 := n2_
                                     have HO_123 := n3_
                                     have BK174 := n4_
                                     have HB := n5_
                                     clear n0_ n1_ n2_ n3_ n4_ n5_
                                     obtain ⟨Ao84, co84, eo84⟩ := Kd.R_slice HO_16.out
                                     (first | subst eo84 | (injection eo84 with f1_ f2_ f3_; have f4_ := f1_.symm; have f5_ := f3_.symm; clear f1_ f2_ f3_; subst f4_; subst f5_))
                                     have p203 : 0 ≤ (x125_6 : Int) := of_decide_eq_true (by first | (with_reducible assumption) | assumption)
                                     have q203 : x125_6 < (t197.length : Int) := of_decide_eq_true (by first | (with_reducible assumption) | assumption)
                                     obtain ⟨ad203, e203, hx203_0⟩ := Kd.at_int (Kd.R_reads' HO_16.out).2.2 x125_6 p203 q203
                                     cases e203
                                     replace p203 := eq_true p203
                                     replace q203 := eq_true q203
                                     have p204 : 0 ≤ (t202 : Int) := of_decide_eq_true (by first | (with_reducible assumption) | assumption)
                                     have q204 : t202 < (t197.length : Int) := of_decide_eq_true (by first | (with_reducible assumption) | assumption)
                                     obtain ⟨ad204, e204, hx204_0⟩ := Kd.at_int (Kd.R_reads' HO_16.out).2.2 t202 p204 q204
                                     obtain rfl : ad203 = ad204 := (by injection e204)
                                     replace p204 := eq_true p204
                                     replace q204 := eq_true q204
                                     have p205 : 0 ≤ (t202 : Int) := of_decide_eq_true (by first | (with_reducible assumption) | assumption)
                                     have q205 : t202 < (t197.length : Int) := of_decide_eq_true (by first | (with_reducible assumption) | assumption)
                                     obtain ⟨ad205, e205, hx205_0⟩ := Kd.at_int (Kd.R_reads' HO_16.out).2.2 t202 p205 q205
                                     obtain rfl : ad203 = ad205 := (by injection e205)
                                     replace p205 := eq_true p205
                                     replace q205 := eq_true q205
                                     have p206 : 0 ≤ (t202 : Int) := of_decide_eq_true (by first | (with_reducible assumption) | assumption)
                                     have q206 : t202 < (l0_2.length : Int) := of_decide_eq_true (by first | (with_reducible assumption) | assumption)
                                     obtain ⟨ad206, e206, hx206_0⟩ := Kd.at_int HR0_2.out t202 p206 q206
                                     have hw206_0 := hx206_0
                                     cases e206
                                     replace hx206_0 := (HB.out.cell (World.block_lt_of_cell? w _ hx206_0)).trans hx206_0
                                     replace p206 := eq_true p206
                                     replace q206 := eq_true q206
                                     have p207 : 0 ≤ (x125_6 : Int) := of_decide_eq_true (by first | (with_reducible assumption) | assumption)
                                     have q207 : x125_6 < (t197.length : Int) := of_decide_eq_true (by first | (with_reducible assumption) | assumption)
                                     obtain ⟨ad207, e207, hx207_0⟩ := Kd.at_int (Kd.R_reads' HO_16.out).2.2 x125_6 p207 q207
                                     obtain rfl : ad203 = ad207 := (by injection e207)
                                     replace p207 := eq_true p207
                                     replace q207 := eq_true q207
                                     refine start_ (n := 33) (S := fun w' => w'.cell? ⟨gb174, 0, none⟩ = some (.int .i64 a0_0) ∧ w'.cell? ⟨gb174, 1, none⟩ = some (.int .i64 a0_1) ∧ w'.cell? ⟨gb174, 2, none⟩ = some (.slice (some ad206) l0_2.length c0_2) ∧ w'.cell? (ad203.add (x125_6).toNat) = some (.int .i64 (rd t197 x125_6)) ∧ w'.cell? (ad203.add (t202).toNat) = some (.int .i64 (rd t197 t202)) ∧ w'.cell? (ad203.add (t202).toNat) = some (.int .i64 (rd t197 t202)) ∧ w'.cell? (ad206.add (t202).toNat) = some (.int .i64 (rd l0_2 t202)) ∧ w'.cell? (ad203.add (x125_6).toNat) = some (.int .i64 (rd t197 x125_6))) (ds := []) (ab 33 0) (by kernel_rfl) rfl rfl ⟨(blk_cell BK174.out 0).trans rfl, (blk_cell BK174.out 1).trans rfl, (blk_cell BK174.out 2).trans rfl, hx203_0, hx204_0, hx205_0, ((HB.out.cell (World.block_lt_of_cell? w _ hw206_0)).trans hw206_0), hx207_0⟩ (fun hHeld => ?_); refine with_tabW tourlaw5_FlowTells.tab24 tourlaw5_FlowTells.bits24 (fun HT_ HW_ => ?_)
                                     generalize w82.drew = w83 at HO_12 HO_14 HO_16 HO_123 BK174 HB hx203_0 hx204_0 hx205_0 hx206_0 hx207_0 hHeld ⊢
                                     refine pure_ (i := 0) (N := some 138) (v := ?_) (a' := ?_) (ab 33 1) rfl rfl (any_of HT_.out (by kernel_rfl)) (fun _ _ _ h => h) (Or.inl ⟨by rfl, ?_⟩) ?_ ?_
                                     rotate_left
                                     ·intro w'
                                      go_simp
                                      with_reducible rfl
                                     rotate_left
                                     ·simp only [Act.put, zq1, zq2, zq3, i64_w, i32_w]
                                      rfl
                                     refine pure_ (i := 1) (N := some 139) (v := ?_) (a' := ?_) (ab 33 3) rfl rfl (any_of HT_.out (by kernel_rfl)) (fun _ _ _ h => h) (Or.inl ⟨by rfl, ?_⟩) ?_ ?_
                                     rotate_left
                                     ·intro w'
                                      go_simp
                                      with_reducible rfl
                                     rotate_left
                                     ·simp only [Act.put, zq1, zq2, zq3, i64_w, i32_w]
                                      rfl
                                     refine pure_ (i := 2) (N := some 140) (v := ?_) (a' := ?_) (ab 33 7) rfl rfl (any_of HT_.out (by kernel_rfl)) (fun _ _ _ h => h) (Or.inl ⟨by rfl, ?_⟩) ?_ ?_
                                     rotate_left
                                     ·intro w'
                                      go_simp
                                      with_reducible rfl
                                     rotate_left
                                     ·simp only [Act.put, zq1, zq2, zq3, i64_w, i32_w]
                                      rfl
                                     refine take_ (i := 3) (N := some 141) (v := ?_) (a' := ?_) (ab 33 15) rfl rfl (take_ofW HT_.out HW_.out (by kernel_rfl)) (fun _ _ _ h => h) (Or.inl ⟨by rfl, ?_⟩) hHeld ?_ ?_
                                     rotate_left
                                     ·rintro w' ⟨s0, s1, s2, s3, s4, s5, s6, s7⟩
                                      go_simp
                                      with_reducible rfl
                                     rotate_left
                                     ·simp only [Act.put, zq1, zq2, zq3, i64_w, i32_w]
                                      rfl
                                     refine pure_ (i := 4) (N := some 142) (v := ?_) (a' := ?_) (ab 33 31) rfl rfl (any_of HT_.out (by kernel_rfl)) (fun _ _ _ h => h) (Or.inl ⟨by rfl, ?_⟩) ?_ ?_
                                     rotate_left
                                     ·intro w'
                                      go_simp
                                      with_reducible rfl
                                     rotate_left
                                     ·simp only [Act.put, zq1, zq2, zq3, i64_w, i32_w]
                                      rfl
                                     refine pure_ (i := 5) (N := some 143) (v := ?_) (a' := ?_) (ab 33 63) rfl rfl (any_of HT_.out (by kernel_rfl)) (fun _ _ _ h => h) (Or.inl ⟨by rfl, ?_⟩) ?_ ?_
                                     rotate_left
                                     ·intro w'
                                      go_simp
                                      with_reducible rfl
                                     rotate_left
                                     ·simp only [Act.put, zq1, zq2, zq3, i64_w, i32_w]
                                      rfl
                                     refine pure_ (i := 6) (N := some 144) (v := ?_) (a' := ?_) (ab 33 127) rfl rfl (any_of HT_.out (by kernel_rfl)) (fun _ _ _ h => h) (Or.inl ⟨by rfl, ?_⟩) ?_ ?_
                                     rotate_left
                                     ·intro w'
                                      go_simp
                                      with_reducible rfl
                                     rotate_left
                                     ·simp only [Act.put, zq1, zq2, zq3, i64_w, i32_w]
                                      rfl
                                     refine pure_ (i := 7) (N := some 145) (v := ?_) (a' := ?_) (ab 33 255) rfl rfl (any_of HT_.out (by kernel_rfl)) (fun _ _ _ h => h) (Or.inl ⟨by rfl, ?_⟩) ?_ ?_
                                     rotate_left
                                     ·intro w'
                                      go_simp
                                      with_reducible rfl
                                     rotate_left
                                     ·simp only [Act.put, zq1, zq2, zq3, i64_w, i32_w]
                                      rfl
                                     refine pure_ (i := 8) (N := some 146) (v := ?_) (a' := ?_) (ab 33 511) rfl rfl (any_of HT_.out (by kernel_rfl)) (fun _ _ _ h => h) (Or.inl ⟨by rfl, ?_⟩) ?_ ?_
                                     rotate_left
                                     ·intro w'
                                      go_simp
                                      with_reducible rfl
                                     rotate_left
                                     ·simp only [Act.put, zq1, zq2, zq3, i64_w, i32_w]
                                      rfl
                                     refine pure_ (i := 9) (N := some 147) (v := ?_) (a' := ?_) (ab 33 1023) rfl rfl (any_of HT_.out (by kernel_rfl)) (fun _ _ _ h => h) (Or.inl ⟨by rfl, ?_⟩) ?_ ?_
                                     rotate_left
                                     ·intro w'
                                      go_simp
                                      with_reducible rfl
                                     rotate_left
                                     ·simp only [Act.put, zq1, zq2, zq3, i64_w, i32_w]
                                      rfl
                                     refine pure_ (i := 10) (N := some 148) (v := ?_) (a' := ?_) (ab 33 2047) rfl rfl (any_of HT_.out (by kernel_rfl)) (fun _ _ _ h => h) (Or.inl ⟨by rfl, ?_⟩) ?_ ?_
                                     rotate_left
                                     ·intro w'
                                      go_simp
                                      with_reducible rfl
                                     rotate_left
                                     ·simp only [Act.put, zq1, zq2, zq3, i64_w, i32_w]
                                      rfl
                                     refine pure_ (i := 11) (N := some 149) (v := ?_) (a' := ?_) (ab 33 4095) rfl rfl (any_of HT_.out (by kernel_rfl)) (fun _ _ _ h => h) (Or.inl ⟨by rfl, ?_⟩) ?_ ?_
                                     rotate_left
                                     ·intro w'
                                      go_simp
                                      with_reducible rfl
                                     rotate_left
                                     ·simp only [Act.put, zq1, zq2, zq3, i64_w, i32_w]
                                      rfl
                                     refine pure_ (i := 12) (N := some 150) (v := ?_) (a' := ?_) (ab 33 8191) rfl rfl (any_of HT_.out (by kernel_rfl)) (fun _ _ _ h => h) (Or.inl ⟨by rfl, ?_⟩) ?_ ?_
                                     rotate_left
                                     ·intro w'
                                      go_simp
                                      with_reducible rfl
                                     rotate_left
                                     ·simp only [Act.put, zq1, zq2, zq3, i64_w, i32_w]
                                      rfl
                                     refine take_ (i := 13) (N := some 151) (v := ?_) (a' := ?_) (ab 33 16383) rfl rfl (take_ofW HT_.out HW_.out (by kernel_rfl)) (fun _ _ _ h => h) (Or.inl ⟨by rfl, ?_⟩) hHeld ?_ ?_
                                     rotate_left
                                     ·rintro w' ⟨s0, s1, s2, s3, s4, s5, s6, s7⟩
                                      go_simp
                                      with_reducible rfl
                                     rotate_left
                                     ·simp only [Act.put, zq1, zq2, zq3, i64_w, i32_w]
                                      rfl
                                     refine pure_ (i := 14) (N := some 152) (v := ?_) (a' := ?_) (ab 33 32767) rfl rfl (any_of HT_.out (by kernel_rfl)) (fun _ _ _ h => h) (Or.inl ⟨by rfl, ?_⟩) ?_ ?_
                                     rotate_left
                                     ·intro w'
                                      go_simp
                                      with_reducible rfl
                                     rotate_left
                                     ·simp only [Act.put, zq1, zq2, zq3, i64_w, i32_w]
                                      rfl
                                     refine pure_ (i := 15) (N := some 153) (v := ?_) (a' := ?_) (ab 33 65535) rfl rfl (any_of HT_.out (by kernel_rfl)) (fun _ _ _ h => h) (Or.inl ⟨by rfl, ?_⟩) ?_ ?_
                                     rotate_left
                                     ·intro w'
                                      go_simp
                                      with_reducible rfl
                                     rotate_left
                                     ·simp only [Act.put, zq1, zq2, zq3, i64_w, i32_w]
                                      rfl
                                     refine pure_ (i := 16) (N := some 154) (v := ?_) (a' := ?_) (ab 33 131071) rfl rfl (any_of HT_.out (by kernel_rfl)) (fun _ _ _ h => h) (Or.inl ⟨by rfl, ?_⟩) ?_ ?_
                                     rotate_left
                                     ·intro w'
                                      go_simp
                                      with_reducible rfl
                                     rotate_left
                                     ·simp only [Act.put, zq1, zq2, zq3, i64_w, i32_w]
                                      rfl
                                     refine pure_ (i := 17) (N := some 155) (v := ?_) (a' := ?_) (ab 33 262143) rfl rfl (any_of HT_.out (by kernel_rfl)) (fun _ _ _ h => h) (Or.inl ⟨by rfl, ?_⟩) ?_ ?_
                                     rotate_left
                                     ·intro w'
                                      go_simp
                                      with_reducible rfl
                                     rotate_left
                                     ·simp only [Act.put, zq1, zq2, zq3, i64_w, i32_w]
                                      rfl
                                     refine pure_ (i := 18) (N := some 156) (v := ?_) (a' := ?_) (ab 33 524287) rfl rfl (any_of HT_.out (by kernel_rfl)) (fun _ _ _ h => h) (Or.inl ⟨by rfl, ?_⟩) ?_ ?_
                                     rotate_left
                                     ·intro w'
                                      go_simp
                                      with_reducible rfl
                                     rotate_left
                                     ·simp only [Act.put, zq1, zq2, zq3, i64_w, i32_w]
                                      rfl
                                     refine pure_ (i := 19) (N := some 157) (v := ?_) (a' := ?_) (ab 33 1048575) rfl rfl (any_of HT_.out (by kernel_rfl)) (fun _ _ _ h => h) (Or.inl ⟨by rfl, ?_⟩) ?_ ?_
                                     rotate_left
                                     ·intro w'
                                      go_simp
                                      with_reducible rfl
                                     rotate_left
                                     ·simp only [Act.put, zq1, zq2, zq3, i64_w, i32_w]
                                      rfl
                                     refine pure_ (i := 21) (N := some 159) (v := ?_) (a' := ?_) (ab 33 3145727) rfl rfl (any_of HT_.out (by kernel_rfl)) (fun _ _ _ h => h) (Or.inl ⟨by rfl, ?_⟩) ?_ ?_
                                     rotate_left
                                     ·intro w'
                                      go_simp
                                      with_reducible rfl
                                     rotate_left
                                     ·simp only [Act.put, zq1, zq2, zq3, i64_w, i32_w]
                                      rfl
                                     refine pure_ (i := 23) (N := some 161) (v := ?_) (a' := ?_) (ab 33 11534335) rfl rfl (any_of HT_.out (by kernel_rfl)) (fun _ _ _ h => h) (Or.inl ⟨by rfl, ?_⟩) ?_ ?_
                                     rotate_left
                                     ·intro w'
                                      go_simp
                                      with_reducible rfl
                                     rotate_left
                                     ·simp only [Act.put, zq1, zq2, zq3, i64_w, i32_w]
                                      rfl
                                     refine pure_ (i := 27) (N := some 165) (v := ?_) (a' := ?_) (ab 33 145752063) rfl rfl (any_of HT_.out (by kernel_rfl)) (fun _ _ _ h => h) (Or.inl ⟨by rfl, ?_⟩) ?_ ?_
                                     rotate_left
                                     ·intro w'
                                      go_simp
                                      with_reducible rfl
                                     rotate_left
                                     ·simp only [Act.put, zq1, zq2, zq3, i64_w, i32_w]
                                      rfl
                                     refine pure_ (i := 28) (N := some 166) (v := ?_) (a' := ?_) (ab 33 414187519) rfl rfl (any_of HT_.out (by kernel_rfl)) (fun _ _ _ h => h) (Or.inl ⟨by rfl, ?_⟩) ?_ ?_
                                     rotate_left
                                     ·intro w'
                                      go_simp
                                      with_reducible rfl
                                     rotate_left
                                     ·simp only [Act.put, zq1, zq2, zq3, i64_w, i32_w]
                                      rfl
                                     refine pure_ (i := 29) (N := some 167) (v := ?_) (a' := ?_) (ab 33 951058431) rfl rfl (any_of HT_.out (by kernel_rfl)) (fun _ _ _ h => h) (Or.inl ⟨by rfl, ?_⟩) ?_ ?_
                                     rotate_left
                                     ·intro w'
                                      go_simp
                                      with_reducible rfl
                                     rotate_left
                                     ·simp only [Act.put, zq1, zq2, zq3, i64_w, i32_w]
                                      rfl
                                     refine take_ (i := 20) (N := some 158) (v := ?_) (a' := ?_) (ab 33 952107007) rfl rfl (take_ofW HT_.out HW_.out (by kernel_rfl)) (fun _ _ _ h => h) (Or.inl ⟨by rfl, ?_⟩) hHeld ?_ ?_
                                     rotate_left
                                     ·rintro w' ⟨s0, s1, s2, s3, s4, s5, s6, s7⟩
                                      go_simp
                                      with_reducible rfl
                                     rotate_left
                                     ·simp only [Act.put, zq1, zq2, zq3, i64_w, i32_w]
                                      rfl
                                     refine take_ (i := 22) (N := some 160) (v := ?_) (a' := ?_) (ab 33 956301311) rfl rfl (take_ofW HT_.out HW_.out (by kernel_rfl)) (fun _ _ _ h => h) (Or.inl ⟨by rfl, ?_⟩) hHeld ?_ ?_
                                     rotate_left
                                     ·rintro w' ⟨s0, s1, s2, s3, s4, s5, s6, s7⟩
                                      go_simp
                                      with_reducible rfl
                                     rotate_left
                                     ·simp only [Act.put, zq1, zq2, zq3, i64_w, i32_w]
                                      rfl
                                     refine pure_ (i := 24) (N := some 162) (v := ?_) (a' := ?_) (ab 33 973078527) rfl rfl (any_of HT_.out (by kernel_rfl)) (fun _ _ _ h => h) (Or.inl ⟨by rfl, ?_⟩) ?_ ?_
                                     rotate_left
                                     ·intro w'
                                      go_simp
                                      with_reducible rfl
                                     rotate_left
                                     ·simp only [Act.put, zq1, zq2, zq3, i64_w, i32_w]
                                      rfl
                                     refine take_ (i := 25) (N := some 163) (v := ?_) (a' := ?_) (ab 33 1006632959) rfl rfl (take_ofW HT_.out HW_.out (by kernel_rfl)) (fun _ _ _ h => h) (Or.inl ⟨by rfl, ?_⟩) hHeld ?_ ?_
                                     rotate_left
                                     ·rintro w' ⟨s0, s1, s2, s3, s4, s5, s6, s7⟩
                                      go_simp
                                      with_reducible rfl
                                     rotate_left
                                     ·simp only [Act.put, zq1, zq2, zq3, i64_w, i32_w]
                                      rfl
                                     refine pure_ (i := 26) (N := some 164) (v := ?_) (a' := ?_) (ab 33 1073741823) rfl rfl (any_of HT_.out (by kernel_rfl)) (fun _ _ _ h => h) (Or.inl ⟨by rfl, ?_⟩) ?_ ?_
                                     rotate_left
                                     ·intro w'
                                      go_simp
                                      with_reducible rfl
                                     rotate_left
                                     ·simp only [Act.put, zq1, zq2, zq3, i64_w, i32_w]
                                      rfl
                                     refine take_ (i := 30) (N := some 168) (v := ?_) (a' := ?_) (ab 33 2147483647) rfl rfl (take_ofW HT_.out HW_.out (by kernel_rfl)) (fun _ _ _ h => h) (Or.inl ⟨by rfl, ?_⟩) hHeld ?_ ?_
                                     rotate_left
                                     ·rintro w' ⟨s0, s1, s2, s3, s4, s5, s6, s7⟩
                                      go_simp
                                      with_reducible rfl
                                     rotate_left
                                     ·simp only [Act.put, zq1, zq2, zq3, i64_w, i32_w]
                                      rfl
                                     refine pure_ (i := 31) (N := some 169) (v := ?_) (a' := ?_) (ab 33 4294967295) rfl rfl (any_of HT_.out (by kernel_rfl)) (fun _ _ _ h => h) (Or.inl ⟨by rfl, ?_⟩) ?_ ?_
                                     rotate_left
                                     ·intro w'
                                      go_simp
                                      with_reducible rfl
                                     rotate_left
                                     ·simp only [Act.put, zq1, zq2, zq3, i64_w, i32_w]
                                      rfl
                                     refine pure_ (i := 32) (N := some 170) (v := ?_) (a' := ?_) (ab 33 8589934591) rfl rfl (any_of HT_.out (by kernel_rfl)) (fun _ _ _ h => h) (Or.inl ⟨by rfl, ?_⟩) ?_ ?_
                                     rotate_left
                                     ·intro w'
                                      go_simp
                                      with_reducible rfl
                                     rotate_left
                                     ·simp only [Act.put, zq1, zq2, zq3, i64_w, i32_w]
                                      rfl
                                     refine done_ (done_of HT_.out (by kernel_rfl)) ?_
                                     try go_wp2
                                     go_roundg k7
                                     case measure => have := HJ4.out; have := HJ20.out; have := HJ34.out; have := HJ39.out; have := HJ46.out; have := HK6.out; have := HK7.out; omega
                                     case rel => exact ⟨(x20_7), (wrap64 (x20_7 - 1)), (by first | rfl | (simp; done) | (simp [*]; done)), (by first | rfl | (simp; done) | (simp [*]; done)), H', ⟨by have := HJ4.out; have := HJ20.out; have := HJ34.out; have := HJ39.out; have := HJ46.out; have := HK6.out; have := HK7.out; omega⟩, ⟨by (with_reducible repeat (first | apply Kd.R_alloc | apply Kd.R_drewN | apply Kd.R_drew)); exact HO_12.out⟩, ⟨by (with_reducible repeat (first | apply Kd.Q_alloc | apply Kd.Q_drewN | apply Kd.Q_drew)); exact HO_14.out⟩, ⟨by (with_reducible repeat (first | apply Kd.R_alloc | apply Kd.R_drewN | apply Kd.R_drew)); exact HO_16.out⟩, ⟨by (with_reducible repeat (first | apply Kd.R_alloc | apply Kd.R_drewN | apply Kd.R_drew)); exact HO_123.out⟩, ⟨BK174.out⟩, ⟨by repeat (first | (with_reducible first | exact HB.out | apply below_alloc | apply pw_below_drewN | apply below_drew1 | refine below_set ?_ GE174.out) | exact HB.out)⟩⟩
                                    ·rw [if_neg c80] at H
                                     have c80b0 : ((wrap64 ((rd t197 t202) + (rd l0_2 t202))) == (rd t197 x125_6)) = false := beq_eq_false_iff_ne.mpr c80
                                     have c80b1 : ((wrap64 ((rd t197 t202) + (rd l0_2 t202))) != (rd t197 x125_6)) = true := bne_iff_ne.mpr c80
                                     have H' := Aside0.mk H
                                     clear H
                                     have hcz85_0 : wr.cell? ⟨gb174, 0, none⟩ = some (.int .i64 a0_0) := (blk_cell BK174.out 0).trans rfl
                                     have hcz85_1 : wr.cell? ⟨gb174, 1, none⟩ = some (.int .i64 a0_1) := (blk_cell BK174.out 1).trans rfl
                                     have hcz85_2 : wr.cell? ⟨gb174, 2, none⟩ = some (.slice A0_2 l0_2.length c0_2) := (blk_cell BK174.out 2).trans rfl
                                     have hfz85_0 := blk_frozen BK174.out 0
                                     have hfz85_1 := blk_frozen BK174.out 1
                                     have hfz85_2 := blk_frozen BK174.out 2
                                     try go_wp2_with (first | ((with_reducible refine gate_callee (f := 19) rfl ?_); refine goesL_ (some 137) rfl rfl Try.func19 (by kernel_rfl) rfl #[.agg #[.int .i64 a0_0, .int .i64 a0_1, .slice A0_2 l0_2.length c0_2], .int .i64 x125_6, .int .i64 x20_7] rfl (by (try simp only [zm1, zm2, zm3]); first | done | rfl) ?_; (with_reducible refine (tourref5_Beyond.calls k7 a0_0 a0_1 _ _ l0_2 x125_6 x20_7 t202 _ ?side1 ?side2 A71.out).mono ?_); (case side1 => repeat (first | exact (Kd.C_below HR0_2.out HB.out) | (with_reducible refine Kd.C_alloc ?_ _) | (with_reducible refine Kd.C_drewN ?_ _) | (with_reducible refine Kd.C_drew ?_))); (case side2 => exact HC0_2.out); rintro e w86 ⟨rfl, hb⟩; refine ⟨_, rfl, ?_⟩; have n0_ := Aside0.mk (Kd.R_below (by (with_reducible repeat (first | apply Kd.R_alloc | apply Kd.R_drewN | apply Kd.R_drew)); exact HO_12.out) hb); have n1_ := Aside0.mk (Kd.Q_below (by (with_reducible repeat (first | apply Kd.Q_alloc | apply Kd.Q_drewN | apply Kd.Q_drew)); exact HO_14.out) hb); have n2_ := Aside0.mk (Kd.R_below (by (with_reducible repeat (first | apply Kd.R_alloc | apply Kd.R_drewN | apply Kd.R_drew)); exact HO_16.out) hb); have n3_ := Aside0.mk (Kd.R_below (by (with_reducible repeat (first | apply Kd.R_alloc | apply Kd.R_drewN | apply Kd.R_drew)); exact HO_123.out) hb); have n4_ := Aside0.mk (bb hb BK174.out); have n5_ := Aside0.mk (below_step (by repeat (first | (with_reducible first | exact HB.out | apply below_alloc | apply pw_below_drewN | apply below_drew1 | refine below_set ?_ GE174.out) | exact HB.out)) hb); clear HO_12; clear HO_14; clear HO_16; clear HO_123; clear BK174; clear HB; have HO_12 := n0_; have HO_14 := n1_; have HO_16 := n2_; have HO_123 := n3_; have BK174 := n4_; have HB := n5_; clear n0_ n1_ n2_ n3_ n4_ n5_; (try clear hb); (try clear hb2); (try clear hk); (try clear hi)))
                                     have n0_ := Aside0.mk (Kd.R_drew HO_12.out)
                                     have n1_ := Aside0.mk (Kd.Q_drew HO_14.out)
                                     have n2_ := Aside0.mk (Kd.R_drew HO_16.out)
                                     have n3_ := Aside0.mk (Kd.R_drew HO_123.out)
                                     have n4_ := Aside0.mk (blk_drew BK174.out)
                                     have n5_ := Aside0.mk (below_drew1 HB.out)
                                     clear HO_12
                                     clear HO_14
                                     clear HO_16
                                     clear HO_123
                                     clear BK174
                                     clear HB
                                     have HO_12 := n0_
                                     have HO_14 := n1_
                                     have HO_16 := n2_
                                     have HO_123 := n3_
                                     have BK174 := n4_
                                     have HB := n5_
                                     clear n0_ n1_ n2_ n3_ n4_ n5_
                                     obtain ⟨Ao88, co88, eo88⟩ := Kd.R_slice HO_16.out
                                     (first | subst eo88 | (injection eo88 with f1_ f2_ f3_; have f4_ := f1_.symm; have f5_ := f3_.symm; clear f1_ f2_ f3_; subst f4_; subst f5_))
                                     have p203 : 0 ≤ (x125_6 : Int) := of_decide_eq_true (by first | (with_reducible assumption) | assumption)
                                     have q203 : x125_6 < (t197.length : Int) := of_decide_eq_true (by first | (with_reducible assumption) | assumption)
                                     obtain ⟨ad203, e203, hx203_0⟩ := Kd.at_int (Kd.R_reads' HO_16.out).2.2 x125_6 p203 q203
                                     cases e203
                                     replace p203 := eq_true p203
                                     replace q203 := eq_true q203
                                     have p204 : 0 ≤ (t202 : Int) := of_decide_eq_true (by first | (with_reducible assumption) | assumption)
                                     have q204 : t202 < (t197.length : Int) := of_decide_eq_true (by first | (with_reducible assumption) | assumption)
                                     obtain ⟨ad204, e204, hx204_0⟩ := Kd.at_int (Kd.R_reads' HO_16.out).2.2 t202 p204 q204
                                     obtain rfl : ad203 = ad204 := (by injection e204)
                                     replace p204 := eq_true p204
                                     replace q204 := eq_true q204
                                     have p205 : 0 ≤ (t202 : Int) := of_decide_eq_true (by first | (with_reducible assumption) | assumption)
                                     have q205 : t202 < (t197.length : Int) := of_decide_eq_true (by first | (with_reducible assumption) | assumption)
                                     obtain ⟨ad205, e205, hx205_0⟩ := Kd.at_int (Kd.R_reads' HO_16.out).2.2 t202 p205 q205
                                     obtain rfl : ad203 = ad205 := (by injection e205)
                                     replace p205 := eq_true p205
                                     replace q205 := eq_true q205
                                     have p206 : 0 ≤ (t202 : Int) := of_decide_eq_true (by first | (with_reducible assumption) | assumption)
                                     have q206 : t202 < (l0_2.length : Int) := of_decide_eq_true (by first | (with_reducible assumption) | assumption)
                                     obtain ⟨ad206, e206, hx206_0⟩ := Kd.at_int HR0_2.out t202 p206 q206
                                     have hw206_0 := hx206_0
                                     cases e206
                                     replace hx206_0 := (HB.out.cell (World.block_lt_of_cell? w _ hx206_0)).trans hx206_0
                                     replace p206 := eq_true p206
                                     replace q206 := eq_true q206
                                     have p207 : 0 ≤ (x125_6 : Int) := of_decide_eq_true (by first | (with_reducible assumption) | assumption)
                                     have q207 : x125_6 < (t197.length : Int) := of_decide_eq_true (by first | (with_reducible assumption) | assumption)
                                     obtain ⟨ad207, e207, hx207_0⟩ := Kd.at_int (Kd.R_reads' HO_16.out).2.2 x125_6 p207 q207
                                     obtain rfl : ad203 = ad207 := (by injection e207)
                                     replace p207 := eq_true p207
                                     replace q207 := eq_true q207
                                     refine start_ (n := 33) (S := fun w' => w'.cell? ⟨gb174, 0, none⟩ = some (.int .i64 a0_0) ∧ w'.cell? ⟨gb174, 1, none⟩ = some (.int .i64 a0_1) ∧ w'.cell? ⟨gb174, 2, none⟩ = some (.slice (some ad206) l0_2.length c0_2) ∧ w'.cell? (ad203.add (x125_6).toNat) = some (.int .i64 (rd t197 x125_6)) ∧ w'.cell? (ad203.add (t202).toNat) = some (.int .i64 (rd t197 t202)) ∧ w'.cell? (ad203.add (t202).toNat) = some (.int .i64 (rd t197 t202)) ∧ w'.cell? (ad206.add (t202).toNat) = some (.int .i64 (rd l0_2 t202)) ∧ w'.cell? (ad203.add (x125_6).toNat) = some (.int .i64 (rd t197 x125_6))) (ds := []) (ab 33 0) (by kernel_rfl) rfl rfl ⟨(blk_cell BK174.out 0).trans rfl, (blk_cell BK174.out 1).trans rfl, (blk_cell BK174.out 2).trans rfl, hx203_0, hx204_0, hx205_0, ((HB.out.cell (World.block_lt_of_cell? w _ hw206_0)).trans hw206_0), hx207_0⟩ (fun hHeld => ?_); refine with_tabW tourlaw5_FlowTells.tab24 tourlaw5_FlowTells.bits24 (fun HT_ HW_ => ?_)
                                     generalize w86.drew = w87 at HO_12 HO_14 HO_16 HO_123 BK174 HB hx203_0 hx204_0 hx205_0 hx206_0 hx207_0 hHeld ⊢
                                     refine pure_ (i := 0) (N := some 138) (v := ?_) (a' := ?_) (ab 33 1) rfl rfl (any_of HT_.out (by kernel_rfl)) (fun _ _ _ h => h) (Or.inl ⟨by rfl, ?_⟩) ?_ ?_
                                     rotate_left
                                     ·intro w'
                                      go_simp
                                      with_reducible rfl
                                     rotate_left
                                     ·simp only [Act.put, zq1, zq2, zq3, i64_w, i32_w]
                                      rfl
                                     refine pure_ (i := 1) (N := some 139) (v := ?_) (a' := ?_) (ab 33 3) rfl rfl (any_of HT_.out (by kernel_rfl)) (fun _ _ _ h => h) (Or.inl ⟨by rfl, ?_⟩) ?_ ?_
                                     rotate_left
                                     ·intro w'
                                      go_simp
                                      with_reducible rfl
                                     rotate_left
                                     ·simp only [Act.put, zq1, zq2, zq3, i64_w, i32_w]
                                      rfl
                                     refine pure_ (i := 2) (N := some 140) (v := ?_) (a' := ?_) (ab 33 7) rfl rfl (any_of HT_.out (by kernel_rfl)) (fun _ _ _ h => h) (Or.inl ⟨by rfl, ?_⟩) ?_ ?_
                                     rotate_left
                                     ·intro w'
                                      go_simp
                                      with_reducible rfl
                                     rotate_left
                                     ·simp only [Act.put, zq1, zq2, zq3, i64_w, i32_w]
                                      rfl
                                     refine take_ (i := 3) (N := some 141) (v := ?_) (a' := ?_) (ab 33 15) rfl rfl (take_ofW HT_.out HW_.out (by kernel_rfl)) (fun _ _ _ h => h) (Or.inl ⟨by rfl, ?_⟩) hHeld ?_ ?_
                                     rotate_left
                                     ·rintro w' ⟨s0, s1, s2, s3, s4, s5, s6, s7⟩
                                      go_simp
                                      with_reducible rfl
                                     rotate_left
                                     ·simp only [Act.put, zq1, zq2, zq3, i64_w, i32_w]
                                      rfl
                                     refine pure_ (i := 4) (N := some 142) (v := ?_) (a' := ?_) (ab 33 31) rfl rfl (any_of HT_.out (by kernel_rfl)) (fun _ _ _ h => h) (Or.inl ⟨by rfl, ?_⟩) ?_ ?_
                                     rotate_left
                                     ·intro w'
                                      go_simp
                                      with_reducible rfl
                                     rotate_left
                                     ·simp only [Act.put, zq1, zq2, zq3, i64_w, i32_w]
                                      rfl
                                     refine pure_ (i := 5) (N := some 143) (v := ?_) (a' := ?_) (ab 33 63) rfl rfl (any_of HT_.out (by kernel_rfl)) (fun _ _ _ h => h) (Or.inl ⟨by rfl, ?_⟩) ?_ ?_
                                     rotate_left
                                     ·intro w'
                                      go_simp
                                      with_reducible rfl
                                     rotate_left
                                     ·simp only [Act.put, zq1, zq2, zq3, i64_w, i32_w]
                                      rfl
                                     refine pure_ (i := 6) (N := some 144) (v := ?_) (a' := ?_) (ab 33 127) rfl rfl (any_of HT_.out (by kernel_rfl)) (fun _ _ _ h => h) (Or.inl ⟨by rfl, ?_⟩) ?_ ?_
                                     rotate_left
                                     ·intro w'
                                      go_simp
                                      with_reducible rfl
                                     rotate_left
                                     ·simp only [Act.put, zq1, zq2, zq3, i64_w, i32_w]
                                      rfl
                                     refine pure_ (i := 7) (N := some 145) (v := ?_) (a' := ?_) (ab 33 255) rfl rfl (any_of HT_.out (by kernel_rfl)) (fun _ _ _ h => h) (Or.inl ⟨by rfl, ?_⟩) ?_ ?_
                                     rotate_left
                                     ·intro w'
                                      go_simp
                                      with_reducible rfl
                                     rotate_left
                                     ·simp only [Act.put, zq1, zq2, zq3, i64_w, i32_w]
                                      rfl
                                     refine pure_ (i := 8) (N := some 146) (v := ?_) (a' := ?_) (ab 33 511) rfl rfl (any_of HT_.out (by kernel_rfl)) (fun _ _ _ h => h) (Or.inl ⟨by rfl, ?_⟩) ?_ ?_
                                     rotate_left
                                     ·intro w'
                                      go_simp
                                      with_reducible rfl
                                     rotate_left
                                     ·simp only [Act.put, zq1, zq2, zq3, i64_w, i32_w]
                                      rfl
                                     refine pure_ (i := 9) (N := some 147) (v := ?_) (a' := ?_) (ab 33 1023) rfl rfl (any_of HT_.out (by kernel_rfl)) (fun _ _ _ h => h) (Or.inl ⟨by rfl, ?_⟩) ?_ ?_
                                     rotate_left
                                     ·intro w'
                                      go_simp
                                      with_reducible rfl
                                     rotate_left
                                     ·simp only [Act.put, zq1, zq2, zq3, i64_w, i32_w]
                                      rfl
                                     refine pure_ (i := 10) (N := some 148) (v := ?_) (a' := ?_) (ab 33 2047) rfl rfl (any_of HT_.out (by kernel_rfl)) (fun _ _ _ h => h) (Or.inl ⟨by rfl, ?_⟩) ?_ ?_
                                     rotate_left
                                     ·intro w'
                                      go_simp
                                      with_reducible rfl
                                     rotate_left
                                     ·simp only [Act.put, zq1, zq2, zq3, i64_w, i32_w]
                                      rfl
                                     refine pure_ (i := 11) (N := some 149) (v := ?_) (a' := ?_) (ab 33 4095) rfl rfl (any_of HT_.out (by kernel_rfl)) (fun _ _ _ h => h) (Or.inl ⟨by rfl, ?_⟩) ?_ ?_
                                     rotate_left
                                     ·intro w'
                                      go_simp
                                      with_reducible rfl
                                     rotate_left
                                     ·simp only [Act.put, zq1, zq2, zq3, i64_w, i32_w]
                                      rfl
                                     refine pure_ (i := 12) (N := some 150) (v := ?_) (a' := ?_) (ab 33 8191) rfl rfl (any_of HT_.out (by kernel_rfl)) (fun _ _ _ h => h) (Or.inl ⟨by rfl, ?_⟩) ?_ ?_
                                     rotate_left
                                     ·intro w'
                                      go_simp
                                      with_reducible rfl
                                     rotate_left
                                     ·simp only [Act.put, zq1, zq2, zq3, i64_w, i32_w]
                                      rfl
                                     refine take_ (i := 13) (N := some 151) (v := ?_) (a' := ?_) (ab 33 16383) rfl rfl (take_ofW HT_.out HW_.out (by kernel_rfl)) (fun _ _ _ h => h) (Or.inl ⟨by rfl, ?_⟩) hHeld ?_ ?_
                                     rotate_left
                                     ·rintro w' ⟨s0, s1, s2, s3, s4, s5, s6, s7⟩
                                      go_simp
                                      with_reducible rfl
                                     rotate_left
                                     ·simp only [Act.put, zq1, zq2, zq3, i64_w, i32_w]
                                      rfl
                                     refine pure_ (i := 14) (N := some 152) (v := ?_) (a' := ?_) (ab 33 32767) rfl rfl (any_of HT_.out (by kernel_rfl)) (fun _ _ _ h => h) (Or.inl ⟨by rfl, ?_⟩) ?_ ?_
                                     rotate_left
                                     ·intro w'
                                      go_simp
                                      with_reducible rfl
                                     rotate_left
                                     ·simp only [Act.put, zq1, zq2, zq3, i64_w, i32_w]
                                      rfl
                                     refine pure_ (i := 15) (N := some 153) (v := ?_) (a' := ?_) (ab 33 65535) rfl rfl (any_of HT_.out (by kernel_rfl)) (fun _ _ _ h => h) (Or.inl ⟨by rfl, ?_⟩) ?_ ?_
                                     rotate_left
                                     ·intro w'
                                      go_simp
                                      with_reducible rfl
                                     rotate_left
                                     ·simp only [Act.put, zq1, zq2, zq3, i64_w, i32_w]
                                      rfl
                                     refine pure_ (i := 16) (N := some 154) (v := ?_) (a' := ?_) (ab 33 131071) rfl rfl (any_of HT_.out (by kernel_rfl)) (fun _ _ _ h => h) (Or.inl ⟨by rfl, ?_⟩) ?_ ?_
                                     rotate_left
                                     ·intro w'
                                      go_simp
                                      with_reducible rfl
                                     rotate_left
                                     ·simp only [Act.put, zq1, zq2, zq3, i64_w, i32_w]
                                      rfl
                                     refine pure_ (i := 17) (N := some 155) (v := ?_) (a' := ?_) (ab 33 262143) rfl rfl (any_of HT_.out (by kernel_rfl)) (fun _ _ _ h => h) (Or.inl ⟨by rfl, ?_⟩) ?_ ?_
                                     rotate_left
                                     ·intro w'
                                      go_simp
                                      with_reducible rfl
                                     rotate_left
                                     ·simp only [Act.put, zq1, zq2, zq3, i64_w, i32_w]
                                      rfl
                                     refine pure_ (i := 18) (N := some 156) (v := ?_) (a' := ?_) (ab 33 524287) rfl rfl (any_of HT_.out (by kernel_rfl)) (fun _ _ _ h => h) (Or.inl ⟨by rfl, ?_⟩) ?_ ?_
                                     rotate_left
                                     ·intro w'
                                      go_simp
                                      with_reducible rfl
                                     rotate_left
                                     ·simp only [Act.put, zq1, zq2, zq3, i64_w, i32_w]
                                      rfl
                                     refine pure_ (i := 19) (N := some 157) (v := ?_) (a' := ?_) (ab 33 1048575) rfl rfl (any_of HT_.out (by kernel_rfl)) (fun _ _ _ h => h) (Or.inl ⟨by rfl, ?_⟩) ?_ ?_
                                     rotate_left
                                     ·intro w'
                                      go_simp
                                      with_reducible rfl
                                     rotate_left
                                     ·simp only [Act.put, zq1, zq2, zq3, i64_w, i32_w]
                                      rfl
                                     refine pure_ (i := 21) (N := some 159) (v := ?_) (a' := ?_) (ab 33 3145727) rfl rfl (any_of HT_.out (by kernel_rfl)) (fun _ _ _ h => h) (Or.inl ⟨by rfl, ?_⟩) ?_ ?_
                                     rotate_left
                                     ·intro w'
                                      go_simp
                                      with_reducible rfl
                                     rotate_left
                                     ·simp only [Act.put, zq1, zq2, zq3, i64_w, i32_w]
                                      rfl
                                     refine pure_ (i := 23) (N := some 161) (v := ?_) (a' := ?_) (ab 33 11534335) rfl rfl (any_of HT_.out (by kernel_rfl)) (fun _ _ _ h => h) (Or.inl ⟨by rfl, ?_⟩) ?_ ?_
                                     rotate_left
                                     ·intro w'
                                      go_simp
                                      with_reducible rfl
                                     rotate_left
                                     ·simp only [Act.put, zq1, zq2, zq3, i64_w, i32_w]
                                      rfl
                                     refine pure_ (i := 27) (N := some 165) (v := ?_) (a' := ?_) (ab 33 145752063) rfl rfl (any_of HT_.out (by kernel_rfl)) (fun _ _ _ h => h) (Or.inl ⟨by rfl, ?_⟩) ?_ ?_
                                     rotate_left
                                     ·intro w'
                                      go_simp
                                      with_reducible rfl
                                     rotate_left
                                     ·simp only [Act.put, zq1, zq2, zq3, i64_w, i32_w]
                                      rfl
                                     refine pure_ (i := 28) (N := some 166) (v := ?_) (a' := ?_) (ab 33 414187519) rfl rfl (any_of HT_.out (by kernel_rfl)) (fun _ _ _ h => h) (Or.inl ⟨by rfl, ?_⟩) ?_ ?_
                                     rotate_left
                                     ·intro w'
                                      go_simp
                                      with_reducible rfl
                                     rotate_left
                                     ·simp only [Act.put, zq1, zq2, zq3, i64_w, i32_w]
                                      rfl
                                     refine pure_ (i := 29) (N := some 167) (v := ?_) (a' := ?_) (ab 33 951058431) rfl rfl (any_of HT_.out (by kernel_rfl)) (fun _ _ _ h => h) (Or.inl ⟨by rfl, ?_⟩) ?_ ?_
                                     rotate_left
                                     ·intro w'
                                      go_simp
                                      with_reducible rfl
                                     rotate_left
                                     ·simp only [Act.put, zq1, zq2, zq3, i64_w, i32_w]
                                      rfl
                                     refine take_ (i := 20) (N := some 158) (v := ?_) (a' := ?_) (ab 33 952107007) rfl rfl (take_ofW HT_.out HW_.out (by kernel_rfl)) (fun _ _ _ h => h) (Or.inl ⟨by rfl, ?_⟩) hHeld ?_ ?_
                                     rotate_left
                                     ·rintro w' ⟨s0, s1, s2, s3, s4, s5, s6, s7⟩
                                      go_simp
                                      with_reducible rfl
                                     rotate_left
                                     ·simp only [Act.put, zq1, zq2, zq3, i64_w, i32_w]
                                      rfl
                                     refine take_ (i := 22) (N := some 160) (v := ?_) (a' := ?_) (ab 33 956301311) rfl rfl (take_ofW HT_.out HW_.out (by kernel_rfl)) (fun _ _ _ h => h) (Or.inl ⟨by rfl, ?_⟩) hHeld ?_ ?_
                                     rotate_left
                                     ·rintro w' ⟨s0, s1, s2, s3, s4, s5, s6, s7⟩
                                      go_simp
                                      with_reducible rfl
                                     rotate_left
                                     ·simp only [Act.put, zq1, zq2, zq3, i64_w, i32_w]
                                      rfl
                                     refine pure_ (i := 24) (N := some 162) (v := ?_) (a' := ?_) (ab 33 973078527) rfl rfl (any_of HT_.out (by kernel_rfl)) (fun _ _ _ h => h) (Or.inl ⟨by rfl, ?_⟩) ?_ ?_
                                     rotate_left
                                     ·intro w'
                                      go_simp
                                      with_reducible rfl
                                     rotate_left
                                     ·simp only [Act.put, zq1, zq2, zq3, i64_w, i32_w]
                                      rfl
                                     refine take_ (i := 25) (N := some 163) (v := ?_) (a' := ?_) (ab 33 1006632959) rfl rfl (take_ofW HT_.out HW_.out (by kernel_rfl)) (fun _ _ _ h => h) (Or.inl ⟨by rfl, ?_⟩) hHeld ?_ ?_
                                     rotate_left
                                     ·rintro w' ⟨s0, s1, s2, s3, s4, s5, s6, s7⟩
                                      go_simp
                                      with_reducible rfl
                                     rotate_left
                                     ·simp only [Act.put, zq1, zq2, zq3, i64_w, i32_w]
                                      rfl
                                     refine pure_ (i := 26) (N := some 164) (v := ?_) (a' := ?_) (ab 33 1073741823) rfl rfl (any_of HT_.out (by kernel_rfl)) (fun _ _ _ h => h) (Or.inl ⟨by rfl, ?_⟩) ?_ ?_
                                     rotate_left
                                     ·intro w'
                                      go_simp
                                      with_reducible rfl
                                     rotate_left
                                     ·simp only [Act.put, zq1, zq2, zq3, i64_w, i32_w]
                                      rfl
                                     refine take_ (i := 30) (N := some 168) (v := ?_) (a' := ?_) (ab 33 2147483647) rfl rfl (take_ofW HT_.out HW_.out (by kernel_rfl)) (fun _ _ _ h => h) (Or.inl ⟨by rfl, ?_⟩) hHeld ?_ ?_
                                     rotate_left
                                     ·rintro w' ⟨s0, s1, s2, s3, s4, s5, s6, s7⟩
                                      go_simp
                                      with_reducible rfl
                                     rotate_left
                                     ·simp only [Act.put, zq1, zq2, zq3, i64_w, i32_w]
                                      rfl
                                     refine pure_ (i := 31) (N := some 169) (v := ?_) (a' := ?_) (ab 33 4294967295) rfl rfl (any_of HT_.out (by kernel_rfl)) (fun _ _ _ h => h) (Or.inl ⟨by rfl, ?_⟩) ?_ ?_
                                     rotate_left
                                     ·intro w'
                                      go_simp
                                      with_reducible rfl
                                     rotate_left
                                     ·simp only [Act.put, zq1, zq2, zq3, i64_w, i32_w]
                                      rfl
                                     refine pure_ (i := 32) (N := some 170) (v := ?_) (a' := ?_) (ab 33 8589934591) rfl rfl (any_of HT_.out (by kernel_rfl)) (fun _ _ _ h => h) (Or.inl ⟨by rfl, ?_⟩) ?_ ?_
                                     rotate_left
                                     ·intro w'
                                      go_simp
                                      with_reducible rfl
                                     rotate_left
                                     ·simp only [Act.put, zq1, zq2, zq3, i64_w, i32_w]
                                      rfl
                                     refine done_ (done_of HT_.out (by kernel_rfl)) ?_
                                     try go_wp2
                                     go_roundg k7
                                     case measure => have := HJ4.out; have := HJ20.out; have := HJ34.out; have := HJ39.out; have := HJ46.out; have := HK6.out; have := HK7.out; omega
                                     case rel => exact ⟨(x19_7), (wrap64 (x20_7 - 1)), (by first | rfl | (simp; done) | (simp [*]; done)), (by first | rfl | (simp; done) | (simp [*]; done)), H', ⟨by have := HJ4.out; have := HJ20.out; have := HJ34.out; have := HJ39.out; have := HJ46.out; have := HK6.out; have := HK7.out; omega⟩, ⟨by (with_reducible repeat (first | apply Kd.R_alloc | apply Kd.R_drewN | apply Kd.R_drew)); exact HO_12.out⟩, ⟨by (with_reducible repeat (first | apply Kd.Q_alloc | apply Kd.Q_drewN | apply Kd.Q_drew)); exact HO_14.out⟩, ⟨by (with_reducible repeat (first | apply Kd.R_alloc | apply Kd.R_drewN | apply Kd.R_drew)); exact HO_16.out⟩, ⟨by (with_reducible repeat (first | apply Kd.R_alloc | apply Kd.R_drewN | apply Kd.R_drew)); exact HO_123.out⟩, ⟨BK174.out⟩, ⟨by repeat (first | (with_reducible first | exact HB.out | apply below_alloc | apply pw_below_drewN | apply below_drew1 | refine below_set ?_ GE174.out) | exact HB.out)⟩⟩
                                   ·rw [if_neg c79] at H
                                    exact absurd H (by simp)
                                  ·rw [if_neg c78] at H
                                   have c78b0 : decide (0 ≤ (rd t197 t202)) = false := decide_eq_false c78
                                   clear c78
                                   have H' := Aside0.mk H
                                   clear H
                                   have hcz89_0 : wr.cell? ⟨gb174, 0, none⟩ = some (.int .i64 a0_0) := (blk_cell BK174.out 0).trans rfl
                                   have hcz89_1 : wr.cell? ⟨gb174, 1, none⟩ = some (.int .i64 a0_1) := (blk_cell BK174.out 1).trans rfl
                                   have hcz89_2 : wr.cell? ⟨gb174, 2, none⟩ = some (.slice A0_2 l0_2.length c0_2) := (blk_cell BK174.out 2).trans rfl
                                   have hfz89_0 := blk_frozen BK174.out 0
                                   have hfz89_1 := blk_frozen BK174.out 1
                                   have hfz89_2 := blk_frozen BK174.out 2
                                   try go_wp2_with (first | ((with_reducible refine gate_callee (f := 19) rfl ?_); refine goesL_ (some 137) rfl rfl Try.func19 (by kernel_rfl) rfl #[.agg #[.int .i64 a0_0, .int .i64 a0_1, .slice A0_2 l0_2.length c0_2], .int .i64 x125_6, .int .i64 x20_7] rfl (by (try simp only [zm1, zm2, zm3]); first | done | rfl) ?_; (with_reducible refine (tourref5_Beyond.calls k7 a0_0 a0_1 _ _ l0_2 x125_6 x20_7 t202 _ ?side1 ?side2 A71.out).mono ?_); (case side1 => repeat (first | exact (Kd.C_below HR0_2.out HB.out) | (with_reducible refine Kd.C_alloc ?_ _) | (with_reducible refine Kd.C_drewN ?_ _) | (with_reducible refine Kd.C_drew ?_))); (case side2 => exact HC0_2.out); rintro e w90 ⟨rfl, hb⟩; refine ⟨_, rfl, ?_⟩; have n0_ := Aside0.mk (Kd.R_below (by (with_reducible repeat (first | apply Kd.R_alloc | apply Kd.R_drewN | apply Kd.R_drew)); exact HO_12.out) hb); have n1_ := Aside0.mk (Kd.Q_below (by (with_reducible repeat (first | apply Kd.Q_alloc | apply Kd.Q_drewN | apply Kd.Q_drew)); exact HO_14.out) hb); have n2_ := Aside0.mk (Kd.R_below (by (with_reducible repeat (first | apply Kd.R_alloc | apply Kd.R_drewN | apply Kd.R_drew)); exact HO_16.out) hb); have n3_ := Aside0.mk (Kd.R_below (by (with_reducible repeat (first | apply Kd.R_alloc | apply Kd.R_drewN | apply Kd.R_drew)); exact HO_123.out) hb); have n4_ := Aside0.mk (bb hb BK174.out); have n5_ := Aside0.mk (below_step (by repeat (first | (with_reducible first | exact HB.out | apply below_alloc | apply pw_below_drewN | apply below_drew1 | refine below_set ?_ GE174.out) | exact HB.out)) hb); clear HO_12; clear HO_14; clear HO_16; clear HO_123; clear BK174; clear HB; have HO_12 := n0_; have HO_14 := n1_; have HO_16 := n2_; have HO_123 := n3_; have BK174 := n4_; have HB := n5_; clear n0_ n1_ n2_ n3_ n4_ n5_; (try clear hb); (try clear hb2); (try clear hk); (try clear hi)))
                                   have n0_ := Aside0.mk (Kd.R_drew HO_12.out)
                                   have n1_ := Aside0.mk (Kd.Q_drew HO_14.out)
                                   have n2_ := Aside0.mk (Kd.R_drew HO_16.out)
                                   have n3_ := Aside0.mk (Kd.R_drew HO_123.out)
                                   have n4_ := Aside0.mk (blk_drew BK174.out)
                                   have n5_ := Aside0.mk (below_drew1 HB.out)
                                   clear HO_12
                                   clear HO_14
                                   clear HO_16
                                   clear HO_123
                                   clear BK174
                                   clear HB
                                   have HO_12 := n0_
                                   have HO_14 := n1_
                                   have HO_16 := n2_
                                   have HO_123 := n3_
                                   have BK174 := n4_
                                   have HB := n5_
                                   clear n0_ n1_ n2_ n3_ n4_ n5_
                                   obtain ⟨Ao92, co92, eo92⟩ := Kd.R_slice HO_16.out
                                   (first | subst eo92 | (injection eo92 with f1_ f2_ f3_; have f4_ := f1_.symm; have f5_ := f3_.symm; clear f1_ f2_ f3_; subst f4_; subst f5_))
                                   have p203 : 0 ≤ (x125_6 : Int) := of_decide_eq_true (by first | (with_reducible assumption) | assumption)
                                   have q203 : x125_6 < (t197.length : Int) := of_decide_eq_true (by first | (with_reducible assumption) | assumption)
                                   obtain ⟨ad203, e203, hx203_0⟩ := Kd.at_int (Kd.R_reads' HO_16.out).2.2 x125_6 p203 q203
                                   cases e203
                                   replace p203 := eq_true p203
                                   replace q203 := eq_true q203
                                   have p204 : 0 ≤ (t202 : Int) := of_decide_eq_true (by first | (with_reducible assumption) | assumption)
                                   have q204 : t202 < (t197.length : Int) := of_decide_eq_true (by first | (with_reducible assumption) | assumption)
                                   obtain ⟨ad204, e204, hx204_0⟩ := Kd.at_int (Kd.R_reads' HO_16.out).2.2 t202 p204 q204
                                   obtain rfl : ad203 = ad204 := (by injection e204)
                                   replace p204 := eq_true p204
                                   replace q204 := eq_true q204
                                   refine start_ (n := 33) (S := fun w' => w'.cell? (ad203.add (x125_6).toNat) = some (.int .i64 (rd t197 x125_6)) ∧ w'.cell? (ad203.add (t202).toNat) = some (.int .i64 (rd t197 t202))) (ds := []) (ab 33 0) (by kernel_rfl) rfl rfl ⟨hx203_0, hx204_0⟩ (fun hHeld => ?_); refine with_tabW tourlaw5_FlowTells.tab24 tourlaw5_FlowTells.bits24 (fun HT_ HW_ => ?_)
                                   generalize w90.drew = w91 at HO_12 HO_14 HO_16 HO_123 BK174 HB hx203_0 hx204_0 hHeld ⊢
                                   refine pure_ (i := 0) (N := some 138) (v := ?_) (a' := ?_) (ab 33 1) rfl rfl (any_of HT_.out (by kernel_rfl)) (fun _ _ _ h => h) (Or.inl ⟨by rfl, ?_⟩) ?_ ?_
                                   rotate_left
                                   ·intro w'
                                    go_simp
                                    with_reducible rfl
                                   rotate_left
                                   ·simp only [Act.put, zq1, zq2, zq3, i64_w, i32_w]
                                    rfl
                                   refine pure_ (i := 1) (N := some 139) (v := ?_) (a' := ?_) (ab 33 3) rfl rfl (any_of HT_.out (by kernel_rfl)) (fun _ _ _ h => h) (Or.inl ⟨by rfl, ?_⟩) ?_ ?_
                                   rotate_left
                                   ·intro w'
                                    go_simp
                                    with_reducible rfl
                                   rotate_left
                                   ·simp only [Act.put, zq1, zq2, zq3, i64_w, i32_w]
                                    rfl
                                   refine pure_ (i := 2) (N := some 140) (v := ?_) (a' := ?_) (ab 33 7) rfl rfl (any_of HT_.out (by kernel_rfl)) (fun _ _ _ h => h) (Or.inl ⟨by rfl, ?_⟩) ?_ ?_
                                   rotate_left
                                   ·intro w'
                                    go_simp
                                    with_reducible rfl
                                   rotate_left
                                   ·simp only [Act.put, zq1, zq2, zq3, i64_w, i32_w]
                                    rfl
                                   refine take_ (i := 3) (N := some 141) (v := ?_) (a' := ?_) (ab 33 15) rfl rfl (take_ofW HT_.out HW_.out (by kernel_rfl)) (fun _ _ _ h => h) (Or.inl ⟨by rfl, ?_⟩) hHeld ?_ ?_
                                   rotate_left
                                   ·rintro w' ⟨s0, s1⟩
                                    go_simp
                                    with_reducible rfl
                                   rotate_left
                                   ·simp only [Act.put, zq1, zq2, zq3, i64_w, i32_w]
                                    rfl
                                   refine pure_ (i := 4) (N := some 142) (v := ?_) (a' := ?_) (ab 33 31) rfl rfl (any_of HT_.out (by kernel_rfl)) (fun _ _ _ h => h) (Or.inl ⟨by rfl, ?_⟩) ?_ ?_
                                   rotate_left
                                   ·intro w'
                                    go_simp
                                    with_reducible rfl
                                   rotate_left
                                   ·simp only [Act.put, zq1, zq2, zq3, i64_w, i32_w]
                                    rfl
                                   refine pure_ (i := 5) (N := some 143) (v := ?_) (a' := ?_) (ab 33 63) rfl rfl (any_of HT_.out (by kernel_rfl)) (fun _ _ _ h => h) (Or.inl ⟨by rfl, ?_⟩) ?_ ?_
                                   rotate_left
                                   ·intro w'
                                    go_simp
                                    with_reducible rfl
                                   rotate_left
                                   ·simp only [Act.put, zq1, zq2, zq3, i64_w, i32_w]
                                    rfl
                                   refine pure_ (i := 6) (N := some 144) (v := ?_) (a' := ?_) (ab 33 127) rfl rfl (any_of HT_.out (by kernel_rfl)) (fun _ _ _ h => h) (Or.inl ⟨by rfl, ?_⟩) ?_ ?_
                                   rotate_left
                                   ·intro w'
                                    go_simp
                                    with_reducible rfl
                                   rotate_left
                                   ·simp only [Act.put, zq1, zq2, zq3, i64_w, i32_w]
                                    rfl
                                   refine pure_ (i := 7) (N := some 145) (v := ?_) (a' := ?_) (ab 33 255) rfl rfl (any_of HT_.out (by kernel_rfl)) (fun _ _ _ h => h) (Or.inl ⟨by rfl, ?_⟩) ?_ ?_
                                   rotate_left
                                   ·intro w'
                                    go_simp
                                    with_reducible rfl
                                   rotate_left
                                   ·simp only [Act.put, zq1, zq2, zq3, i64_w, i32_w]
                                    rfl
                                   refine pure_ (i := 8) (N := some 146) (v := ?_) (a' := ?_) (ab 33 511) rfl rfl (any_of HT_.out (by kernel_rfl)) (fun _ _ _ h => h) (Or.inl ⟨by rfl, ?_⟩) ?_ ?_
                                   rotate_left
                                   ·intro w'
                                    go_simp
                                    with_reducible rfl
                                   rotate_left
                                   ·simp only [Act.put, zq1, zq2, zq3, i64_w, i32_w]
                                    rfl
                                   refine pure_ (i := 9) (N := some 147) (v := ?_) (a' := ?_) (ab 33 1023) rfl rfl (any_of HT_.out (by kernel_rfl)) (fun _ _ _ h => h) (Or.inl ⟨by rfl, ?_⟩) ?_ ?_
                                   rotate_left
                                   ·intro w'
                                    go_simp
                                    with_reducible rfl
                                   rotate_left
                                   ·simp only [Act.put, zq1, zq2, zq3, i64_w, i32_w]
                                    rfl
                                   refine pure_ (i := 10) (N := some 148) (v := ?_) (a' := ?_) (ab 33 2047) rfl rfl (any_of HT_.out (by kernel_rfl)) (fun _ _ _ h => h) (Or.inl ⟨by rfl, ?_⟩) ?_ ?_
                                   rotate_left
                                   ·intro w'
                                    go_simp
                                    with_reducible rfl
                                   rotate_left
                                   ·simp only [Act.put, zq1, zq2, zq3, i64_w, i32_w]
                                    rfl
                                   refine pure_ (i := 11) (N := some 149) (v := ?_) (a' := ?_) (ab 33 4095) rfl rfl (any_of HT_.out (by kernel_rfl)) (fun _ _ _ h => h) (Or.inl ⟨by rfl, ?_⟩) ?_ ?_
                                   rotate_left
                                   ·intro w'
                                    go_simp
                                    with_reducible rfl
                                   rotate_left
                                   ·simp only [Act.put, zq1, zq2, zq3, i64_w, i32_w]
                                    rfl
                                   refine pure_ (i := 12) (N := some 150) (v := ?_) (a' := ?_) (ab 33 8191) rfl rfl (any_of HT_.out (by kernel_rfl)) (fun _ _ _ h => h) (Or.inl ⟨by rfl, ?_⟩) ?_ ?_
                                   rotate_left
                                   ·intro w'
                                    go_simp
                                    with_reducible rfl
                                   rotate_left
                                   ·simp only [Act.put, zq1, zq2, zq3, i64_w, i32_w]
                                    rfl
                                   refine take_ (i := 13) (N := some 151) (v := ?_) (a' := ?_) (ab 33 16383) rfl rfl (take_ofW HT_.out HW_.out (by kernel_rfl)) (fun _ _ _ h => h) (Or.inl ⟨by rfl, ?_⟩) hHeld ?_ ?_
                                   rotate_left
                                   ·rintro w' ⟨s0, s1⟩
                                    go_simp
                                    with_reducible rfl
                                   rotate_left
                                   ·simp only [Act.put, zq1, zq2, zq3, i64_w, i32_w]
                                    rfl
                                   refine pure_ (i := 14) (N := some 152) (v := ?_) (a' := ?_) (ab 33 32767) rfl rfl (any_of HT_.out (by kernel_rfl)) (fun _ _ _ h => h) (Or.inl ⟨by rfl, ?_⟩) ?_ ?_
                                   rotate_left
                                   ·intro w'
                                    go_simp
                                    with_reducible rfl
                                   rotate_left
                                   ·simp only [Act.put, zq1, zq2, zq3, i64_w, i32_w]
                                    rfl
                                   refine pure_ (i := 15) (N := some 153) (v := ?_) (a' := ?_) (ab 33 65535) rfl rfl (any_of HT_.out (by kernel_rfl)) (fun _ _ _ h => h) (Or.inl ⟨by rfl, ?_⟩) ?_ ?_
                                   rotate_left
                                   ·intro w'
                                    go_simp
                                    with_reducible rfl
                                   rotate_left
                                   ·simp only [Act.put, zq1, zq2, zq3, i64_w, i32_w]
                                    rfl
                                   refine pure_ (i := 16) (N := some 154) (v := ?_) (a' := ?_) (ab 33 131071) rfl rfl (any_of HT_.out (by kernel_rfl)) (fun _ _ _ h => h) (Or.inl ⟨by rfl, ?_⟩) ?_ ?_
                                   rotate_left
                                   ·intro w'
                                    go_simp
                                    with_reducible rfl
                                   rotate_left
                                   ·simp only [Act.put, zq1, zq2, zq3, i64_w, i32_w]
                                    rfl
                                   refine pure_ (i := 17) (N := some 155) (v := undef) (a' := ?_) (ab 33 262143) rfl rfl (any_of HT_.out (by kernel_rfl)) (fun _ _ _ h => h) (Or.inr ⟨by rfl, rfl⟩) ?_ ?_
                                   rotate_left
                                   ·simp only [Act.put, zq1, zq2, zq3, i64_w, i32_w]
                                    rfl
                                   refine pure_ (i := 18) (N := some 156) (v := undef) (a' := ?_) (ab 33 524287) rfl rfl (any_of HT_.out (by kernel_rfl)) (fun _ _ _ h => h) (Or.inr ⟨by rfl, rfl⟩) ?_ ?_
                                   rotate_left
                                   ·simp only [Act.put, zq1, zq2, zq3, i64_w, i32_w]
                                    rfl
                                   refine pure_ (i := 19) (N := some 157) (v := undef) (a' := ?_) (ab 33 1048575) rfl rfl (any_of HT_.out (by kernel_rfl)) (fun _ _ _ h => h) (Or.inr ⟨by rfl, rfl⟩) ?_ ?_
                                   rotate_left
                                   ·simp only [Act.put, zq1, zq2, zq3, i64_w, i32_w]
                                    rfl
                                   refine pure_ (i := 20) (N := some 158) (v := undef) (a' := ?_) (ab 33 2097151) rfl rfl (any_of HT_.out (by kernel_rfl)) (fun _ _ _ h => h) (Or.inr ⟨by rfl, rfl⟩) ?_ ?_
                                   rotate_left
                                   ·simp only [Act.put, zq1, zq2, zq3, i64_w, i32_w]
                                    rfl
                                   refine pure_ (i := 21) (N := some 159) (v := undef) (a' := ?_) (ab 33 4194303) rfl rfl (any_of HT_.out (by kernel_rfl)) (fun _ _ _ h => h) (Or.inr ⟨by rfl, rfl⟩) ?_ ?_
                                   rotate_left
                                   ·simp only [Act.put, zq1, zq2, zq3, i64_w, i32_w]
                                    rfl
                                   refine pure_ (i := 22) (N := some 160) (v := undef) (a' := ?_) (ab 33 8388607) rfl rfl (any_of HT_.out (by kernel_rfl)) (fun _ _ _ h => h) (Or.inr ⟨by rfl, rfl⟩) ?_ ?_
                                   rotate_left
                                   ·simp only [Act.put, zq1, zq2, zq3, i64_w, i32_w]
                                    rfl
                                   refine pure_ (i := 23) (N := some 161) (v := undef) (a' := ?_) (ab 33 16777215) rfl rfl (any_of HT_.out (by kernel_rfl)) (fun _ _ _ h => h) (Or.inr ⟨by rfl, rfl⟩) ?_ ?_
                                   rotate_left
                                   ·simp only [Act.put, zq1, zq2, zq3, i64_w, i32_w]
                                    rfl
                                   refine pure_ (i := 24) (N := some 162) (v := undef) (a' := ?_) (ab 33 33554431) rfl rfl (any_of HT_.out (by kernel_rfl)) (fun _ _ _ h => h) (Or.inr ⟨by rfl, rfl⟩) ?_ ?_
                                   rotate_left
                                   ·simp only [Act.put, zq1, zq2, zq3, i64_w, i32_w]
                                    rfl
                                   refine pure_ (i := 25) (N := some 163) (v := undef) (a' := ?_) (ab 33 67108863) rfl rfl (any_of HT_.out (by kernel_rfl)) (fun _ _ _ h => h) (Or.inr ⟨by rfl, rfl⟩) ?_ ?_
                                   rotate_left
                                   ·simp only [Act.put, zq1, zq2, zq3, i64_w, i32_w]
                                    rfl
                                   refine pure_ (i := 26) (N := some 164) (v := undef) (a' := ?_) (ab 33 134217727) rfl rfl (any_of HT_.out (by kernel_rfl)) (fun _ _ _ h => h) (Or.inr ⟨by rfl, rfl⟩) ?_ ?_
                                   rotate_left
                                   ·simp only [Act.put, zq1, zq2, zq3, i64_w, i32_w]
                                    rfl
                                   refine pure_ (i := 27) (N := some 165) (v := undef) (a' := ?_) (ab 33 268435455) rfl rfl (any_of HT_.out (by kernel_rfl)) (fun _ _ _ h => h) (Or.inr ⟨by rfl, rfl⟩) ?_ ?_
                                   rotate_left
                                   ·simp only [Act.put, zq1, zq2, zq3, i64_w, i32_w]
                                    rfl
                                   refine pure_ (i := 28) (N := some 166) (v := undef) (a' := ?_) (ab 33 536870911) rfl rfl (any_of HT_.out (by kernel_rfl)) (fun _ _ _ h => h) (Or.inr ⟨by rfl, rfl⟩) ?_ ?_
                                   rotate_left
                                   ·simp only [Act.put, zq1, zq2, zq3, i64_w, i32_w]
                                    rfl
                                   refine pure_ (i := 29) (N := some 167) (v := undef) (a' := ?_) (ab 33 1073741823) rfl rfl (any_of HT_.out (by kernel_rfl)) (fun _ _ _ h => h) (Or.inr ⟨by rfl, rfl⟩) ?_ ?_
                                   rotate_left
                                   ·simp only [Act.put, zq1, zq2, zq3, i64_w, i32_w]
                                    rfl
                                   refine pure_ (i := 30) (N := some 168) (v := undef) (a' := ?_) (ab 33 2147483647) rfl rfl (any_of HT_.out (by kernel_rfl)) (fun _ _ _ h => h) (Or.inr ⟨by rfl, rfl⟩) ?_ ?_
                                   rotate_left
                                   ·simp only [Act.put, zq1, zq2, zq3, i64_w, i32_w]
                                    rfl
                                   refine pure_ (i := 31) (N := some 169) (v := undef) (a' := ?_) (ab 33 4294967295) rfl rfl (any_of HT_.out (by kernel_rfl)) (fun _ _ _ h => h) (Or.inr ⟨by rfl, rfl⟩) ?_ ?_
                                   rotate_left
                                   ·simp only [Act.put, zq1, zq2, zq3, i64_w, i32_w]
                                    rfl
                                   refine pure_ (i := 32) (N := some 170) (v := ?_) (a' := ?_) (ab 33 8589934591) rfl rfl (any_of HT_.out (by kernel_rfl)) (fun _ _ _ h => h) (Or.inl ⟨by rfl, ?_⟩) ?_ ?_
                                   rotate_left
                                   ·intro w'
                                    go_simp
                                    with_reducible rfl
                                   rotate_left
                                   ·simp only [Act.put, zq1, zq2, zq3, i64_w, i32_w]
                                    rfl
                                   refine done_ (done_of HT_.out (by kernel_rfl)) ?_
                                   try go_wp2
                                   go_roundg k7
                                   case measure => have := HJ4.out; have := HJ20.out; have := HJ34.out; have := HJ39.out; have := HJ46.out; have := HK6.out; have := HK7.out; omega
                                   case rel => exact ⟨(x19_7), (wrap64 (x20_7 - 1)), (by first | rfl | (simp; done) | (simp [*]; done)), (by first | rfl | (simp; done) | (simp [*]; done)), H', ⟨by have := HJ4.out; have := HJ20.out; have := HJ34.out; have := HJ39.out; have := HJ46.out; have := HK6.out; have := HK7.out; omega⟩, ⟨by (with_reducible repeat (first | apply Kd.R_alloc | apply Kd.R_drewN | apply Kd.R_drew)); exact HO_12.out⟩, ⟨by (with_reducible repeat (first | apply Kd.Q_alloc | apply Kd.Q_drewN | apply Kd.Q_drew)); exact HO_14.out⟩, ⟨by (with_reducible repeat (first | apply Kd.R_alloc | apply Kd.R_drewN | apply Kd.R_drew)); exact HO_16.out⟩, ⟨by (with_reducible repeat (first | apply Kd.R_alloc | apply Kd.R_drewN | apply Kd.R_drew)); exact HO_123.out⟩, ⟨BK174.out⟩, ⟨by repeat (first | (with_reducible first | exact HB.out | apply below_alloc | apply pw_below_drewN | apply below_drew1 | refine below_set ?_ GE174.out) | exact HB.out)⟩⟩
                                 ·rw [if_neg c77] at H
                                  exact absurd H (by simp)
                                ·rw [if_neg c76] at H
                                 exact absurd H (by simp)
                               ·rw [if_neg c75] at H
                                have c75b0 : decide (0 ≤ t202) = false := decide_eq_false c75
                                clear c75
                                have H' := Aside0.mk H
                                clear H
                                have hcz93_0 : wr.cell? ⟨gb174, 0, none⟩ = some (.int .i64 a0_0) := (blk_cell BK174.out 0).trans rfl
                                have hcz93_1 : wr.cell? ⟨gb174, 1, none⟩ = some (.int .i64 a0_1) := (blk_cell BK174.out 1).trans rfl
                                have hcz93_2 : wr.cell? ⟨gb174, 2, none⟩ = some (.slice A0_2 l0_2.length c0_2) := (blk_cell BK174.out 2).trans rfl
                                have hfz93_0 := blk_frozen BK174.out 0
                                have hfz93_1 := blk_frozen BK174.out 1
                                have hfz93_2 := blk_frozen BK174.out 2
                                try go_wp2_with (first | ((with_reducible refine gate_callee (f := 19) rfl ?_); refine goesL_ (some 137) rfl rfl Try.func19 (by kernel_rfl) rfl #[.agg #[.int .i64 a0_0, .int .i64 a0_1, .slice A0_2 l0_2.length c0_2], .int .i64 x125_6, .int .i64 x20_7] rfl (by (try simp only [zm1, zm2, zm3]); first | done | rfl) ?_; (with_reducible refine (tourref5_Beyond.calls k7 a0_0 a0_1 _ _ l0_2 x125_6 x20_7 t202 _ ?side1 ?side2 A71.out).mono ?_); (case side1 => repeat (first | exact (Kd.C_below HR0_2.out HB.out) | (with_reducible refine Kd.C_alloc ?_ _) | (with_reducible refine Kd.C_drewN ?_ _) | (with_reducible refine Kd.C_drew ?_))); (case side2 => exact HC0_2.out); rintro e w94 ⟨rfl, hb⟩; refine ⟨_, rfl, ?_⟩; have n0_ := Aside0.mk (Kd.R_below (by (with_reducible repeat (first | apply Kd.R_alloc | apply Kd.R_drewN | apply Kd.R_drew)); exact HO_12.out) hb); have n1_ := Aside0.mk (Kd.Q_below (by (with_reducible repeat (first | apply Kd.Q_alloc | apply Kd.Q_drewN | apply Kd.Q_drew)); exact HO_14.out) hb); have n2_ := Aside0.mk (Kd.R_below (by (with_reducible repeat (first | apply Kd.R_alloc | apply Kd.R_drewN | apply Kd.R_drew)); exact HO_16.out) hb); have n3_ := Aside0.mk (Kd.R_below (by (with_reducible repeat (first | apply Kd.R_alloc | apply Kd.R_drewN | apply Kd.R_drew)); exact HO_123.out) hb); have n4_ := Aside0.mk (bb hb BK174.out); have n5_ := Aside0.mk (below_step (by repeat (first | (with_reducible first | exact HB.out | apply below_alloc | apply pw_below_drewN | apply below_drew1 | refine below_set ?_ GE174.out) | exact HB.out)) hb); clear HO_12; clear HO_14; clear HO_16; clear HO_123; clear BK174; clear HB; have HO_12 := n0_; have HO_14 := n1_; have HO_16 := n2_; have HO_123 := n3_; have BK174 := n4_; have HB := n5_; clear n0_ n1_ n2_ n3_ n4_ n5_; (try clear hb); (try clear hb2); (try clear hk); (try clear hi)))
                                have n0_ := Aside0.mk (Kd.R_drew HO_12.out)
                                have n1_ := Aside0.mk (Kd.Q_drew HO_14.out)
                                have n2_ := Aside0.mk (Kd.R_drew HO_16.out)
                                have n3_ := Aside0.mk (Kd.R_drew HO_123.out)
                                have n4_ := Aside0.mk (blk_drew BK174.out)
                                have n5_ := Aside0.mk (below_drew1 HB.out)
                                clear HO_12
                                clear HO_14
                                clear HO_16
                                clear HO_123
                                clear BK174
                                clear HB
                                have HO_12 := n0_
                                have HO_14 := n1_
                                have HO_16 := n2_
                                have HO_123 := n3_
                                have BK174 := n4_
                                have HB := n5_
                                clear n0_ n1_ n2_ n3_ n4_ n5_
                                obtain ⟨Ao96, co96, eo96⟩ := Kd.R_slice HO_16.out
                                (first | subst eo96 | (injection eo96 with f1_ f2_ f3_; have f4_ := f1_.symm; have f5_ := f3_.symm; clear f1_ f2_ f3_; subst f4_; subst f5_))
                                have p203 : 0 ≤ (x125_6 : Int) := of_decide_eq_true (by first | (with_reducible assumption) | assumption)
                                have q203 : x125_6 < (t197.length : Int) := of_decide_eq_true (by first | (with_reducible assumption) | assumption)
                                obtain ⟨ad203, e203, hx203_0⟩ := Kd.at_int (Kd.R_reads' HO_16.out).2.2 x125_6 p203 q203
                                cases e203
                                replace p203 := eq_true p203
                                replace q203 := eq_true q203
                                refine start_ (n := 33) (S := fun w' => w'.cell? (ad203.add (x125_6).toNat) = some (.int .i64 (rd t197 x125_6))) (ds := []) (ab 33 0) (by kernel_rfl) rfl rfl (hx203_0) (fun hHeld => ?_); refine with_tabW tourlaw5_FlowTells.tab24 tourlaw5_FlowTells.bits24 (fun HT_ HW_ => ?_)
                                generalize w94.drew = w95 at HO_12 HO_14 HO_16 HO_123 BK174 HB hx203_0 hHeld ⊢
                                refine pure_ (i := 0) (N := some 138) (v := ?_) (a' := ?_) (ab 33 1) rfl rfl (any_of HT_.out (by kernel_rfl)) (fun _ _ _ h => h) (Or.inl ⟨by rfl, ?_⟩) ?_ ?_
                                rotate_left
                                ·intro w'
                                 go_simp
                                 with_reducible rfl
                                rotate_left
                                ·simp only [Act.put, zq1, zq2, zq3, i64_w, i32_w]
                                 rfl
                                refine pure_ (i := 1) (N := some 139) (v := ?_) (a' := ?_) (ab 33 3) rfl rfl (any_of HT_.out (by kernel_rfl)) (fun _ _ _ h => h) (Or.inl ⟨by rfl, ?_⟩) ?_ ?_
                                rotate_left
                                ·intro w'
                                 go_simp
                                 with_reducible rfl
                                rotate_left
                                ·simp only [Act.put, zq1, zq2, zq3, i64_w, i32_w]
                                 rfl
                                refine pure_ (i := 2) (N := some 140) (v := ?_) (a' := ?_) (ab 33 7) rfl rfl (any_of HT_.out (by kernel_rfl)) (fun _ _ _ h => h) (Or.inl ⟨by rfl, ?_⟩) ?_ ?_
                                rotate_left
                                ·intro w'
                                 go_simp
                                 with_reducible rfl
                                rotate_left
                                ·simp only [Act.put, zq1, zq2, zq3, i64_w, i32_w]
                                 rfl
                                refine take_ (i := 3) (N := some 141) (v := ?_) (a' := ?_) (ab 33 15) rfl rfl (take_ofW HT_.out HW_.out (by kernel_rfl)) (fun _ _ _ h => h) (Or.inl ⟨by rfl, ?_⟩) hHeld ?_ ?_
                                rotate_left
                                ·intro w' s0
                                 go_simp
                                 with_reducible rfl
                                rotate_left
                                ·simp only [Act.put, zq1, zq2, zq3, i64_w, i32_w]
                                 rfl
                                refine pure_ (i := 4) (N := some 142) (v := ?_) (a' := ?_) (ab 33 31) rfl rfl (any_of HT_.out (by kernel_rfl)) (fun _ _ _ h => h) (Or.inl ⟨by rfl, ?_⟩) ?_ ?_
                                rotate_left
                                ·intro w'
                                 go_simp
                                 with_reducible rfl
                                rotate_left
                                ·simp only [Act.put, zq1, zq2, zq3, i64_w, i32_w]
                                 rfl
                                refine pure_ (i := 5) (N := some 143) (v := ?_) (a' := ?_) (ab 33 63) rfl rfl (any_of HT_.out (by kernel_rfl)) (fun _ _ _ h => h) (Or.inl ⟨by rfl, ?_⟩) ?_ ?_
                                rotate_left
                                ·intro w'
                                 go_simp
                                 with_reducible rfl
                                rotate_left
                                ·simp only [Act.put, zq1, zq2, zq3, i64_w, i32_w]
                                 rfl
                                refine pure_ (i := 6) (N := some 144) (v := ?_) (a' := ?_) (ab 33 127) rfl rfl (any_of HT_.out (by kernel_rfl)) (fun _ _ _ h => h) (Or.inl ⟨by rfl, ?_⟩) ?_ ?_
                                rotate_left
                                ·intro w'
                                 go_simp
                                 with_reducible rfl
                                rotate_left
                                ·simp only [Act.put, zq1, zq2, zq3, i64_w, i32_w]
                                 rfl
                                refine pure_ (i := 7) (N := some 145) (v := ?_) (a' := ?_) (ab 33 255) rfl rfl (any_of HT_.out (by kernel_rfl)) (fun _ _ _ h => h) (Or.inl ⟨by rfl, ?_⟩) ?_ ?_
                                rotate_left
                                ·intro w'
                                 go_simp
                                 with_reducible rfl
                                rotate_left
                                ·simp only [Act.put, zq1, zq2, zq3, i64_w, i32_w]
                                 rfl
                                refine pure_ (i := 8) (N := some 146) (v := ?_) (a' := ?_) (ab 33 511) rfl rfl (any_of HT_.out (by kernel_rfl)) (fun _ _ _ h => h) (Or.inl ⟨by rfl, ?_⟩) ?_ ?_
                                rotate_left
                                ·intro w'
                                 go_simp
                                 with_reducible rfl
                                rotate_left
                                ·simp only [Act.put, zq1, zq2, zq3, i64_w, i32_w]
                                 rfl
                                refine pure_ (i := 9) (N := some 147) (v := ?_) (a' := ?_) (ab 33 1023) rfl rfl (any_of HT_.out (by kernel_rfl)) (fun _ _ _ h => h) (Or.inl ⟨by rfl, ?_⟩) ?_ ?_
                                rotate_left
                                ·intro w'
                                 go_simp
                                 with_reducible rfl
                                rotate_left
                                ·simp only [Act.put, zq1, zq2, zq3, i64_w, i32_w]
                                 rfl
                                refine pure_ (i := 10) (N := some 148) (v := undef) (a' := ?_) (ab 33 2047) rfl rfl (any_of HT_.out (by kernel_rfl)) (fun _ _ _ h => h) (Or.inr ⟨by rfl, rfl⟩) ?_ ?_
                                rotate_left
                                ·simp only [Act.put, zq1, zq2, zq3, i64_w, i32_w]
                                 rfl
                                refine pure_ (i := 11) (N := some 149) (v := undef) (a' := ?_) (ab 33 4095) rfl rfl (any_of HT_.out (by kernel_rfl)) (fun _ _ _ h => h) (Or.inr ⟨by rfl, rfl⟩) ?_ ?_
                                rotate_left
                                ·simp only [Act.put, zq1, zq2, zq3, i64_w, i32_w]
                                 rfl
                                refine pure_ (i := 12) (N := some 150) (v := undef) (a' := ?_) (ab 33 8191) rfl rfl (any_of HT_.out (by kernel_rfl)) (fun _ _ _ h => h) (Or.inr ⟨by rfl, rfl⟩) ?_ ?_
                                rotate_left
                                ·simp only [Act.put, zq1, zq2, zq3, i64_w, i32_w]
                                 rfl
                                refine pure_ (i := 13) (N := some 151) (v := undef) (a' := ?_) (ab 33 16383) rfl rfl (any_of HT_.out (by kernel_rfl)) (fun _ _ _ h => h) (Or.inr ⟨by rfl, rfl⟩) ?_ ?_
                                rotate_left
                                ·simp only [Act.put, zq1, zq2, zq3, i64_w, i32_w]
                                 rfl
                                refine pure_ (i := 14) (N := some 152) (v := undef) (a' := ?_) (ab 33 32767) rfl rfl (any_of HT_.out (by kernel_rfl)) (fun _ _ _ h => h) (Or.inr ⟨by rfl, rfl⟩) ?_ ?_
                                rotate_left
                                ·simp only [Act.put, zq1, zq2, zq3, i64_w, i32_w]
                                 rfl
                                refine pure_ (i := 15) (N := some 153) (v := ?_) (a' := ?_) (ab 33 65535) rfl rfl (any_of HT_.out (by kernel_rfl)) (fun _ _ _ h => h) (Or.inl ⟨by rfl, ?_⟩) ?_ ?_
                                rotate_left
                                ·intro w'
                                 go_simp
                                 with_reducible rfl
                                rotate_left
                                ·simp only [Act.put, zq1, zq2, zq3, i64_w, i32_w]
                                 rfl
                                refine pure_ (i := 16) (N := some 154) (v := ?_) (a' := ?_) (ab 33 131071) rfl rfl (any_of HT_.out (by kernel_rfl)) (fun _ _ _ h => h) (Or.inl ⟨by rfl, ?_⟩) ?_ ?_
                                rotate_left
                                ·intro w'
                                 go_simp
                                 with_reducible rfl
                                rotate_left
                                ·simp only [Act.put, zq1, zq2, zq3, i64_w, i32_w]
                                 rfl
                                refine pure_ (i := 17) (N := some 155) (v := undef) (a' := ?_) (ab 33 262143) rfl rfl (any_of HT_.out (by kernel_rfl)) (fun _ _ _ h => h) (Or.inr ⟨by rfl, rfl⟩) ?_ ?_
                                rotate_left
                                ·simp only [Act.put, zq1, zq2, zq3, i64_w, i32_w]
                                 rfl
                                refine pure_ (i := 18) (N := some 156) (v := undef) (a' := ?_) (ab 33 524287) rfl rfl (any_of HT_.out (by kernel_rfl)) (fun _ _ _ h => h) (Or.inr ⟨by rfl, rfl⟩) ?_ ?_
                                rotate_left
                                ·simp only [Act.put, zq1, zq2, zq3, i64_w, i32_w]
                                 rfl
                                refine pure_ (i := 19) (N := some 157) (v := undef) (a' := ?_) (ab 33 1048575) rfl rfl (any_of HT_.out (by kernel_rfl)) (fun _ _ _ h => h) (Or.inr ⟨by rfl, rfl⟩) ?_ ?_
                                rotate_left
                                ·simp only [Act.put, zq1, zq2, zq3, i64_w, i32_w]
                                 rfl
                                refine pure_ (i := 20) (N := some 158) (v := undef) (a' := ?_) (ab 33 2097151) rfl rfl (any_of HT_.out (by kernel_rfl)) (fun _ _ _ h => h) (Or.inr ⟨by rfl, rfl⟩) ?_ ?_
                                rotate_left
                                ·simp only [Act.put, zq1, zq2, zq3, i64_w, i32_w]
                                 rfl
                                refine pure_ (i := 21) (N := some 159) (v := undef) (a' := ?_) (ab 33 4194303) rfl rfl (any_of HT_.out (by kernel_rfl)) (fun _ _ _ h => h) (Or.inr ⟨by rfl, rfl⟩) ?_ ?_
                                rotate_left
                                ·simp only [Act.put, zq1, zq2, zq3, i64_w, i32_w]
                                 rfl
                                refine pure_ (i := 22) (N := some 160) (v := undef) (a' := ?_) (ab 33 8388607) rfl rfl (any_of HT_.out (by kernel_rfl)) (fun _ _ _ h => h) (Or.inr ⟨by rfl, rfl⟩) ?_ ?_
                                rotate_left
                                ·simp only [Act.put, zq1, zq2, zq3, i64_w, i32_w]
                                 rfl
                                refine pure_ (i := 23) (N := some 161) (v := undef) (a' := ?_) (ab 33 16777215) rfl rfl (any_of HT_.out (by kernel_rfl)) (fun _ _ _ h => h) (Or.inr ⟨by rfl, rfl⟩) ?_ ?_
                                rotate_left
                                ·simp only [Act.put, zq1, zq2, zq3, i64_w, i32_w]
                                 rfl
                                refine pure_ (i := 24) (N := some 162) (v := undef) (a' := ?_) (ab 33 33554431) rfl rfl (any_of HT_.out (by kernel_rfl)) (fun _ _ _ h => h) (Or.inr ⟨by rfl, rfl⟩) ?_ ?_
                                rotate_left
                                ·simp only [Act.put, zq1, zq2, zq3, i64_w, i32_w]
                                 rfl
                                refine pure_ (i := 25) (N := some 163) (v := undef) (a' := ?_) (ab 33 67108863) rfl rfl (any_of HT_.out (by kernel_rfl)) (fun _ _ _ h => h) (Or.inr ⟨by rfl, rfl⟩) ?_ ?_
                                rotate_left
                                ·simp only [Act.put, zq1, zq2, zq3, i64_w, i32_w]
                                 rfl
                                refine pure_ (i := 26) (N := some 164) (v := undef) (a' := ?_) (ab 33 134217727) rfl rfl (any_of HT_.out (by kernel_rfl)) (fun _ _ _ h => h) (Or.inr ⟨by rfl, rfl⟩) ?_ ?_
                                rotate_left
                                ·simp only [Act.put, zq1, zq2, zq3, i64_w, i32_w]
                                 rfl
                                refine pure_ (i := 27) (N := some 165) (v := undef) (a' := ?_) (ab 33 268435455) rfl rfl (any_of HT_.out (by kernel_rfl)) (fun _ _ _ h => h) (Or.inr ⟨by rfl, rfl⟩) ?_ ?_
                                rotate_left
                                ·simp only [Act.put, zq1, zq2, zq3, i64_w, i32_w]
                                 rfl
                                refine pure_ (i := 28) (N := some 166) (v := undef) (a' := ?_) (ab 33 536870911) rfl rfl (any_of HT_.out (by kernel_rfl)) (fun _ _ _ h => h) (Or.inr ⟨by rfl, rfl⟩) ?_ ?_
                                rotate_left
                                ·simp only [Act.put, zq1, zq2, zq3, i64_w, i32_w]
                                 rfl
                                refine pure_ (i := 29) (N := some 167) (v := undef) (a' := ?_) (ab 33 1073741823) rfl rfl (any_of HT_.out (by kernel_rfl)) (fun _ _ _ h => h) (Or.inr ⟨by rfl, rfl⟩) ?_ ?_
                                rotate_left
                                ·simp only [Act.put, zq1, zq2, zq3, i64_w, i32_w]
                                 rfl
                                refine pure_ (i := 30) (N := some 168) (v := undef) (a' := ?_) (ab 33 2147483647) rfl rfl (any_of HT_.out (by kernel_rfl)) (fun _ _ _ h => h) (Or.inr ⟨by rfl, rfl⟩) ?_ ?_
                                rotate_left
                                ·simp only [Act.put, zq1, zq2, zq3, i64_w, i32_w]
                                 rfl
                                refine pure_ (i := 31) (N := some 169) (v := undef) (a' := ?_) (ab 33 4294967295) rfl rfl (any_of HT_.out (by kernel_rfl)) (fun _ _ _ h => h) (Or.inr ⟨by rfl, rfl⟩) ?_ ?_
                                rotate_left
                                ·simp only [Act.put, zq1, zq2, zq3, i64_w, i32_w]
                                 rfl
                                refine pure_ (i := 32) (N := some 170) (v := ?_) (a' := ?_) (ab 33 8589934591) rfl rfl (any_of HT_.out (by kernel_rfl)) (fun _ _ _ h => h) (Or.inl ⟨by rfl, ?_⟩) ?_ ?_
                                rotate_left
                                ·intro w'
                                 go_simp
                                 with_reducible rfl
                                rotate_left
                                ·simp only [Act.put, zq1, zq2, zq3, i64_w, i32_w]
                                 rfl
                                refine done_ (done_of HT_.out (by kernel_rfl)) ?_
                                try go_wp2
                                go_roundg k7
                                case measure => have := HJ4.out; have := HJ20.out; have := HJ34.out; have := HJ39.out; have := HJ46.out; have := HK6.out; have := HK7.out; omega
                                case rel => exact ⟨(x19_7), (wrap64 (x20_7 - 1)), (by first | rfl | (simp; done) | (simp [*]; done)), (by first | rfl | (simp; done) | (simp [*]; done)), H', ⟨by have := HJ4.out; have := HJ20.out; have := HJ34.out; have := HJ39.out; have := HJ46.out; have := HK6.out; have := HK7.out; omega⟩, ⟨by (with_reducible repeat (first | apply Kd.R_alloc | apply Kd.R_drewN | apply Kd.R_drew)); exact HO_12.out⟩, ⟨by (with_reducible repeat (first | apply Kd.Q_alloc | apply Kd.Q_drewN | apply Kd.Q_drew)); exact HO_14.out⟩, ⟨by (with_reducible repeat (first | apply Kd.R_alloc | apply Kd.R_drewN | apply Kd.R_drew)); exact HO_16.out⟩, ⟨by (with_reducible repeat (first | apply Kd.R_alloc | apply Kd.R_drewN | apply Kd.R_drew)); exact HO_123.out⟩, ⟨BK174.out⟩, ⟨by repeat (first | (with_reducible first | exact HB.out | apply below_alloc | apply pw_below_drewN | apply below_drew1 | refine below_set ?_ GE174.out) | exact HB.out)⟩⟩
                              ·rw [if_neg c74] at H
                               have c74b0 : decide (0 < (rd t197 x125_6)) = false := decide_eq_false c74
                               clear c74
                               have H' := Aside0.mk H
                               clear H
                               have hcz97_0 : wr.cell? ⟨gb174, 0, none⟩ = some (.int .i64 a0_0) := (blk_cell BK174.out 0).trans rfl
                               have hcz97_1 : wr.cell? ⟨gb174, 1, none⟩ = some (.int .i64 a0_1) := (blk_cell BK174.out 1).trans rfl
                               have hcz97_2 : wr.cell? ⟨gb174, 2, none⟩ = some (.slice A0_2 l0_2.length c0_2) := (blk_cell BK174.out 2).trans rfl
                               have hfz97_0 := blk_frozen BK174.out 0
                               have hfz97_1 := blk_frozen BK174.out 1
                               have hfz97_2 := blk_frozen BK174.out 2
                               try go_wp2_with (first | ((with_reducible refine gate_callee (f := 19) rfl ?_); refine goesL_ (some 137) rfl rfl Try.func19 (by kernel_rfl) rfl #[.agg #[.int .i64 a0_0, .int .i64 a0_1, .slice A0_2 l0_2.length c0_2], .int .i64 x125_6, .int .i64 x20_7] rfl (by (try simp only [zm1, zm2, zm3]); first | done | rfl) ?_; (with_reducible refine (tourref5_Beyond.calls k7 a0_0 a0_1 _ _ l0_2 x125_6 x20_7 t202 _ ?side1 ?side2 A71.out).mono ?_); (case side1 => repeat (first | exact (Kd.C_below HR0_2.out HB.out) | (with_reducible refine Kd.C_alloc ?_ _) | (with_reducible refine Kd.C_drewN ?_ _) | (with_reducible refine Kd.C_drew ?_))); (case side2 => exact HC0_2.out); rintro e w98 ⟨rfl, hb⟩; refine ⟨_, rfl, ?_⟩; have n0_ := Aside0.mk (Kd.R_below (by (with_reducible repeat (first | apply Kd.R_alloc | apply Kd.R_drewN | apply Kd.R_drew)); exact HO_12.out) hb); have n1_ := Aside0.mk (Kd.Q_below (by (with_reducible repeat (first | apply Kd.Q_alloc | apply Kd.Q_drewN | apply Kd.Q_drew)); exact HO_14.out) hb); have n2_ := Aside0.mk (Kd.R_below (by (with_reducible repeat (first | apply Kd.R_alloc | apply Kd.R_drewN | apply Kd.R_drew)); exact HO_16.out) hb); have n3_ := Aside0.mk (Kd.R_below (by (with_reducible repeat (first | apply Kd.R_alloc | apply Kd.R_drewN | apply Kd.R_drew)); exact HO_123.out) hb); have n4_ := Aside0.mk (bb hb BK174.out); have n5_ := Aside0.mk (below_step (by repeat (first | (with_reducible first | exact HB.out | apply below_alloc | apply pw_below_drewN | apply below_drew1 | refine below_set ?_ GE174.out) | exact HB.out)) hb); clear HO_12; clear HO_14; clear HO_16; clear HO_123; clear BK174; clear HB; have HO_12 := n0_; have HO_14 := n1_; have HO_16 := n2_; have HO_123 := n3_; have BK174 := n4_; have HB := n5_; clear n0_ n1_ n2_ n3_ n4_ n5_; (try clear hb); (try clear hb2); (try clear hk); (try clear hi)))
                               have n0_ := Aside0.mk (Kd.R_drew HO_12.out)
                               have n1_ := Aside0.mk (Kd.Q_drew HO_14.out)
                               have n2_ := Aside0.mk (Kd.R_drew HO_16.out)
                               have n3_ := Aside0.mk (Kd.R_drew HO_123.out)
                               have n4_ := Aside0.mk (blk_drew BK174.out)
                               have n5_ := Aside0.mk (below_drew1 HB.out)
                               clear HO_12
                               clear HO_14
                               clear HO_16
                               clear HO_123
                               clear BK174
                               clear HB
                               have HO_12 := n0_
                               have HO_14 := n1_
                               have HO_16 := n2_
                               have HO_123 := n3_
                               have BK174 := n4_
                               have HB := n5_
                               clear n0_ n1_ n2_ n3_ n4_ n5_
                               obtain ⟨Ao100, co100, eo100⟩ := Kd.R_slice HO_16.out
                               (first | subst eo100 | (injection eo100 with f1_ f2_ f3_; have f4_ := f1_.symm; have f5_ := f3_.symm; clear f1_ f2_ f3_; subst f4_; subst f5_))
                               have p203 : 0 ≤ (x125_6 : Int) := of_decide_eq_true (by first | (with_reducible assumption) | assumption)
                               have q203 : x125_6 < (t197.length : Int) := of_decide_eq_true (by first | (with_reducible assumption) | assumption)
                               obtain ⟨ad203, e203, hx203_0⟩ := Kd.at_int (Kd.R_reads' HO_16.out).2.2 x125_6 p203 q203
                               cases e203
                               replace p203 := eq_true p203
                               replace q203 := eq_true q203
                               refine start_ (n := 33) (S := fun w' => w'.cell? (ad203.add (x125_6).toNat) = some (.int .i64 (rd t197 x125_6))) (ds := []) (ab 33 0) (by kernel_rfl) rfl rfl (hx203_0) (fun hHeld => ?_); refine with_tabW tourlaw5_FlowTells.tab24 tourlaw5_FlowTells.bits24 (fun HT_ HW_ => ?_)
                               generalize w98.drew = w99 at HO_12 HO_14 HO_16 HO_123 BK174 HB hx203_0 hHeld ⊢
                               refine pure_ (i := 0) (N := some 138) (v := ?_) (a' := ?_) (ab 33 1) rfl rfl (any_of HT_.out (by kernel_rfl)) (fun _ _ _ h => h) (Or.inl ⟨by rfl, ?_⟩) ?_ ?_
                               rotate_left
                               ·intro w'
                                go_simp
                                with_reducible rfl
                               rotate_left
                               ·simp only [Act.put, zq1, zq2, zq3, i64_w, i32_w]
                                rfl
                               refine pure_ (i := 1) (N := some 139) (v := ?_) (a' := ?_) (ab 33 3) rfl rfl (any_of HT_.out (by kernel_rfl)) (fun _ _ _ h => h) (Or.inl ⟨by rfl, ?_⟩) ?_ ?_
                               rotate_left
                               ·intro w'
                                go_simp
                                with_reducible rfl
                               rotate_left
                               ·simp only [Act.put, zq1, zq2, zq3, i64_w, i32_w]
                                rfl
                               refine pure_ (i := 2) (N := some 140) (v := ?_) (a' := ?_) (ab 33 7) rfl rfl (any_of HT_.out (by kernel_rfl)) (fun _ _ _ h => h) (Or.inl ⟨by rfl, ?_⟩) ?_ ?_
                               rotate_left
                               ·intro w'
                                go_simp
                                with_reducible rfl
                               rotate_left
                               ·simp only [Act.put, zq1, zq2, zq3, i64_w, i32_w]
                                rfl
                               refine take_ (i := 3) (N := some 141) (v := ?_) (a' := ?_) (ab 33 15) rfl rfl (take_ofW HT_.out HW_.out (by kernel_rfl)) (fun _ _ _ h => h) (Or.inl ⟨by rfl, ?_⟩) hHeld ?_ ?_
                               rotate_left
                               ·intro w' s0
                                go_simp
                                with_reducible rfl
                               rotate_left
                               ·simp only [Act.put, zq1, zq2, zq3, i64_w, i32_w]
                                rfl
                               refine pure_ (i := 4) (N := some 142) (v := ?_) (a' := ?_) (ab 33 31) rfl rfl (any_of HT_.out (by kernel_rfl)) (fun _ _ _ h => h) (Or.inl ⟨by rfl, ?_⟩) ?_ ?_
                               rotate_left
                               ·intro w'
                                go_simp
                                with_reducible rfl
                               rotate_left
                               ·simp only [Act.put, zq1, zq2, zq3, i64_w, i32_w]
                                rfl
                               refine pure_ (i := 5) (N := some 143) (v := ?_) (a' := ?_) (ab 33 63) rfl rfl (any_of HT_.out (by kernel_rfl)) (fun _ _ _ h => h) (Or.inl ⟨by rfl, ?_⟩) ?_ ?_
                               rotate_left
                               ·intro w'
                                go_simp
                                with_reducible rfl
                               rotate_left
                               ·simp only [Act.put, zq1, zq2, zq3, i64_w, i32_w]
                                rfl
                               refine pure_ (i := 6) (N := some 144) (v := undef) (a' := ?_) (ab 33 127) rfl rfl (any_of HT_.out (by kernel_rfl)) (fun _ _ _ h => h) (Or.inr ⟨by rfl, rfl⟩) ?_ ?_
                               rotate_left
                               ·simp only [Act.put, zq1, zq2, zq3, i64_w, i32_w]
                                rfl
                               refine pure_ (i := 7) (N := some 145) (v := undef) (a' := ?_) (ab 33 255) rfl rfl (any_of HT_.out (by kernel_rfl)) (fun _ _ _ h => h) (Or.inr ⟨by rfl, rfl⟩) ?_ ?_
                               rotate_left
                               ·simp only [Act.put, zq1, zq2, zq3, i64_w, i32_w]
                                rfl
                               refine pure_ (i := 8) (N := some 146) (v := ?_) (a' := ?_) (ab 33 511) rfl rfl (any_of HT_.out (by kernel_rfl)) (fun _ _ _ h => h) (Or.inl ⟨by rfl, ?_⟩) ?_ ?_
                               rotate_left
                               ·intro w'
                                go_simp
                                with_reducible rfl
                               rotate_left
                               ·simp only [Act.put, zq1, zq2, zq3, i64_w, i32_w]
                                rfl
                               refine pure_ (i := 9) (N := some 147) (v := ?_) (a' := ?_) (ab 33 1023) rfl rfl (any_of HT_.out (by kernel_rfl)) (fun _ _ _ h => h) (Or.inl ⟨by rfl, ?_⟩) ?_ ?_
                               rotate_left
                               ·intro w'
                                go_simp
                                with_reducible rfl
                               rotate_left
                               ·simp only [Act.put, zq1, zq2, zq3, i64_w, i32_w]
                                rfl
                               refine pure_ (i := 10) (N := some 148) (v := undef) (a' := ?_) (ab 33 2047) rfl rfl (any_of HT_.out (by kernel_rfl)) (fun _ _ _ h => h) (Or.inr ⟨by rfl, rfl⟩) ?_ ?_
                               rotate_left
                               ·simp only [Act.put, zq1, zq2, zq3, i64_w, i32_w]
                                rfl
                               refine pure_ (i := 11) (N := some 149) (v := undef) (a' := ?_) (ab 33 4095) rfl rfl (any_of HT_.out (by kernel_rfl)) (fun _ _ _ h => h) (Or.inr ⟨by rfl, rfl⟩) ?_ ?_
                               rotate_left
                               ·simp only [Act.put, zq1, zq2, zq3, i64_w, i32_w]
                                rfl
                               refine pure_ (i := 12) (N := some 150) (v := undef) (a' := ?_) (ab 33 8191) rfl rfl (any_of HT_.out (by kernel_rfl)) (fun _ _ _ h => h) (Or.inr ⟨by rfl, rfl⟩) ?_ ?_
                               rotate_left
                               ·simp only [Act.put, zq1, zq2, zq3, i64_w, i32_w]
                                rfl
                               refine pure_ (i := 13) (N := some 151) (v := undef) (a' := ?_) (ab 33 16383) rfl rfl (any_of HT_.out (by kernel_rfl)) (fun _ _ _ h => h) (Or.inr ⟨by rfl, rfl⟩) ?_ ?_
                               rotate_left
                               ·simp only [Act.put, zq1, zq2, zq3, i64_w, i32_w]
                                rfl
                               refine pure_ (i := 14) (N := some 152) (v := undef) (a' := ?_) (ab 33 32767) rfl rfl (any_of HT_.out (by kernel_rfl)) (fun _ _ _ h => h) (Or.inr ⟨by rfl, rfl⟩) ?_ ?_
                               rotate_left
                               ·simp only [Act.put, zq1, zq2, zq3, i64_w, i32_w]
                                rfl
                               refine pure_ (i := 15) (N := some 153) (v := ?_) (a' := ?_) (ab 33 65535) rfl rfl (any_of HT_.out (by kernel_rfl)) (fun _ _ _ h => h) (Or.inl ⟨by rfl, ?_⟩) ?_ ?_
                               rotate_left
                               ·intro w'
                                go_simp
                                with_reducible rfl
                               rotate_left
                               ·simp only [Act.put, zq1, zq2, zq3, i64_w, i32_w]
                                rfl
                               refine pure_ (i := 16) (N := some 154) (v := ?_) (a' := ?_) (ab 33 131071) rfl rfl (any_of HT_.out (by kernel_rfl)) (fun _ _ _ h => h) (Or.inl ⟨by rfl, ?_⟩) ?_ ?_
                               rotate_left
                               ·intro w'
                                go_simp
                                with_reducible rfl
                               rotate_left
                               ·simp only [Act.put, zq1, zq2, zq3, i64_w, i32_w]
                                rfl
                               refine pure_ (i := 17) (N := some 155) (v := undef) (a' := ?_) (ab 33 262143) rfl rfl (any_of HT_.out (by kernel_rfl)) (fun _ _ _ h => h) (Or.inr ⟨by rfl, rfl⟩) ?_ ?_
                               rotate_left
                               ·simp only [Act.put, zq1, zq2, zq3, i64_w, i32_w]
                                rfl
                               refine pure_ (i := 18) (N := some 156) (v := undef) (a' := ?_) (ab 33 524287) rfl rfl (any_of HT_.out (by kernel_rfl)) (fun _ _ _ h => h) (Or.inr ⟨by rfl, rfl⟩) ?_ ?_
                               rotate_left
                               ·simp only [Act.put, zq1, zq2, zq3, i64_w, i32_w]
                                rfl
                               refine pure_ (i := 19) (N := some 157) (v := undef) (a' := ?_) (ab 33 1048575) rfl rfl (any_of HT_.out (by kernel_rfl)) (fun _ _ _ h => h) (Or.inr ⟨by rfl, rfl⟩) ?_ ?_
                               rotate_left
                               ·simp only [Act.put, zq1, zq2, zq3, i64_w, i32_w]
                                rfl
                               refine pure_ (i := 20) (N := some 158) (v := undef) (a' := ?_) (ab 33 2097151) rfl rfl (any_of HT_.out (by kernel_rfl)) (fun _ _ _ h => h) (Or.inr ⟨by rfl, rfl⟩) ?_ ?_
                               rotate_left
                               ·simp only [Act.put, zq1, zq2, zq3, i64_w, i32_w]
                                rfl
                               refine pure_ (i := 21) (N := some 159) (v := undef) (a' := ?_) (ab 33 4194303) rfl rfl (any_of HT_.out (by kernel_rfl)) (fun _ _ _ h => h) (Or.inr ⟨by rfl, rfl⟩) ?_ ?_
                               rotate_left
                               ·simp only [Act.put, zq1, zq2, zq3, i64_w, i32_w]
                                rfl
                               refine pure_ (i := 22) (N := some 160) (v := undef) (a' := ?_) (ab 33 8388607) rfl rfl (any_of HT_.out (by kernel_rfl)) (fun _ _ _ h => h) (Or.inr ⟨by rfl, rfl⟩) ?_ ?_
                               rotate_left
                               ·simp only [Act.put, zq1, zq2, zq3, i64_w, i32_w]
                                rfl
                               refine pure_ (i := 23) (N := some 161) (v := undef) (a' := ?_) (ab 33 16777215) rfl rfl (any_of HT_.out (by kernel_rfl)) (fun _ _ _ h => h) (Or.inr ⟨by rfl, rfl⟩) ?_ ?_
                               rotate_left
                               ·simp only [Act.put, zq1, zq2, zq3, i64_w, i32_w]
                                rfl
                               refine pure_ (i := 24) (N := some 162) (v := undef) (a' := ?_) (ab 33 33554431) rfl rfl (any_of HT_.out (by kernel_rfl)) (fun _ _ _ h => h) (Or.inr ⟨by rfl, rfl⟩) ?_ ?_
                               rotate_left
                               ·simp only [Act.put, zq1, zq2, zq3, i64_w, i32_w]
                                rfl
                               refine pure_ (i := 25) (N := some 163) (v := undef) (a' := ?_) (ab 33 67108863) rfl rfl (any_of HT_.out (by kernel_rfl)) (fun _ _ _ h => h) (Or.inr ⟨by rfl, rfl⟩) ?_ ?_
                               rotate_left
                               ·simp only [Act.put, zq1, zq2, zq3, i64_w, i32_w]
                                rfl
                               refine pure_ (i := 26) (N := some 164) (v := undef) (a' := ?_) (ab 33 134217727) rfl rfl (any_of HT_.out (by kernel_rfl)) (fun _ _ _ h => h) (Or.inr ⟨by rfl, rfl⟩) ?_ ?_
                               rotate_left
                               ·simp only [Act.put, zq1, zq2, zq3, i64_w, i32_w]
                                rfl
                               refine pure_ (i := 27) (N := some 165) (v := undef) (a' := ?_) (ab 33 268435455) rfl rfl (any_of HT_.out (by kernel_rfl)) (fun _ _ _ h => h) (Or.inr ⟨by rfl, rfl⟩) ?_ ?_
                               rotate_left
                               ·simp only [Act.put, zq1, zq2, zq3, i64_w, i32_w]
                                rfl
                               refine pure_ (i := 28) (N := some 166) (v := undef) (a' := ?_) (ab 33 536870911) rfl rfl (any_of HT_.out (by kernel_rfl)) (fun _ _ _ h => h) (Or.inr ⟨by rfl, rfl⟩) ?_ ?_
                               rotate_left
                               ·simp only [Act.put, zq1, zq2, zq3, i64_w, i32_w]
                                rfl
                               refine pure_ (i := 29) (N := some 167) (v := undef) (a' := ?_) (ab 33 1073741823) rfl rfl (any_of HT_.out (by kernel_rfl)) (fun _ _ _ h => h) (Or.inr ⟨by rfl, rfl⟩) ?_ ?_
                               rotate_left
                               ·simp only [Act.put, zq1, zq2, zq3, i64_w, i32_w]
                                rfl
                               refine pure_ (i := 30) (N := some 168) (v := undef) (a' := ?_) (ab 33 2147483647) rfl rfl (any_of HT_.out (by kernel_rfl)) (fun _ _ _ h => h) (Or.inr ⟨by rfl, rfl⟩) ?_ ?_
                               rotate_left
                               ·simp only [Act.put, zq1, zq2, zq3, i64_w, i32_w]
                                rfl
                               refine pure_ (i := 31) (N := some 169) (v := undef) (a' := ?_) (ab 33 4294967295) rfl rfl (any_of HT_.out (by kernel_rfl)) (fun _ _ _ h => h) (Or.inr ⟨by rfl, rfl⟩) ?_ ?_
                               rotate_left
                               ·simp only [Act.put, zq1, zq2, zq3, i64_w, i32_w]
                                rfl
                               refine pure_ (i := 32) (N := some 170) (v := ?_) (a' := ?_) (ab 33 8589934591) rfl rfl (any_of HT_.out (by kernel_rfl)) (fun _ _ _ h => h) (Or.inl ⟨by rfl, ?_⟩) ?_ ?_
                               rotate_left
                               ·intro w'
                                go_simp
                                with_reducible rfl
                               rotate_left
                               ·simp only [Act.put, zq1, zq2, zq3, i64_w, i32_w]
                                rfl
                               refine done_ (done_of HT_.out (by kernel_rfl)) ?_
                               try go_wp2
                               go_roundg k7
                               case measure => have := HJ4.out; have := HJ20.out; have := HJ34.out; have := HJ39.out; have := HJ46.out; have := HK6.out; have := HK7.out; omega
                               case rel => exact ⟨(x19_7), (wrap64 (x20_7 - 1)), (by first | rfl | (simp; done) | (simp [*]; done)), (by first | rfl | (simp; done) | (simp [*]; done)), H', ⟨by have := HJ4.out; have := HJ20.out; have := HJ34.out; have := HJ39.out; have := HJ46.out; have := HK6.out; have := HK7.out; omega⟩, ⟨by (with_reducible repeat (first | apply Kd.R_alloc | apply Kd.R_drewN | apply Kd.R_drew)); exact HO_12.out⟩, ⟨by (with_reducible repeat (first | apply Kd.Q_alloc | apply Kd.Q_drewN | apply Kd.Q_drew)); exact HO_14.out⟩, ⟨by (with_reducible repeat (first | apply Kd.R_alloc | apply Kd.R_drewN | apply Kd.R_drew)); exact HO_16.out⟩, ⟨by (with_reducible repeat (first | apply Kd.R_alloc | apply Kd.R_drewN | apply Kd.R_drew)); exact HO_123.out⟩, ⟨BK174.out⟩, ⟨by repeat (first | (with_reducible first | exact HB.out | apply below_alloc | apply pw_below_drewN | apply below_drew1 | refine below_set ?_ GE174.out) | exact HB.out)⟩⟩
                             ·rw [if_neg c73] at H
                              exact absurd H (by simp)
                            ·rw [if_neg c72] at H
                             exact absurd H (by simp)
                           ·rw [if_neg c70] at H
                            have c70b0 : decide (1 ≤ x20_7) = false := decide_eq_false c70
                            clear c70
                            by_cases c101 : (rd t189 x125_6) = x19_7
                            ·rw [if_pos c101] at H
                             have c101b0 : ((rd t189 x125_6) == x19_7) = true := beq_iff_eq.mpr c101
                             have c101b1 : ((rd t189 x125_6) != x19_7) = false := bne_eq_false_iff_eq.mpr c101
                             clear c101
                             have H' := Aside0.mk H
                             clear H
                             go_wp2
                             go_roundg k7
                             case measure => have := HJ4.out; have := HJ20.out; have := HJ34.out; have := HJ39.out; have := HJ46.out; have := HK6.out; have := HK7.out; omega
                             case rel => exact ⟨(wrap64 (x125_6 + 1)), (by first | rfl | (simp; done) | (simp [*]; done)), H', ⟨by have := HJ4.out; have := HJ20.out; have := HJ34.out; have := HJ39.out; have := HJ46.out; have := HK6.out; have := HK7.out; omega⟩, ⟨by (with_reducible repeat (first | apply Kd.R_alloc | apply Kd.R_drewN | apply Kd.R_drew)); exact HO_12.out⟩, ⟨by (with_reducible repeat (first | apply Kd.Q_alloc | apply Kd.Q_drewN | apply Kd.Q_drew)); exact HO_14.out⟩, ⟨by (with_reducible repeat (first | apply Kd.R_alloc | apply Kd.R_drewN | apply Kd.R_drew)); exact HO_16.out⟩, ⟨by (with_reducible repeat (first | apply Kd.R_alloc | apply Kd.R_drewN | apply Kd.R_drew)); exact HO_123.out⟩, ⟨BK174.out⟩, ⟨by repeat (first | (with_reducible first | exact HB.out | apply below_alloc | apply pw_below_drewN | apply below_drew1 | refine below_set ?_ GE174.out) | exact HB.out)⟩⟩
                            ·rw [if_neg c101] at H
                             have c101b0 : ((rd t189 x125_6) == x19_7) = false := beq_eq_false_iff_ne.mpr c101
                             have c101b1 : ((rd t189 x125_6) != x19_7) = true := bne_iff_ne.mpr c101
                             obtain rfl := Option.some.inj H
                             go_wp2
                             go_ret
                             exact ⟨by first | rfl | (simp [errW_none, errW_some] <;> rfl) | (simp [*, errW_none, errW_some] <;> rfl), by repeat (first | (with_reducible first | exact HB.out | apply below_alloc | apply pw_below_drewN | apply below_drew1 | refine below_set ?_ GE174.out) | exact HB.out)⟩
                        ·rw [if_neg c69] at H
                         exact absurd H (by simp)
                       ·rw [if_neg c68] at H
                        exact absurd H (by simp)
                      ·rw [if_neg c67] at H
                       have c67b0 : decide (x125_6 < (t189.length : Int)) = false := decide_eq_false c67
                       clear c67
                       have HC102 := Aside0.mk H
                       clear H
                       go_upto_region 29 with (fail)
                       go_cut [183] (fun v183 wc => ∃ (kq : Nat) (x183_101 : Bool), v183 = .bool x183_101 ∧ Aside0 (tourlaw5_FlowTells.j7 kq a2 t189 t193 t196 t197 x183_101 a0_0 a0_1 l0_2 = some r) ∧ Aside0 (kq ≤ k6) ∧ Aside0 (Kd.R (Kd.int .i64) 3 wc w.heap.size (fun k_ => some k_ ≠ (v194 : Value).ownBlock ∧ some k_ ≠ (v198 : Value).ownBlock) (.slice Ao66 t189.length co66) t189) ∧ Aside0 (Kd.Q (Kd.int .i64) 3 wc w.heap.size (fun k_ => some k_ ≠ ((.slice Ao66 t189.length co66) : Value).ownBlock ∧ some k_ ≠ (v198 : Value).ownBlock) v194 t193) ∧ Aside0 (Kd.R (Kd.int .i64) 3 wc w.heap.size (fun k_ => some k_ ≠ ((.slice Ao66 t189.length co66) : Value).ownBlock ∧ some k_ ≠ (v194 : Value).ownBlock) v198 t197) ∧ Aside0 (wc.heap[gb174]? = some (.cells #[.int .i64 a0_0, .int .i64 a0_1, (.slice A0_2 l0_2.length c0_2)] 25 (0, 0))) ∧ Aside0 (Below w.heap.size w wc))
                       case first =>
                        have H := HC102.out
                        clear HC102
                        by_cases c103 : a2 < 0
                        ·rw [if_pos c103] at H
                         have c103b0 : decide (a2 < 0) = true := decide_eq_true c103
                         clear c103
                         (first | rw [c103b0] | (simp only [i64_w, i32_w]; rw [c103b0]) | skip)
                         have H' := Aside0.mk H
                         clear H
                         go_wp2
                         go_meet
                         case rel => exact ⟨_, (true), (by first | rfl | (simp; done) | (simp [*]; done)), H', ⟨by have := HJ4.out; have := HJ20.out; have := HJ34.out; have := HJ39.out; have := HJ46.out; have := HK6.out; first | omega | exact Nat.le_refl _⟩, ⟨by (with_reducible repeat (first | apply Kd.R_alloc | apply Kd.R_drewN | apply Kd.R_drew)); exact HO_12.out⟩, ⟨by (with_reducible repeat (first | apply Kd.Q_alloc | apply Kd.Q_drewN | apply Kd.Q_drew)); exact Kd.Q_mono HO_14.out (fun _ hk => ⟨hk.1, hk.2.1⟩)⟩, ⟨by (with_reducible repeat (first | apply Kd.R_alloc | apply Kd.R_drewN | apply Kd.R_drew)); exact Kd.R_mono HO_16.out (fun _ hk => ⟨hk.1, hk.2.1⟩)⟩, ⟨BK174.out⟩, ⟨by repeat (first | (with_reducible first | exact HB.out | apply below_alloc | apply pw_below_drewN | apply below_drew1 | refine below_set ?_ GE174.out) | exact HB.out)⟩⟩
                        ·rw [if_neg c103] at H
                         have c103b0 : decide (a2 < 0) = false := decide_eq_false c103
                         clear c103
                         (first | rw [c103b0] | (simp only [i64_w, i32_w]; rw [c103b0]) | skip)
                         have H' := Aside0.mk H
                         clear H
                         obtain ⟨Ao104, co104, eo104⟩ := Kd.R_slice HO_16.out
                         subst eo104
                         go_wp2
                         go_meet
                         case rel => exact ⟨_, (decide (a2 ≥ (t197.length : Int))), (by first | rfl | (simp; done) | (simp [*]; done)), H', ⟨by have := HJ4.out; have := HJ20.out; have := HJ34.out; have := HJ39.out; have := HJ46.out; have := HK6.out; first | omega | exact Nat.le_refl _⟩, ⟨by (with_reducible repeat (first | apply Kd.R_alloc | apply Kd.R_drewN | apply Kd.R_drew)); exact HO_12.out⟩, ⟨by (with_reducible repeat (first | apply Kd.Q_alloc | apply Kd.Q_drewN | apply Kd.Q_drew)); exact Kd.Q_mono HO_14.out (fun _ hk => ⟨hk.1, hk.2.1⟩)⟩, ⟨by (with_reducible repeat (first | apply Kd.R_alloc | apply Kd.R_drewN | apply Kd.R_drew)); exact Kd.R_mono HO_16.out (fun _ hk => ⟨hk.1, hk.2.1⟩)⟩, ⟨BK174.out⟩, ⟨by repeat (first | (with_reducible first | exact HB.out | apply below_alloc | apply pw_below_drewN | apply below_drew1 | refine below_set ?_ GE174.out) | exact HB.out)⟩⟩
                       case rest =>
                        refine @idd ?P6 ?_
                        let rec aux6 : ?P6 := by
                         clear HC102
                         try clear c1; try clear p2; try clear q2; try clear hx2; try clear c6; try clear p6; try clear c7; try clear c10
                         try clear c19; try clear p20; try clear q20; try clear hx20; try clear p64; try clear c67; try clear c67b0; try clear c68
                         try clear c69; try clear c70; try clear c70b0; try clear c72; try clear c73; try clear c74; try clear c74b0; try clear c75
                         try clear c75b0; try clear c76; try clear c77; try clear c101; try clear c101b0; try clear c101b1; try clear c103; try clear c103b0
                         try clear hcz93_0; try clear hcz93_1; try clear hcz93_2; try clear hcz97_0; try clear hcz97_1; try clear hcz97_2; try clear hfz93_0; try clear hfz93_1
                         try clear hfz93_2; try clear hfz97_0; try clear hfz97_1; try clear hfz97_2; try clear hx203_0; try clear p203; try clear q203
                         obtain ⟨kq, x183_101, rfl, HA, HJ101, HO_12, HO_14, HO_16, BK174, HB⟩ := hcut
                         cases kq with
                         | zero => exact absurd HA.out (by simp [tourlaw5_FlowTells.j7])
                         | succ kj101 =>
                          have H := HA.out
                          clear HA
                          simp only [tourlaw5_FlowTells.j7] at H
                          by_cases c105 : x183_101 = true
                          ·subst c105
                           have H1 : (if t196 = 1 then (some ((t193.length : Int) == 0)) else (some false)) = some r := by rw [if_pos rfl] at H; exact H
                           clear H
                           have H := H1
                           clear H1
                           by_cases c106 : t196 = 1
                           ·rw [if_pos c106] at H
                            have c106b0 : (t196 == 1) = true := beq_iff_eq.mpr c106
                            have c106b1 : (t196 != 1) = false := bne_eq_false_iff_eq.mpr c106
                            clear c106
                            obtain rfl := Option.some.inj H
                            obtain ⟨Ao107, co107, eo107, _⟩ := Kd.Q_slice HO_14.out
                            subst eo107
                            go_wp2
                            go_ret
                            exact ⟨by first | rfl | (simp [errW_none, errW_some] <;> rfl) | (simp [*, errW_none, errW_some] <;> rfl), by repeat (first | (with_reducible first | exact HB.out | apply below_alloc | apply pw_below_drewN | apply below_drew1 | refine below_set ?_ GE174.out) | exact HB.out)⟩
                           ·rw [if_neg c106] at H
                            have c106b0 : (t196 == 1) = false := beq_eq_false_iff_ne.mpr c106
                            have c106b1 : (t196 != 1) = true := bne_iff_ne.mpr c106
                            obtain rfl := Option.some.inj H
                            go_wp2
                            go_ret
                            exact ⟨by first | rfl | (simp [errW_none, errW_some] <;> rfl) | (simp [*, errW_none, errW_some] <;> rfl), by repeat (first | (with_reducible first | exact HB.out | apply below_alloc | apply pw_below_drewN | apply below_drew1 | refine below_set ?_ GE174.out) | exact HB.out)⟩
                          ·replace c105 := Bool.eq_false_iff.mpr c105
                           subst c105
                           have H1 : (if 0 ≤ a2 then (if a2 < (t197.length : Int) then (if (rd t197 a2) < 0 then (if t196 = 4 then (some ((t193.length : Int) == 0)) else (some false)) else (tourlaw5_FlowTells.l2 kj101 t189 t193 t196 a2 a0_0 a0_1 l0_2)) else (none)) else (none)) = some r := by rw [if_neg (show ¬ (false = true) by decide)] at H; exact H
                           clear H
                           have H := H1
                           clear H1
                           by_cases c108 : 0 ≤ a2
                           ·rw [if_pos c108] at H
                            have c108b0 : decide (0 ≤ a2) = true := decide_eq_true c108
                            clear c108
                            by_cases c109 : a2 < (t197.length : Int)
                            ·rw [if_pos c109] at H
                             have c109b0 : decide (a2 < (t197.length : Int)) = true := decide_eq_true c109
                             clear c109
                             by_cases c110 : (rd t197 a2) < 0
                             ·rw [if_pos c110] at H
                              have c110b0 : decide ((rd t197 a2) < 0) = true := decide_eq_true c110
                              clear c110
                              by_cases c111 : t196 = 4
                              ·rw [if_pos c111] at H
                               have c111b0 : (t196 == 4) = true := beq_iff_eq.mpr c111
                               have c111b1 : (t196 != 4) = false := bne_eq_false_iff_eq.mpr c111
                               clear c111
                               obtain rfl := Option.some.inj H
                               obtain ⟨Ao112, co112, eo112⟩ := Kd.R_slice HO_16.out
                               subst eo112
                               have p208 : 0 ≤ (a2 : Int) := of_decide_eq_true (by first | (with_reducible assumption) | assumption)
                               have q208 : a2 < (t197.length : Int) := of_decide_eq_true (by first | (with_reducible assumption) | assumption)
                               obtain ⟨ad208, e208, hx208_0⟩ := Kd.at_int (Kd.R_reads' HO_16.out).2.2 a2 p208 q208
                               cases e208
                               replace p208 := eq_true p208
                               replace q208 := eq_true q208
                               obtain ⟨Ao113, co113, eo113, _⟩ := Kd.Q_slice HO_14.out
                               subst eo113
                               go_wp2
                               go_ret
                               exact ⟨by first | rfl | (simp [errW_none, errW_some] <;> rfl) | (simp [*, errW_none, errW_some] <;> rfl), by repeat (first | (with_reducible first | exact HB.out | apply below_alloc | apply pw_below_drewN | apply below_drew1 | refine below_set ?_ GE174.out) | exact HB.out)⟩
                              ·rw [if_neg c111] at H
                               have c111b0 : (t196 == 4) = false := beq_eq_false_iff_ne.mpr c111
                               have c111b1 : (t196 != 4) = true := bne_iff_ne.mpr c111
                               obtain rfl := Option.some.inj H
                               obtain ⟨Ao114, co114, eo114⟩ := Kd.R_slice HO_16.out
                               subst eo114
                               have p208 : 0 ≤ (a2 : Int) := of_decide_eq_true (by first | (with_reducible assumption) | assumption)
                               have q208 : a2 < (t197.length : Int) := of_decide_eq_true (by first | (with_reducible assumption) | assumption)
                               obtain ⟨ad208, e208, hx208_0⟩ := Kd.at_int (Kd.R_reads' HO_16.out).2.2 a2 p208 q208
                               cases e208
                               replace p208 := eq_true p208
                               replace q208 := eq_true q208
                               go_wp2
                               go_ret
                               exact ⟨by first | rfl | (simp [errW_none, errW_some] <;> rfl) | (simp [*, errW_none, errW_some] <;> rfl), by repeat (first | (with_reducible first | exact HB.out | apply below_alloc | apply pw_below_drewN | apply below_drew1 | refine below_set ?_ GE174.out) | exact HB.out)⟩
                             ·rw [if_neg c110] at H
                              have c110b0 : decide ((rd t197 a2) < 0) = false := decide_eq_false c110
                              clear c110
                              have H' := Aside0.mk H
                              clear H
                              obtain ⟨Ao115, co115, eo115⟩ := Kd.R_slice HO_16.out
                              subst eo115
                              have p208 : 0 ≤ (a2 : Int) := of_decide_eq_true (by first | (with_reducible assumption) | assumption)
                              have q208 : a2 < (t197.length : Int) := of_decide_eq_true (by first | (with_reducible assumption) | assumption)
                              obtain ⟨ad208, e208, hx208_0⟩ := Kd.at_int (Kd.R_reads' HO_16.out).2.2 a2 p208 q208
                              cases e208
                              replace p208 := eq_true p208
                              replace q208 := eq_true q208
                              go_wp2
                              go_loopg [14, 22] kj101 (fun kq v14 v22 w' => ∃ (x14_8 : List Int) (x22_8 : Int), v22 = .int .i64 x22_8 ∧ Aside0 (tourlaw5_FlowTells.l2 kq t189 x14_8 t196 x22_8 a0_0 a0_1 l0_2 = some r) ∧ Aside0 (kq ≤ kj101) ∧ Aside0 (Kd.R (Kd.int .i64) 3 w' w.heap.size (fun k_ => some k_ ≠ (v14 : Value).ownBlock) (.slice Ao66 t189.length co66) t189) ∧ Aside0 (Kd.Q (Kd.int .i64) 3 w' w.heap.size (fun k_ => some k_ ≠ ((.slice Ao66 t189.length co66) : Value).ownBlock) v14 x14_8) ∧ Aside0 (w'.heap[gb174]? = some (.cells #[.int .i64 a0_0, .int .i64 a0_1, (.slice A0_2 l0_2.length c0_2)] 25 (0, 0))) ∧ Aside0 (Below w.heap.size w w'))
                              case atStart => exact ⟨(t193), (a2), (by first | rfl | (simp; done) | (simp [*]; done)), H', ⟨Nat.le_refl _⟩, ⟨by (with_reducible repeat (first | apply Kd.R_alloc | apply Kd.R_drewN | apply Kd.R_drew)); exact Kd.R_mono HO_12.out (fun _ hk => hk.1)⟩, ⟨by (with_reducible repeat (first | apply Kd.Q_alloc | apply Kd.Q_drewN | apply Kd.Q_drew)); exact Kd.Q_mono HO_14.out (fun _ hk => hk.1)⟩, ⟨BK174.out⟩, ⟨by repeat (first | (with_reducible first | exact HB.out | apply below_alloc | apply pw_below_drewN | apply below_drew1 | refine below_set ?_ GE174.out) | exact HB.out)⟩⟩
                              case round =>
                               clear H'
                               try clear c1; try clear p2; try clear q2; try clear hx2; try clear c6; try clear p6; try clear c7; try clear c10
                               try clear c11; try clear c19; try clear p20; try clear q20; try clear hx20; try clear p64; try clear c67; try clear c67b0
                               try clear c68; try clear c69; try clear c70; try clear c70b0; try clear c72; try clear c73; try clear c74; try clear c74b0
                               try clear c75; try clear c75b0; try clear c76; try clear c77; try clear c101; try clear c101b0; try clear c101b1; try clear c103
                               try clear c103b0; try clear c105; try clear c106; try clear c106b0; try clear c106b1; try clear c108; try clear c108b0; try clear c109
                               try clear c109b0; try clear c110; try clear c110b0; try clear c111; try clear c111b0; try clear c111b1; try clear hcz93_0; try clear hcz93_1
                               try clear hcz93_2; try clear hcz97_0; try clear hcz97_1; try clear hcz97_2; try clear hfz93_0; try clear hfz93_1; try clear hfz93_2; try clear hfz97_0
                               try clear hfz97_1; try clear hfz97_2; try clear hx203_0; try clear hx208_0; try clear p2; try clear p20; try clear p203; try clear p208
                               try clear p6; try clear p64; try clear q2; try clear q20; try clear q203; try clear q208
                               obtain ⟨x14_8, x22_8, rfl, HA, HK8, HO_12, HO_14, BK174, HB⟩ := hrel
                               cases gk with
                               | zero => exact absurd HA.out (by simp [tourlaw5_FlowTells.l2])
                               | succ k8 =>
                                have H := HA.out
                                clear HA
                                simp only [tourlaw5_FlowTells.l2] at H
                                have HC116 := Aside0.mk H
                                clear H
                                go_upto_region 35 with (fail)
                                go_cut [220] (fun v220 wc => ∃ (kq : Nat) (x220_115 : Bool), v220 = .bool x220_115 ∧ Aside0 (tourlaw5_FlowTells.j9 kq t189 x14_8 t196 x22_8 x220_115 a0_0 a0_1 l0_2 = some r) ∧ Aside0 (kq ≤ k8) ∧ Aside0 (Kd.R (Kd.int .i64) 3 wc w.heap.size (fun k_ => some k_ ≠ (u14 : Value).ownBlock) (.slice Ao66 t189.length co66) t189) ∧ Aside0 (Kd.Q (Kd.int .i64) 3 wc w.heap.size (fun k_ => some k_ ≠ ((.slice Ao66 t189.length co66) : Value).ownBlock) u14 x14_8) ∧ Aside0 (wc.heap[gb174]? = some (.cells #[.int .i64 a0_0, .int .i64 a0_1, (.slice A0_2 l0_2.length c0_2)] 25 (0, 0))) ∧ Aside0 (Below w.heap.size w wc))
                                case first =>
                                 have H := HC116.out
                                 clear HC116
                                 by_cases c117 : (x14_8.length : Int) = 0
                                 ·rw [if_pos c117] at H
                                  have c117b0 : ((x14_8.length : Int) == 0) = true := beq_iff_eq.mpr c117
                                  have c117b1 : ((x14_8.length : Int) != 0) = false := bne_eq_false_iff_eq.mpr c117
                                  clear c117
                                  (first | rw [c117b0] | (simp only [i64_w, i32_w]; rw [c117b0]) | skip)
                                  have H' := Aside0.mk H
                                  clear H
                                  obtain ⟨Ao118, co118, eo118, _⟩ := Kd.Q_slice HO_14.out
                                  subst eo118
                                  go_wp2
                                  go_meet
                                  case rel => exact ⟨_, (true), (by first | rfl | (simp; done) | (simp [*]; done)), H', ⟨by have := HJ4.out; have := HJ20.out; have := HJ34.out; have := HJ39.out; have := HJ46.out; have := HK6.out; have := HJ101.out; have := HK8.out; first | omega | exact Nat.le_refl _⟩, ⟨by (with_reducible repeat (first | apply Kd.R_alloc | apply Kd.R_drewN | apply Kd.R_drew)); exact HO_12.out⟩, ⟨by (with_reducible repeat (first | apply Kd.Q_alloc | apply Kd.Q_drewN | apply Kd.Q_drew)); exact HO_14.out⟩, ⟨BK174.out⟩, ⟨by repeat (first | (with_reducible first | exact HB.out | apply below_alloc | apply pw_below_drewN | apply below_drew1 | refine below_set ?_ GE174.out) | exact HB.out)⟩⟩
                                 ·rw [if_neg c117] at H
                                  have c117b0 : ((x14_8.length : Int) == 0) = false := beq_eq_false_iff_ne.mpr c117
                                  have c117b1 : ((x14_8.length : Int) != 0) = true := bne_iff_ne.mpr c117
                                  have c117b2 : ¬ (x14_8 = []) := fun h_ => c117 (by rw [h_]; rfl)
                                  (first | rw [c117b0] | (simp only [i64_w, i32_w]; rw [c117b0]) | skip)
                                  by_cases c119 : 0 < (x14_8.length : Int)
                                  ·rw [if_pos c119] at H
                                   have c119b0 : decide (0 < (x14_8.length : Int)) = true := decide_eq_true c119
                                   have c119b1 : decide (0 < x14_8.length) = true := decide_eq_true (by omega)
                                   clear c119
                                   have H' := Aside0.mk H
                                   clear H
                                   obtain ⟨Ao120, co120, eo120, _⟩ := Kd.Q_slice HO_14.out
                                   subst eo120
                                   have p209 : 0 ≤ (0 : Int) := (by omega)
                                   have q209 : 0 < (x14_8.length : Int) := of_decide_eq_true (by first | (with_reducible assumption) | assumption)
                                   obtain ⟨ad209, e209, hx209_0⟩ := Kd.at_int (Kd.Q_reads' HO_14.out).2.2 0 p209 q209
                                   cases e209
                                   have qi209 : (0 < x14_8.length) = True := eq_true (by omega)
                                   (try rw [show ((0 : Int)).toNat = 0 from rfl] at hx209_0)
                                   (try rw [Addr.add_zero'] at hx209_0)
                                   replace p209 := eq_true p209
                                   replace q209 := eq_true q209
                                   go_wp2
                                   go_meet
                                   case rel => exact ⟨_, (((rd x14_8 0) != x22_8)), (by first | rfl | (simp; done) | (simp [*]; done)), H', ⟨by have := HJ4.out; have := HJ20.out; have := HJ34.out; have := HJ39.out; have := HJ46.out; have := HK6.out; have := HJ101.out; have := HK8.out; first | omega | exact Nat.le_refl _⟩, ⟨by (with_reducible repeat (first | apply Kd.R_alloc | apply Kd.R_drewN | apply Kd.R_drew)); exact HO_12.out⟩, ⟨by (with_reducible repeat (first | apply Kd.Q_alloc | apply Kd.Q_drewN | apply Kd.Q_drew)); exact HO_14.out⟩, ⟨BK174.out⟩, ⟨by repeat (first | (with_reducible first | exact HB.out | apply below_alloc | apply pw_below_drewN | apply below_drew1 | refine below_set ?_ GE174.out) | exact HB.out)⟩⟩
                                  ·rw [if_neg c119] at H
                                   exact absurd H (by simp)
                                case rest =>
                                 refine @idd ?P7 ?_
                                 let rec aux7 : ?P7 := by
                                  clear HC116
                                  try clear c1; try clear p2; try clear q2; try clear hx2; try clear qi2; try clear c6; try clear p6; try clear c7
                                  try clear c10; try clear c11; try clear c19; try clear p20; try clear q20; try clear hx20; try clear qi20; try clear p64
                                  try clear c67; try clear c67b0; try clear c68; try clear c69; try clear c70; try clear c70b0; try clear c72; try clear c73
                                  try clear c74; try clear c74b0; try clear c75; try clear c75b0; try clear c76; try clear c77; try clear c101; try clear c101b0
                                  try clear c101b1; try clear c103; try clear c103b0; try clear c105; try clear c106; try clear c106b0; try clear c106b1; try clear c108
                                  try clear c108b0; try clear c109; try clear c109b0; try clear c110; try clear c110b0; try clear c111; try clear c111b0; try clear c111b1
                                  try clear c117; try clear c117b0; try clear c117b1; try clear c117b2; try clear c119; try clear c119b0; try clear c119b1; try clear hcz93_0
                                  try clear hcz93_1; try clear hcz93_2; try clear hcz97_0; try clear hcz97_1; try clear hcz97_2; try clear hfz93_0; try clear hfz93_1; try clear hfz93_2
                                  try clear hfz97_0; try clear hfz97_1; try clear hfz97_2; try clear hx203_0; try clear hx208_0; try clear hx209_0; try clear p2; try clear p20
                                  try clear p203; try clear p208; try clear p209; try clear p6; try clear p64; try clear q2; try clear q20; try clear q203
                                  try clear q208; try clear q209
                                  obtain ⟨kq, x220_115, rfl, HA, HJ115, HO_12, HO_14, BK174, HB⟩ := hcut
                                  cases kq with
                                  | zero => exact absurd HA.out (by simp [tourlaw5_FlowTells.j9])
                                  | succ kj115 =>
                                   have H := HA.out
                                   clear HA
                                   simp only [tourlaw5_FlowTells.j9] at H
                                   by_cases c121 : x220_115 = true
                                   ·subst c121
                                    have H1 : (some false) = some r := by rw [if_pos rfl] at H; exact H
                                    clear H
                                    have H := H1
                                    clear H1
                                    obtain rfl := Option.some.inj H
                                    go_wp2
                                    go_ret
                                    exact ⟨by first | rfl | (simp [errW_none, errW_some] <;> rfl) | (simp [*, errW_none, errW_some] <;> rfl), by repeat (first | (with_reducible first | exact HB.out | apply below_alloc | apply pw_below_drewN | apply below_drew1 | refine below_set ?_ GE174.out) | exact HB.out)⟩
                                   ·replace c121 := Bool.eq_false_iff.mpr c121
                                    subst c121
                                    have H1 : (if 1 ≤ (x14_8.length : Int) then ((some (x14_8.drop (1 : Int).toNat : List Int)).bind fun y210 => (if 0 ≤ x22_8 then (if x22_8 < (t189.length : Int) then (if (rd t189 x22_8) = 0 then (if t196 = 0 then (some ((y210.length : Int) == 0)) else (some false)) else ((tourref5_Beyond.f kj115 a0_0 a0_1 l0_2 x22_8 (rd t189 x22_8)).bind fun t215 => (tourlaw5_FlowTells.l2 kj115 t189 y210 t196 t215 a0_0 a0_1 l0_2))) else (none)) else (none))) else (none)) = some r := by rw [if_neg (show ¬ (false = true) by decide)] at H; exact H
                                    clear H
                                    have H := H1
                                    clear H1
                                    by_cases c122 : 1 ≤ (x14_8.length : Int)
                                    ·rw [if_pos c122] at H
                                     have c122b0 := eq_true c122
                                     have c122b1 : decide (1 ≤ (x14_8.length : Int)) = true := decide_eq_true c122
                                     clear c122
                                     obtain ⟨y210, hy210⟩ : ∃ y_ : List Int, y_ = (x14_8.drop (1 : Int).toNat) := ⟨_, rfl⟩
                                     replace H : (if 0 ≤ x22_8 then (if x22_8 < (t189.length : Int) then (if (rd t189 x22_8) = 0 then (if t196 = 0 then (some ((y210.length : Int) == 0)) else (some false)) else ((tourref5_Beyond.f kj115 a0_0 a0_1 l0_2 x22_8 (rd t189 x22_8)).bind fun t215 => (tourlaw5_FlowTells.l2 kj115 t189 y210 t196 t215 a0_0 a0_1 l0_2))) else (none)) else (none)) = some r := by first | (rw [hy210]; with_reducible exact H) | (have H2_ := (Option.bind_some _ _).symm.trans H; rw [hy210]; with_reducible exact H2_) | (have H2_ := (Option.bind_some _ _).symm.trans H; with_reducible exact H2_) | with_reducible exact H | (rw [hy210]; exact H) | exact H
                                     have Ny210 := Aside0.mk hy210
                                     clear hy210
                                     by_cases c123 : 0 ≤ x22_8
                                     ·rw [if_pos c123] at H
                                      have c123b0 : decide (0 ≤ x22_8) = true := decide_eq_true c123
                                      clear c123
                                      by_cases c124 : x22_8 < (t189.length : Int)
                                      ·rw [if_pos c124] at H
                                       have c124b0 : decide (x22_8 < (t189.length : Int)) = true := decide_eq_true c124
                                       clear c124
                                       by_cases c125 : (rd t189 x22_8) = 0
                                       ·rw [if_pos c125] at H
                                        have c125b0 : ((rd t189 x22_8) == 0) = true := beq_iff_eq.mpr c125
                                        have c125b1 : ((rd t189 x22_8) != 0) = false := bne_eq_false_iff_eq.mpr c125
                                        clear c125
                                        by_cases c126 : t196 = 0
                                        ·rw [if_pos c126] at H
                                         have c126b0 : (t196 == 0) = true := beq_iff_eq.mpr c126
                                         have c126b1 : (t196 != 0) = false := bne_eq_false_iff_eq.mpr c126
                                         clear c126
                                         obtain rfl := Option.some.inj H
                                         obtain ⟨Ao127, co127, eo127, _⟩ := Kd.Q_slice HO_14.out
                                         subst eo127
                                         have q128 : (1 : Int) ≤ ((x14_8.length : Int) : Int) := of_decide_eq_true (by first | (with_reducible assumption) | assumption)
                                         obtain ⟨i0128, hi0128, _, hsz128, _⟩ := info_parts info3
                                         have hcut128 := cut_from (P := Try.prog) 22 3 .i64 Try.underlying22 hi0128 1 hsz128 Ao127 x14_8.length co127 1 (by omega) q128
                                         have hr128 := Kd.Q_drop (k := (1 : Int).toNat) HO_14.out (by omega)
                                         obtain ⟨A128, hA128⟩ : ∃ A1, A1 = (if co127 = (1 : Int).toNat then Ao127 else (Ao127 : Option Addr).map (·.add ((1 : Int).toNat * 1))) := ⟨_, rfl⟩
                                         obtain ⟨c128, hc128⟩ : ∃ c1, c1 = co127 - (1 : Int).toNat := ⟨_, rfl⟩
                                         have hy128 : y210.length = x14_8.length - (1 : Int).toNat := (by rw [Ny210.out, List.length_drop])
                                         rw [← Ny210.out] at hr128
                                         rw [← hy128, ← hA128, ← hc128] at hcut128
                                         replace hr128 : Kd.Q (Kd.int .i64) 3 wc w.heap.size (fun k_ => some k_ ≠ (.slice Ao66 t189.length co66 : Value).ownBlock) (.slice A128 y210.length c128) y210 := (by rw [hA128, hc128, hy128]; exact hr128)
                                         have HE128 : Aside0 ((Value.slice A128 y210.length c128).ownBlock = (.slice Ao127 x14_8.length co127 : Value).ownBlock) := ⟨by rw [hA128]; split <;> (cases (Ao127 : Option Addr) <;> rfl)⟩
                                         clear hy128 hi0128 hsz128 HO_14 hA128 hc128
                                         have HO212 := Aside0.mk hr128
                                         clear hr128
                                         replace q128 := eq_true q128
                                         have n_ := Aside0.mk (Kd.R_mono (ok' := fun k_ => some k_ ≠ (.slice A128 y210.length c128 : Value).ownBlock) HO_12.out (fun k_ hk => (by rw [HE128.out]; exact hk)))
                                         clear HO_12
                                         have HO_12 := n_
                                         clear n_
                                         have p213 : 0 ≤ (x22_8 : Int) := of_decide_eq_true (by first | (with_reducible assumption) | assumption)
                                         have q213 : x22_8 < (t189.length : Int) := of_decide_eq_true (by first | (with_reducible assumption) | assumption)
                                         obtain ⟨ad213, e213, hx213_0⟩ := Kd.at_int (Kd.R_reads' HO_12.out).2.2 x22_8 p213 q213
                                         cases e213
                                         replace p213 := eq_true p213
                                         replace q213 := eq_true q213
                                         go_wp2
                                         go_ret
                                         exact ⟨by first | rfl | (simp [errW_none, errW_some] <;> rfl) | (simp [*, errW_none, errW_some] <;> rfl), by repeat (first | (with_reducible first | exact HB.out | apply below_alloc | apply pw_below_drewN | apply below_drew1 | refine below_set ?_ GE174.out) | exact HB.out)⟩
                                        ·rw [if_neg c126] at H
                                         have c126b0 : (t196 == 0) = false := beq_eq_false_iff_ne.mpr c126
                                         have c126b1 : (t196 != 0) = true := bne_iff_ne.mpr c126
                                         obtain rfl := Option.some.inj H
                                         obtain ⟨Ao129, co129, eo129, _⟩ := Kd.Q_slice HO_14.out
                                         subst eo129
                                         have q130 : (1 : Int) ≤ ((x14_8.length : Int) : Int) := of_decide_eq_true (by first | (with_reducible assumption) | assumption)
                                         obtain ⟨i0130, hi0130, _, hsz130, _⟩ := info_parts info3
                                         have hcut130 := cut_from (P := Try.prog) 22 3 .i64 Try.underlying22 hi0130 1 hsz130 Ao129 x14_8.length co129 1 (by omega) q130
                                         have hr130 := Kd.Q_drop (k := (1 : Int).toNat) HO_14.out (by omega)
                                         obtain ⟨A130, hA130⟩ : ∃ A1, A1 = (if co129 = (1 : Int).toNat then Ao129 else (Ao129 : Option Addr).map (·.add ((1 : Int).toNat * 1))) := ⟨_, rfl⟩
                                         obtain ⟨c130, hc130⟩ : ∃ c1, c1 = co129 - (1 : Int).toNat := ⟨_, rfl⟩
                                         have hy130 : y210.length = x14_8.length - (1 : Int).toNat := (by rw [Ny210.out, List.length_drop])
                                         rw [← Ny210.out] at hr130
                                         rw [← hy130, ← hA130, ← hc130] at hcut130
                                         replace hr130 : Kd.Q (Kd.int .i64) 3 wc w.heap.size (fun k_ => some k_ ≠ (.slice Ao66 t189.length co66 : Value).ownBlock) (.slice A130 y210.length c130) y210 := (by rw [hA130, hc130, hy130]; exact hr130)
                                         have HE130 : Aside0 ((Value.slice A130 y210.length c130).ownBlock = (.slice Ao129 x14_8.length co129 : Value).ownBlock) := ⟨by rw [hA130]; split <;> (cases (Ao129 : Option Addr) <;> rfl)⟩
                                         clear hy130 hi0130 hsz130 HO_14 hA130 hc130
                                         have HO212 := Aside0.mk hr130
                                         clear hr130
                                         replace q130 := eq_true q130
                                         have n_ := Aside0.mk (Kd.R_mono (ok' := fun k_ => some k_ ≠ (.slice A130 y210.length c130 : Value).ownBlock) HO_12.out (fun k_ hk => (by rw [HE130.out]; exact hk)))
                                         clear HO_12
                                         have HO_12 := n_
                                         clear n_
                                         have p213 : 0 ≤ (x22_8 : Int) := of_decide_eq_true (by first | (with_reducible assumption) | assumption)
                                         have q213 : x22_8 < (t189.length : Int) := of_decide_eq_true (by first | (with_reducible assumption) | assumption)
                                         obtain ⟨ad213, e213, hx213_0⟩ := Kd.at_int (Kd.R_reads' HO_12.out).2.2 x22_8 p213 q213
                                         cases e213
                                         replace p213 := eq_true p213
                                         replace q213 := eq_true q213
                                         go_wp2
                                         go_ret
                                         exact ⟨by first | rfl | (simp [errW_none, errW_some] <;> rfl) | (simp [*, errW_none, errW_some] <;> rfl), by repeat (first | (with_reducible first | exact HB.out | apply below_alloc | apply pw_below_drewN | apply below_drew1 | refine below_set ?_ GE174.out) | exact HB.out)⟩
                                       ·rw [if_neg c125] at H
                                        have c125b0 : ((rd t189 x22_8) == 0) = false := beq_eq_false_iff_ne.mpr c125
                                        have c125b1 : ((rd t189 x22_8) != 0) = true := bne_iff_ne.mpr c125
                                        replace H := Option.bind_eq_some_iff.mp H
                                        obtain ⟨t215, A1310, H⟩ := H
                                        replace H : (tourlaw5_FlowTells.l2 kj115 t189 y210 t196 t215 a0_0 a0_1 l0_2) = some r := H
                                        have A131 := Aside0.mk A1310
                                        clear A1310
                                        have H' := Aside0.mk H
                                        clear H
                                        obtain ⟨Ao132, co132, eo132, _⟩ := Kd.Q_slice HO_14.out
                                        subst eo132
                                        have q133 : (1 : Int) ≤ ((x14_8.length : Int) : Int) := of_decide_eq_true (by first | (with_reducible assumption) | assumption)
                                        obtain ⟨i0133, hi0133, _, hsz133, _⟩ := info_parts info3
                                        have hcut133 := cut_from (P := Try.prog) 22 3 .i64 Try.underlying22 hi0133 1 hsz133 Ao132 x14_8.length co132 1 (by omega) q133
                                        have hr133 := Kd.Q_drop (k := (1 : Int).toNat) HO_14.out (by omega)
                                        obtain ⟨A133, hA133⟩ : ∃ A1, A1 = (if co132 = (1 : Int).toNat then Ao132 else (Ao132 : Option Addr).map (·.add ((1 : Int).toNat * 1))) := ⟨_, rfl⟩
                                        obtain ⟨c133, hc133⟩ : ∃ c1, c1 = co132 - (1 : Int).toNat := ⟨_, rfl⟩
                                        have hy133 : y210.length = x14_8.length - (1 : Int).toNat := (by rw [Ny210.out, List.length_drop])
                                        rw [← Ny210.out] at hr133
                                        rw [← hy133, ← hA133, ← hc133] at hcut133
                                        replace hr133 : Kd.Q (Kd.int .i64) 3 wc w.heap.size (fun k_ => some k_ ≠ (.slice Ao66 t189.length co66 : Value).ownBlock) (.slice A133 y210.length c133) y210 := (by rw [hA133, hc133, hy133]; exact hr133)
                                        have HE133 : Aside0 ((Value.slice A133 y210.length c133).ownBlock = (.slice Ao132 x14_8.length co132 : Value).ownBlock) := ⟨by rw [hA133]; split <;> (cases (Ao132 : Option Addr) <;> rfl)⟩
                                        clear hy133 hi0133 hsz133 HO_14 hA133 hc133
                                        have HO212 := Aside0.mk hr133
                                        clear hr133
                                        replace q133 := eq_true q133
                                        have n_ := Aside0.mk (Kd.R_mono (ok' := fun k_ => some k_ ≠ (.slice A133 y210.length c133 : Value).ownBlock) HO_12.out (fun k_ hk => (by rw [HE133.out]; exact hk)))
                                        clear HO_12
                                        have HO_12 := n_
                                        clear n_
                                        have p213 : 0 ≤ (x22_8 : Int) := of_decide_eq_true (by first | (with_reducible assumption) | assumption)
                                        have q213 : x22_8 < (t189.length : Int) := of_decide_eq_true (by first | (with_reducible assumption) | assumption)
                                        obtain ⟨ad213, e213, hx213_0⟩ := Kd.at_int (Kd.R_reads' HO_12.out).2.2 x22_8 p213 q213
                                        cases e213
                                        replace p213 := eq_true p213
                                        replace q213 := eq_true q213
                                        try go_wp2
                                        have n0_ := Aside0.mk (Kd.R_drew HO_12.out)
                                        have n1_ := Aside0.mk (Kd.Q_drew HO212.out)
                                        have n2_ := Aside0.mk (blk_drew BK174.out)
                                        have n3_ := Aside0.mk (below_drew1 HB.out)
                                        clear HO_12
                                        clear HO212
                                        clear BK174
                                        clear HB
                                        have HO_12 := n0_
                                        have HO212 := n1_
                                        have BK174 := n2_
                                        have HB := n3_
                                        clear n0_ n1_ n2_ n3_
                                        have p214 : 0 ≤ (x22_8 : Int) := of_decide_eq_true (by first | (with_reducible assumption) | assumption)
                                        have q214 : x22_8 < (t189.length : Int) := of_decide_eq_true (by first | (with_reducible assumption) | assumption)
                                        obtain ⟨ad214, e214, hx214_0⟩ := Kd.at_int (Kd.R_reads' HO_12.out).2.2 x22_8 p214 q214
                                        obtain rfl : ad213 = ad214 := (by injection e214)
                                        replace p214 := eq_true p214
                                        replace q214 := eq_true q214
                                        refine start_ (n := 8) (S := fun w' => w'.cell? ⟨gb174, 0, none⟩ = some (.int .i64 a0_0) ∧ w'.cell? ⟨gb174, 1, none⟩ = some (.int .i64 a0_1) ∧ w'.cell? ⟨gb174, 2, none⟩ = some (.slice A0_2 l0_2.length c0_2) ∧ w'.cell? (ad213.add (x22_8).toNat) = some (.int .i64 (rd t189 x22_8))) (ds := []) (ab 8 0) (by kernel_rfl) rfl rfl ⟨(blk_cell BK174.out 0).trans rfl, (blk_cell BK174.out 1).trans rfl, (blk_cell BK174.out 2).trans rfl, hx214_0⟩ (fun hHeld => ?_); refine with_tabW tourlaw5_FlowTells.tab34 tourlaw5_FlowTells.bits34 (fun HT_ HW_ => ?_)
                                        generalize wc.drew = w134 at HO_12 HO212 BK174 HB hx214_0 hHeld ⊢
                                        refine pure_ (i := 1) (N := some 205) (v := ?_) (a' := ?_) (ab 8 2) rfl rfl (any_of HT_.out (by kernel_rfl)) (fun _ _ _ h => h) (Or.inl ⟨by rfl, ?_⟩) ?_ ?_
                                        rotate_left
                                        ·intro w'
                                         go_simp
                                         with_reducible rfl
                                        rotate_left
                                        ·simp only [Act.put, zq1, zq2, zq3, i64_w, i32_w]
                                         rfl
                                        refine pure_ (i := 2) (N := some 206) (v := ?_) (a' := ?_) (ab 8 6) rfl rfl (any_of HT_.out (by kernel_rfl)) (fun _ _ _ h => h) (Or.inl ⟨by rfl, ?_⟩) ?_ ?_
                                        rotate_left
                                        ·intro w'
                                         go_simp
                                         with_reducible rfl
                                        rotate_left
                                        ·simp only [Act.put, zq1, zq2, zq3, i64_w, i32_w]
                                         rfl
                                        refine pure_ (i := 3) (N := some 207) (v := ?_) (a' := ?_) (ab 8 14) rfl rfl (any_of HT_.out (by kernel_rfl)) (fun _ _ _ h => h) (Or.inl ⟨by rfl, ?_⟩) ?_ ?_
                                        rotate_left
                                        ·intro w'
                                         go_simp
                                         with_reducible rfl
                                        rotate_left
                                        ·simp only [Act.put, zq1, zq2, zq3, i64_w, i32_w]
                                         rfl
                                        refine pure_ (i := 4) (N := some 208) (v := ?_) (a' := ?_) (ab 8 30) rfl rfl (any_of HT_.out (by kernel_rfl)) (fun _ _ _ h => h) (Or.inl ⟨by rfl, ?_⟩) ?_ ?_
                                        rotate_left
                                        ·intro w'
                                         go_simp
                                         with_reducible rfl
                                        rotate_left
                                        ·simp only [Act.put, zq1, zq2, zq3, i64_w, i32_w]
                                         rfl
                                        refine take_ (i := 0) (N := some 204) (v := ?_) (a' := ?_) (ab 8 31) rfl rfl (take_ofW HT_.out HW_.out (by kernel_rfl)) (fun _ _ _ h => h) (Or.inl ⟨by rfl, ?_⟩) hHeld ?_ ?_
                                        rotate_left
                                        ·rintro w' ⟨s0, s1, s2, s3⟩
                                         go_simp
                                         with_reducible rfl
                                        rotate_left
                                        ·simp only [Act.put, zq1, zq2, zq3, i64_w, i32_w]
                                         rfl
                                        refine take_ (i := 5) (N := some 209) (v := ?_) (a' := ?_) (ab 8 63) rfl rfl (take_ofW HT_.out HW_.out (by kernel_rfl)) (fun _ _ _ h => h) (Or.inl ⟨by rfl, ?_⟩) hHeld ?_ ?_
                                        rotate_left
                                        ·rintro w' ⟨s0, s1, s2, s3⟩
                                         go_simp
                                         with_reducible rfl
                                        rotate_left
                                        ·simp only [Act.put, zq1, zq2, zq3, i64_w, i32_w]
                                         rfl
                                        refine one_ (i := 6) (N := some 210) (ab 8 127) rfl rfl (one_of HT_.out (by kernel_rfl)) (by decide) (fun K hK => ?_)
                                        refine goes_ Try.func19 (by kernel_rfl) rfl #[.agg #[.int .i64 a0_0, .int .i64 a0_1, .slice A0_2 l0_2.length c0_2], .int .i64 x22_8, .int .i64 (rd t189 x22_8)] (by rfl) rfl rfl (by (try simp only [zm1, zm2, zm3]); first | done | rfl) ?_
                                        with_reducible refine (tourref5_Beyond.calls kj115 a0_0 a0_1 _ _ l0_2 x22_8 (rd t189 x22_8) t215 _ ?side1 ?side2 A131.out).mono ?_
                                        (case side1 => repeat (first | exact (Kd.C_below HR0_2.out HB.out) | (with_reducible refine Kd.C_alloc ?_ _) | (with_reducible refine Kd.C_drewN ?_ _) | (with_reducible refine Kd.C_drew ?_)))
                                        (case side2 => exact HC0_2.out)
                                        rintro e w135 ⟨rfl, hb⟩
                                        have HS3_ := (hb.cell (World.block_lt_of_cell? _ _ (hHeld.2.2.2))).trans (hHeld.2.2.2)
                                        refine ⟨_, rfl, ?_⟩
                                        have n0_ := Aside0.mk (Kd.R_below (by (with_reducible repeat (first | apply Kd.R_alloc | apply Kd.R_drewN | apply Kd.R_drew)); exact HO_12.out) hb)
                                        have n1_ := Aside0.mk (Kd.Q_below (by (with_reducible repeat (first | apply Kd.Q_alloc | apply Kd.Q_drewN | apply Kd.Q_drew)); exact HO212.out) hb)
                                        have n2_ := Aside0.mk (bb hb BK174.out)
                                        have n3_ := Aside0.mk (below_step (by repeat (first | (with_reducible first | exact HB.out | apply below_alloc | apply pw_below_drewN | apply below_drew1 | refine below_set ?_ GE174.out) | exact HB.out)) hb)
                                        clear HO_12
                                        clear HO212
                                        clear BK174
                                        clear HB
                                        have HO_12 := n0_
                                        have HO212 := n1_
                                        have BK174 := n2_
                                        have HB := n3_
                                        clear n0_ n1_ n2_ n3_
                                        (try clear hb)
                                        (try clear hb2)
                                        (try clear hk)
                                        (try clear hi)
                                        refine hK.out _ _ ⟨(blk_cell BK174.out 0).trans rfl, (blk_cell BK174.out 1).trans rfl, (blk_cell BK174.out 2).trans rfl, HS3_⟩ (fun hHeld => ?_)
                                        clear hK K
                                        refine norm_ (a' := ?_) ?_ ?_
                                        rotate_left
                                        ·show Act.put _ (some 210) _ = _
                                         simp only [Act.put, zq1, zq2, zq3, i64_w, i32_w]
                                         rfl
                                        refine pure_ (i := 7) (N := some 22) (v := ?_) (a' := ?_) (ab 8 255) rfl rfl (any_of HT_.out (by kernel_rfl)) (fun _ _ _ h => h) (Or.inl ⟨by rfl, ?_⟩) ?_ ?_
                                        rotate_left
                                        ·intro w'
                                         go_simp
                                         with_reducible rfl
                                        rotate_left
                                        ·simp only [Act.put, zq1, zq2, zq3, i64_w, i32_w]
                                         rfl
                                        refine done_ (done_of HT_.out (by kernel_rfl)) ?_
                                        try go_wp2
                                        go_roundg kj115
                                        case measure => have := HJ4.out; have := HJ20.out; have := HJ34.out; have := HJ39.out; have := HJ46.out; have := HK6.out; have := HJ101.out; have := HK8.out; have := HJ115.out; omega
                                        case rel => exact ⟨(y210), (t215), (by first | rfl | (simp; done) | (simp [*]; done)), H', ⟨by have := HJ4.out; have := HJ20.out; have := HJ34.out; have := HJ39.out; have := HJ46.out; have := HK6.out; have := HJ101.out; have := HK8.out; have := HJ115.out; omega⟩, ⟨by (with_reducible repeat (first | apply Kd.R_alloc | apply Kd.R_drewN | apply Kd.R_drew)); exact HO_12.out⟩, ⟨by (with_reducible repeat (first | apply Kd.Q_alloc | apply Kd.Q_drewN | apply Kd.Q_drew)); exact HO212.out⟩, ⟨BK174.out⟩, ⟨by repeat (first | (with_reducible first | exact HB.out | apply below_alloc | apply pw_below_drewN | apply below_drew1 | refine below_set ?_ GE174.out) | exact HB.out)⟩⟩
                                      ·rw [if_neg c124] at H
                                       exact absurd H (by simp)
                                     ·rw [if_neg c123] at H
                                      exact absurd H (by simp)
                                    ·rw [if_neg c122] at H
                                     exact absurd H (by simp)
                                 exact aux7
                            ·rw [if_neg c109] at H
                             exact absurd H (by simp)
                           ·rw [if_neg c108] at H
                            exact absurd H (by simp)
                        exact aux6
                 exact aux5
               ·rw [if_neg c45] at H
                have c45b0 : (x9_39 == 0) = false := beq_eq_false_iff_ne.mpr c45
                have c45b1 : (x9_39 != 0) = true := bne_iff_ne.mpr c45
                by_cases c136 : t188 = x9_39
                ·rw [if_pos c136] at H
                 have c136b0 : (t188 == x9_39) = true := beq_iff_eq.mpr c136
                 have c136b1 : (t188 != x9_39) = false := bne_eq_false_iff_eq.mpr c136
                 clear c136
                 by_cases c137 : t192 = x9_39
                 ·rw [if_pos c137] at H
                  have c137b0 : (t192 == x9_39) = true := beq_iff_eq.mpr c137
                  have c137b1 : (t192 != x9_39) = false := bne_eq_false_iff_eq.mpr c137
                  clear c137
                  by_cases c138 : t196 = x9_39
                  ·rw [if_pos c138] at H
                   have c138b0 : (t196 == x9_39) = true := beq_iff_eq.mpr c138
                   have c138b1 : (t196 != x9_39) = false := bne_eq_false_iff_eq.mpr c138
                   clear c138
                   obtain rfl := Option.some.inj H
                   have hcz139_0 : wc.cell? ⟨gb174, 0, none⟩ = some (.int .i64 a0_0) := (blk_cell BK174.out 0).trans rfl
                   have hcz139_1 : wc.cell? ⟨gb174, 1, none⟩ = some (.int .i64 a0_1) := (blk_cell BK174.out 1).trans rfl
                   have hcz139_2 : wc.cell? ⟨gb174, 2, none⟩ = some (.slice A0_2 l0_2.length c0_2) := (blk_cell BK174.out 2).trans rfl
                   have hfz139_0 := blk_frozen BK174.out 0
                   have hfz139_1 := blk_frozen BK174.out 1
                   have hfz139_2 := blk_frozen BK174.out 2
                   go_wp2_with (first | ((with_reducible refine gate_callee (f := 10) rfl ?_); refine goesL_ (some 59) rfl rfl Try.func10 (by kernel_rfl) rfl #[.agg #[.int .i64 a0_0, .int .i64 a0_1, .slice A0_2 l0_2.length c0_2], .slice A1 l1.length c1] rfl (by (try simp only [zm1, zm2, zm3]); first | done | rfl) ?_; (with_reducible refine (flow_Field.calls kj39 a0_0 a0_1 _ _ l0_2 _ _ l1 t185 t188 _ ?side1 ?side2 ?side3 ?side4 A42.out).mono ?_); (case side1 => repeat (first | exact (Kd.C_below HR0_2.out HB.out) | (with_reducible refine Kd.C_alloc ?_ _) | (with_reducible refine Kd.C_drewN ?_ _) | (with_reducible refine Kd.C_drew ?_))); (case side2 => exact HC0_2.out); (case side3 => repeat (first | exact (Kd.C_below HR1.out HB.out) | (with_reducible refine Kd.C_alloc ?_ _) | (with_reducible refine Kd.C_drewN ?_ _) | (with_reducible refine Kd.C_drew ?_))); (case side4 => exact HC1.out); rintro e w140 ⟨v186, rfl, ho0, hb⟩; refine ⟨_, rfl, ?_⟩; have n0_ := Aside0.mk (Kd.R_lower ho0 (below_size (by repeat (first | (with_reducible first | exact HB.out | apply below_alloc | apply pw_below_drewN | apply below_drew1 | refine below_set ?_ GE174.out) | exact HB.out)))); have n1_ := Aside0.mk (bb hb BK174.out); have n2_ := Aside0.mk (below_step (by repeat (first | (with_reducible first | exact HB.out | apply below_alloc | apply pw_below_drewN | apply below_drew1 | refine below_set ?_ GE174.out) | exact HB.out)) hb); clear BK174; clear HB; have HO187 := n0_; have BK174 := n1_; have HB := n2_; clear n0_ n1_ n2_; (try clear hb); (try clear hb2); (try clear hk); (try clear hi); (try clear ho0); have hcz141_0 : w140.cell? ⟨gb174, 0, none⟩ = some (.int .i64 a0_0) := (blk_cell BK174.out 0).trans rfl; have hcz141_1 : w140.cell? ⟨gb174, 1, none⟩ = some (.int .i64 a0_1) := (blk_cell BK174.out 1).trans rfl; have hcz141_2 : w140.cell? ⟨gb174, 2, none⟩ = some (.slice A0_2 l0_2.length c0_2) := (blk_cell BK174.out 2).trans rfl; have hfz141_0 := blk_frozen BK174.out 0; have hfz141_1 := blk_frozen BK174.out 1; have hfz141_2 := blk_frozen BK174.out 2) | ((with_reducible refine gate_callee (f := 22) rfl ?_); refine goesL_ (some 65) rfl rfl Try.func22 (by kernel_rfl) rfl #[.agg #[.int .i64 a0_0, .int .i64 a0_1, .slice A0_2 l0_2.length c0_2], .slice A1 l1.length c1] rfl (by (try simp only [zm1, zm2, zm3]); first | done | rfl) ?_; (with_reducible refine (flow_Ways.calls kj39 a0_0 a0_1 _ _ l0_2 _ _ l1 t189 t192 _ ?side1 ?side2 ?side3 ?side4 A43.out).mono ?_); (case side1 => repeat (first | exact (Kd.C_below HR0_2.out HB.out) | (with_reducible refine Kd.C_alloc ?_ _) | (with_reducible refine Kd.C_drewN ?_ _) | (with_reducible refine Kd.C_drew ?_))); (case side2 => exact HC0_2.out); (case side3 => repeat (first | exact (Kd.C_below HR1.out HB.out) | (with_reducible refine Kd.C_alloc ?_ _) | (with_reducible refine Kd.C_drewN ?_ _) | (with_reducible refine Kd.C_drew ?_))); (case side4 => exact HC1.out); rintro e w142 ⟨v190, rfl, ho0, hb⟩; refine ⟨_, rfl, ?_⟩; have n0_ := Aside0.mk (Kd.R_elder' (by (with_reducible repeat (first | apply Kd.R_alloc | apply Kd.R_drewN | apply Kd.R_drew)); exact HO187.out) (Kd.R_base ho0) hb); have n1_ := Aside0.mk (Kd.R_lower (Kd.R_new' ho0 (Kd.R_lt (by (with_reducible repeat (first | apply Kd.R_alloc | apply Kd.R_drewN | apply Kd.R_drew)); exact HO187.out))) (below_size (by repeat (first | (with_reducible first | exact HB.out | apply below_alloc | apply pw_below_drewN | apply below_drew1 | refine below_set ?_ GE174.out) | exact HB.out)))); have n2_ := Aside0.mk (bb hb BK174.out); have n3_ := Aside0.mk (below_step (by repeat (first | (with_reducible first | exact HB.out | apply below_alloc | apply pw_below_drewN | apply below_drew1 | refine below_set ?_ GE174.out) | exact HB.out)) hb); clear HO187; clear BK174; clear HB; have HO187 := n0_; have HO191 := n1_; have BK174 := n2_; have HB := n3_; clear n0_ n1_ n2_ n3_; (try clear hb); (try clear hb2); (try clear hk); (try clear hi); (try clear ho0); have hcz143_0 : w142.cell? ⟨gb174, 0, none⟩ = some (.int .i64 a0_0) := (blk_cell BK174.out 0).trans rfl; have hcz143_1 : w142.cell? ⟨gb174, 1, none⟩ = some (.int .i64 a0_1) := (blk_cell BK174.out 1).trans rfl; have hcz143_2 : w142.cell? ⟨gb174, 2, none⟩ = some (.slice A0_2 l0_2.length c0_2) := (blk_cell BK174.out 2).trans rfl; have hfz143_0 := blk_frozen BK174.out 0; have hfz143_1 := blk_frozen BK174.out 1; have hfz143_2 := blk_frozen BK174.out 2) | ((with_reducible refine gate_callee (f := 15) rfl ?_); refine goesL_ (some 72) rfl rfl Try.func15 (by kernel_rfl) rfl #[.agg #[.int .i64 a0_0, .int .i64 a0_1, .slice A0_2 l0_2.length c0_2], .slice A1 l1.length c1, .int .i64 a2] rfl (by (try simp only [zm1, zm2, zm3]); first | done | rfl) ?_; (with_reducible refine (flow_Walk.calls kj39 a0_0 a0_1 _ _ l0_2 _ _ l1 a2 t193 t196 _ ?side1 ?side2 ?side3 ?side4 A44.out).mono ?_); (case side1 => repeat (first | exact (Kd.C_below HR0_2.out HB.out) | (with_reducible refine Kd.C_alloc ?_ _) | (with_reducible refine Kd.C_drewN ?_ _) | (with_reducible refine Kd.C_drew ?_))); (case side2 => exact HC0_2.out); (case side3 => repeat (first | exact (Kd.C_below HR1.out HB.out) | (with_reducible refine Kd.C_alloc ?_ _) | (with_reducible refine Kd.C_drewN ?_ _) | (with_reducible refine Kd.C_drew ?_))); (case side4 => exact HC1.out); rintro e w144 ⟨v194, rfl, ho0, hb⟩; refine ⟨_, rfl, ?_⟩; have n0_ := Aside0.mk (Kd.R_elder' (by (with_reducible repeat (first | apply Kd.R_alloc | apply Kd.R_drewN | apply Kd.R_drew)); exact HO187.out) (Kd.R_base ho0) hb); have n1_ := Aside0.mk (Kd.R_elder' (by (with_reducible repeat (first | apply Kd.R_alloc | apply Kd.R_drewN | apply Kd.R_drew)); exact HO191.out) (Kd.R_base ho0) hb); have n2_ := Aside0.mk (Kd.R_lower (Kd.R_new' (Kd.R_new' ho0 (Kd.R_lt (by (with_reducible repeat (first | apply Kd.R_alloc | apply Kd.R_drewN | apply Kd.R_drew)); exact HO187.out))) (Kd.R_lt (by (with_reducible repeat (first | apply Kd.R_alloc | apply Kd.R_drewN | apply Kd.R_drew)); exact HO191.out))) (below_size (by repeat (first | (with_reducible first | exact HB.out | apply below_alloc | apply pw_below_drewN | apply below_drew1 | refine below_set ?_ GE174.out) | exact HB.out)))); have n3_ := Aside0.mk (bb hb BK174.out); have n4_ := Aside0.mk (below_step (by repeat (first | (with_reducible first | exact HB.out | apply below_alloc | apply pw_below_drewN | apply below_drew1 | refine below_set ?_ GE174.out) | exact HB.out)) hb); clear HO187; clear HO191; clear BK174; clear HB; have HO187 := n0_; have HO191 := n1_; have HO195 := n2_; have BK174 := n3_; have HB := n4_; clear n0_ n1_ n2_ n3_ n4_; (try clear hb); (try clear hb2); (try clear hk); (try clear hi); (try clear ho0); obtain ⟨Ao145, co145, eo145⟩ := Kd.R_slice HO187.out; subst eo145; obtain ⟨Ao146, co146, eo146⟩ := Kd.R_slice HO191.out; subst eo146; obtain ⟨Ao147, co147, eo147⟩ := Kd.R_slice HO195.out; subst eo147))
                   go_ret
                   exact ⟨by first | rfl | (simp [errW_none, errW_some] <;> rfl) | (simp [*, errW_none, errW_some] <;> rfl), by repeat (first | (with_reducible first | exact HB.out | apply below_alloc | apply pw_below_drewN | apply below_drew1 | refine below_set ?_ GE174.out) | exact HB.out)⟩
                  ·rw [if_neg c138] at H
                   have c138b0 : (t196 == x9_39) = false := beq_eq_false_iff_ne.mpr c138
                   have c138b1 : (t196 != x9_39) = true := bne_iff_ne.mpr c138
                   obtain rfl := Option.some.inj H
                   have hcz148_0 : wc.cell? ⟨gb174, 0, none⟩ = some (.int .i64 a0_0) := (blk_cell BK174.out 0).trans rfl
                   have hcz148_1 : wc.cell? ⟨gb174, 1, none⟩ = some (.int .i64 a0_1) := (blk_cell BK174.out 1).trans rfl
                   have hcz148_2 : wc.cell? ⟨gb174, 2, none⟩ = some (.slice A0_2 l0_2.length c0_2) := (blk_cell BK174.out 2).trans rfl
                   have hfz148_0 := blk_frozen BK174.out 0
                   have hfz148_1 := blk_frozen BK174.out 1
                   have hfz148_2 := blk_frozen BK174.out 2
                   go_wp2_with (first | ((with_reducible refine gate_callee (f := 10) rfl ?_); refine goesL_ (some 59) rfl rfl Try.func10 (by kernel_rfl) rfl #[.agg #[.int .i64 a0_0, .int .i64 a0_1, .slice A0_2 l0_2.length c0_2], .slice A1 l1.length c1] rfl (by (try simp only [zm1, zm2, zm3]); first | done | rfl) ?_; (with_reducible refine (flow_Field.calls kj39 a0_0 a0_1 _ _ l0_2 _ _ l1 t185 t188 _ ?side1 ?side2 ?side3 ?side4 A42.out).mono ?_); (case side1 => repeat (first | exact (Kd.C_below HR0_2.out HB.out) | (with_reducible refine Kd.C_alloc ?_ _) | (with_reducible refine Kd.C_drewN ?_ _) | (with_reducible refine Kd.C_drew ?_))); (case side2 => exact HC0_2.out); (case side3 => repeat (first | exact (Kd.C_below HR1.out HB.out) | (with_reducible refine Kd.C_alloc ?_ _) | (with_reducible refine Kd.C_drewN ?_ _) | (with_reducible refine Kd.C_drew ?_))); (case side4 => exact HC1.out); rintro e w149 ⟨v186, rfl, ho0, hb⟩; refine ⟨_, rfl, ?_⟩; have n0_ := Aside0.mk (Kd.R_lower ho0 (below_size (by repeat (first | (with_reducible first | exact HB.out | apply below_alloc | apply pw_below_drewN | apply below_drew1 | refine below_set ?_ GE174.out) | exact HB.out)))); have n1_ := Aside0.mk (bb hb BK174.out); have n2_ := Aside0.mk (below_step (by repeat (first | (with_reducible first | exact HB.out | apply below_alloc | apply pw_below_drewN | apply below_drew1 | refine below_set ?_ GE174.out) | exact HB.out)) hb); clear BK174; clear HB; have HO187 := n0_; have BK174 := n1_; have HB := n2_; clear n0_ n1_ n2_; (try clear hb); (try clear hb2); (try clear hk); (try clear hi); (try clear ho0); have hcz150_0 : w149.cell? ⟨gb174, 0, none⟩ = some (.int .i64 a0_0) := (blk_cell BK174.out 0).trans rfl; have hcz150_1 : w149.cell? ⟨gb174, 1, none⟩ = some (.int .i64 a0_1) := (blk_cell BK174.out 1).trans rfl; have hcz150_2 : w149.cell? ⟨gb174, 2, none⟩ = some (.slice A0_2 l0_2.length c0_2) := (blk_cell BK174.out 2).trans rfl; have hfz150_0 := blk_frozen BK174.out 0; have hfz150_1 := blk_frozen BK174.out 1; have hfz150_2 := blk_frozen BK174.out 2) | ((with_reducible refine gate_callee (f := 22) rfl ?_); refine goesL_ (some 65) rfl rfl Try.func22 (by kernel_rfl) rfl #[.agg #[.int .i64 a0_0, .int .i64 a0_1, .slice A0_2 l0_2.length c0_2], .slice A1 l1.length c1] rfl (by (try simp only [zm1, zm2, zm3]); first | done | rfl) ?_; (with_reducible refine (flow_Ways.calls kj39 a0_0 a0_1 _ _ l0_2 _ _ l1 t189 t192 _ ?side1 ?side2 ?side3 ?side4 A43.out).mono ?_); (case side1 => repeat (first | exact (Kd.C_below HR0_2.out HB.out) | (with_reducible refine Kd.C_alloc ?_ _) | (with_reducible refine Kd.C_drewN ?_ _) | (with_reducible refine Kd.C_drew ?_))); (case side2 => exact HC0_2.out); (case side3 => repeat (first | exact (Kd.C_below HR1.out HB.out) | (with_reducible refine Kd.C_alloc ?_ _) | (with_reducible refine Kd.C_drewN ?_ _) | (with_reducible refine Kd.C_drew ?_))); (case side4 => exact HC1.out); rintro e w151 ⟨v190, rfl, ho0, hb⟩; refine ⟨_, rfl, ?_⟩; have n0_ := Aside0.mk (Kd.R_elder' (by (with_reducible repeat (first | apply Kd.R_alloc | apply Kd.R_drewN | apply Kd.R_drew)); exact HO187.out) (Kd.R_base ho0) hb); have n1_ := Aside0.mk (Kd.R_lower (Kd.R_new' ho0 (Kd.R_lt (by (with_reducible repeat (first | apply Kd.R_alloc | apply Kd.R_drewN | apply Kd.R_drew)); exact HO187.out))) (below_size (by repeat (first | (with_reducible first | exact HB.out | apply below_alloc | apply pw_below_drewN | apply below_drew1 | refine below_set ?_ GE174.out) | exact HB.out)))); have n2_ := Aside0.mk (bb hb BK174.out); have n3_ := Aside0.mk (below_step (by repeat (first | (with_reducible first | exact HB.out | apply below_alloc | apply pw_below_drewN | apply below_drew1 | refine below_set ?_ GE174.out) | exact HB.out)) hb); clear HO187; clear BK174; clear HB; have HO187 := n0_; have HO191 := n1_; have BK174 := n2_; have HB := n3_; clear n0_ n1_ n2_ n3_; (try clear hb); (try clear hb2); (try clear hk); (try clear hi); (try clear ho0); have hcz152_0 : w151.cell? ⟨gb174, 0, none⟩ = some (.int .i64 a0_0) := (blk_cell BK174.out 0).trans rfl; have hcz152_1 : w151.cell? ⟨gb174, 1, none⟩ = some (.int .i64 a0_1) := (blk_cell BK174.out 1).trans rfl; have hcz152_2 : w151.cell? ⟨gb174, 2, none⟩ = some (.slice A0_2 l0_2.length c0_2) := (blk_cell BK174.out 2).trans rfl; have hfz152_0 := blk_frozen BK174.out 0; have hfz152_1 := blk_frozen BK174.out 1; have hfz152_2 := blk_frozen BK174.out 2) | ((with_reducible refine gate_callee (f := 15) rfl ?_); refine goesL_ (some 72) rfl rfl Try.func15 (by kernel_rfl) rfl #[.agg #[.int .i64 a0_0, .int .i64 a0_1, .slice A0_2 l0_2.length c0_2], .slice A1 l1.length c1, .int .i64 a2] rfl (by (try simp only [zm1, zm2, zm3]); first | done | rfl) ?_; (with_reducible refine (flow_Walk.calls kj39 a0_0 a0_1 _ _ l0_2 _ _ l1 a2 t193 t196 _ ?side1 ?side2 ?side3 ?side4 A44.out).mono ?_); (case side1 => repeat (first | exact (Kd.C_below HR0_2.out HB.out) | (with_reducible refine Kd.C_alloc ?_ _) | (with_reducible refine Kd.C_drewN ?_ _) | (with_reducible refine Kd.C_drew ?_))); (case side2 => exact HC0_2.out); (case side3 => repeat (first | exact (Kd.C_below HR1.out HB.out) | (with_reducible refine Kd.C_alloc ?_ _) | (with_reducible refine Kd.C_drewN ?_ _) | (with_reducible refine Kd.C_drew ?_))); (case side4 => exact HC1.out); rintro e w153 ⟨v194, rfl, ho0, hb⟩; refine ⟨_, rfl, ?_⟩; have n0_ := Aside0.mk (Kd.R_elder' (by (with_reducible repeat (first | apply Kd.R_alloc | apply Kd.R_drewN | apply Kd.R_drew)); exact HO187.out) (Kd.R_base ho0) hb); have n1_ := Aside0.mk (Kd.R_elder' (by (with_reducible repeat (first | apply Kd.R_alloc | apply Kd.R_drewN | apply Kd.R_drew)); exact HO191.out) (Kd.R_base ho0) hb); have n2_ := Aside0.mk (Kd.R_lower (Kd.R_new' (Kd.R_new' ho0 (Kd.R_lt (by (with_reducible repeat (first | apply Kd.R_alloc | apply Kd.R_drewN | apply Kd.R_drew)); exact HO187.out))) (Kd.R_lt (by (with_reducible repeat (first | apply Kd.R_alloc | apply Kd.R_drewN | apply Kd.R_drew)); exact HO191.out))) (below_size (by repeat (first | (with_reducible first | exact HB.out | apply below_alloc | apply pw_below_drewN | apply below_drew1 | refine below_set ?_ GE174.out) | exact HB.out)))); have n3_ := Aside0.mk (bb hb BK174.out); have n4_ := Aside0.mk (below_step (by repeat (first | (with_reducible first | exact HB.out | apply below_alloc | apply pw_below_drewN | apply below_drew1 | refine below_set ?_ GE174.out) | exact HB.out)) hb); clear HO187; clear HO191; clear BK174; clear HB; have HO187 := n0_; have HO191 := n1_; have HO195 := n2_; have BK174 := n3_; have HB := n4_; clear n0_ n1_ n2_ n3_ n4_; (try clear hb); (try clear hb2); (try clear hk); (try clear hi); (try clear ho0)))
                   go_ret
                   exact ⟨by first | rfl | (simp [errW_none, errW_some] <;> rfl) | (simp [*, errW_none, errW_some] <;> rfl), by repeat (first | (with_reducible first | exact HB.out | apply below_alloc | apply pw_below_drewN | apply below_drew1 | refine below_set ?_ GE174.out) | exact HB.out)⟩
                 ·rw [if_neg c137] at H
                  have c137b0 : (t192 == x9_39) = false := beq_eq_false_iff_ne.mpr c137
                  have c137b1 : (t192 != x9_39) = true := bne_iff_ne.mpr c137
                  obtain rfl := Option.some.inj H
                  have hcz154_0 : wc.cell? ⟨gb174, 0, none⟩ = some (.int .i64 a0_0) := (blk_cell BK174.out 0).trans rfl
                  have hcz154_1 : wc.cell? ⟨gb174, 1, none⟩ = some (.int .i64 a0_1) := (blk_cell BK174.out 1).trans rfl
                  have hcz154_2 : wc.cell? ⟨gb174, 2, none⟩ = some (.slice A0_2 l0_2.length c0_2) := (blk_cell BK174.out 2).trans rfl
                  have hfz154_0 := blk_frozen BK174.out 0
                  have hfz154_1 := blk_frozen BK174.out 1
                  have hfz154_2 := blk_frozen BK174.out 2
                  go_wp2_with (first | ((with_reducible refine gate_callee (f := 10) rfl ?_); refine goesL_ (some 59) rfl rfl Try.func10 (by kernel_rfl) rfl #[.agg #[.int .i64 a0_0, .int .i64 a0_1, .slice A0_2 l0_2.length c0_2], .slice A1 l1.length c1] rfl (by (try simp only [zm1, zm2, zm3]); first | done | rfl) ?_; (with_reducible refine (flow_Field.calls kj39 a0_0 a0_1 _ _ l0_2 _ _ l1 t185 t188 _ ?side1 ?side2 ?side3 ?side4 A42.out).mono ?_); (case side1 => repeat (first | exact (Kd.C_below HR0_2.out HB.out) | (with_reducible refine Kd.C_alloc ?_ _) | (with_reducible refine Kd.C_drewN ?_ _) | (with_reducible refine Kd.C_drew ?_))); (case side2 => exact HC0_2.out); (case side3 => repeat (first | exact (Kd.C_below HR1.out HB.out) | (with_reducible refine Kd.C_alloc ?_ _) | (with_reducible refine Kd.C_drewN ?_ _) | (with_reducible refine Kd.C_drew ?_))); (case side4 => exact HC1.out); rintro e w155 ⟨v186, rfl, ho0, hb⟩; refine ⟨_, rfl, ?_⟩; have n0_ := Aside0.mk (Kd.R_lower ho0 (below_size (by repeat (first | (with_reducible first | exact HB.out | apply below_alloc | apply pw_below_drewN | apply below_drew1 | refine below_set ?_ GE174.out) | exact HB.out)))); have n1_ := Aside0.mk (bb hb BK174.out); have n2_ := Aside0.mk (below_step (by repeat (first | (with_reducible first | exact HB.out | apply below_alloc | apply pw_below_drewN | apply below_drew1 | refine below_set ?_ GE174.out) | exact HB.out)) hb); clear BK174; clear HB; have HO187 := n0_; have BK174 := n1_; have HB := n2_; clear n0_ n1_ n2_; (try clear hb); (try clear hb2); (try clear hk); (try clear hi); (try clear ho0); have hcz156_0 : w155.cell? ⟨gb174, 0, none⟩ = some (.int .i64 a0_0) := (blk_cell BK174.out 0).trans rfl; have hcz156_1 : w155.cell? ⟨gb174, 1, none⟩ = some (.int .i64 a0_1) := (blk_cell BK174.out 1).trans rfl; have hcz156_2 : w155.cell? ⟨gb174, 2, none⟩ = some (.slice A0_2 l0_2.length c0_2) := (blk_cell BK174.out 2).trans rfl; have hfz156_0 := blk_frozen BK174.out 0; have hfz156_1 := blk_frozen BK174.out 1; have hfz156_2 := blk_frozen BK174.out 2) | ((with_reducible refine gate_callee (f := 22) rfl ?_); refine goesL_ (some 65) rfl rfl Try.func22 (by kernel_rfl) rfl #[.agg #[.int .i64 a0_0, .int .i64 a0_1, .slice A0_2 l0_2.length c0_2], .slice A1 l1.length c1] rfl (by (try simp only [zm1, zm2, zm3]); first | done | rfl) ?_; (with_reducible refine (flow_Ways.calls kj39 a0_0 a0_1 _ _ l0_2 _ _ l1 t189 t192 _ ?side1 ?side2 ?side3 ?side4 A43.out).mono ?_); (case side1 => repeat (first | exact (Kd.C_below HR0_2.out HB.out) | (with_reducible refine Kd.C_alloc ?_ _) | (with_reducible refine Kd.C_drewN ?_ _) | (with_reducible refine Kd.C_drew ?_))); (case side2 => exact HC0_2.out); (case side3 => repeat (first | exact (Kd.C_below HR1.out HB.out) | (with_reducible refine Kd.C_alloc ?_ _) | (with_reducible refine Kd.C_drewN ?_ _) | (with_reducible refine Kd.C_drew ?_))); (case side4 => exact HC1.out); rintro e w157 ⟨v190, rfl, ho0, hb⟩; refine ⟨_, rfl, ?_⟩; have n0_ := Aside0.mk (Kd.R_elder' (by (with_reducible repeat (first | apply Kd.R_alloc | apply Kd.R_drewN | apply Kd.R_drew)); exact HO187.out) (Kd.R_base ho0) hb); have n1_ := Aside0.mk (Kd.R_lower (Kd.R_new' ho0 (Kd.R_lt (by (with_reducible repeat (first | apply Kd.R_alloc | apply Kd.R_drewN | apply Kd.R_drew)); exact HO187.out))) (below_size (by repeat (first | (with_reducible first | exact HB.out | apply below_alloc | apply pw_below_drewN | apply below_drew1 | refine below_set ?_ GE174.out) | exact HB.out)))); have n2_ := Aside0.mk (bb hb BK174.out); have n3_ := Aside0.mk (below_step (by repeat (first | (with_reducible first | exact HB.out | apply below_alloc | apply pw_below_drewN | apply below_drew1 | refine below_set ?_ GE174.out) | exact HB.out)) hb); clear HO187; clear BK174; clear HB; have HO187 := n0_; have HO191 := n1_; have BK174 := n2_; have HB := n3_; clear n0_ n1_ n2_ n3_; (try clear hb); (try clear hb2); (try clear hk); (try clear hi); (try clear ho0); have hcz158_0 : w157.cell? ⟨gb174, 0, none⟩ = some (.int .i64 a0_0) := (blk_cell BK174.out 0).trans rfl; have hcz158_1 : w157.cell? ⟨gb174, 1, none⟩ = some (.int .i64 a0_1) := (blk_cell BK174.out 1).trans rfl; have hcz158_2 : w157.cell? ⟨gb174, 2, none⟩ = some (.slice A0_2 l0_2.length c0_2) := (blk_cell BK174.out 2).trans rfl; have hfz158_0 := blk_frozen BK174.out 0; have hfz158_1 := blk_frozen BK174.out 1; have hfz158_2 := blk_frozen BK174.out 2) | ((with_reducible refine gate_callee (f := 15) rfl ?_); refine goesL_ (some 72) rfl rfl Try.func15 (by kernel_rfl) rfl #[.agg #[.int .i64 a0_0, .int .i64 a0_1, .slice A0_2 l0_2.length c0_2], .slice A1 l1.length c1, .int .i64 a2] rfl (by (try simp only [zm1, zm2, zm3]); first | done | rfl) ?_; (with_reducible refine (flow_Walk.calls kj39 a0_0 a0_1 _ _ l0_2 _ _ l1 a2 t193 t196 _ ?side1 ?side2 ?side3 ?side4 A44.out).mono ?_); (case side1 => repeat (first | exact (Kd.C_below HR0_2.out HB.out) | (with_reducible refine Kd.C_alloc ?_ _) | (with_reducible refine Kd.C_drewN ?_ _) | (with_reducible refine Kd.C_drew ?_))); (case side2 => exact HC0_2.out); (case side3 => repeat (first | exact (Kd.C_below HR1.out HB.out) | (with_reducible refine Kd.C_alloc ?_ _) | (with_reducible refine Kd.C_drewN ?_ _) | (with_reducible refine Kd.C_drew ?_))); (case side4 => exact HC1.out); rintro e w159 ⟨v194, rfl, ho0, hb⟩; refine ⟨_, rfl, ?_⟩; have n0_ := Aside0.mk (Kd.R_elder' (by (with_reducible repeat (first | apply Kd.R_alloc | apply Kd.R_drewN | apply Kd.R_drew)); exact HO187.out) (Kd.R_base ho0) hb); have n1_ := Aside0.mk (Kd.R_elder' (by (with_reducible repeat (first | apply Kd.R_alloc | apply Kd.R_drewN | apply Kd.R_drew)); exact HO191.out) (Kd.R_base ho0) hb); have n2_ := Aside0.mk (Kd.R_lower (Kd.R_new' (Kd.R_new' ho0 (Kd.R_lt (by (with_reducible repeat (first | apply Kd.R_alloc | apply Kd.R_drewN | apply Kd.R_drew)); exact HO187.out))) (Kd.R_lt (by (with_reducible repeat (first | apply Kd.R_alloc | apply Kd.R_drewN | apply Kd.R_drew)); exact HO191.out))) (below_size (by repeat (first | (with_reducible first | exact HB.out | apply below_alloc | apply pw_below_drewN | apply below_drew1 | refine below_set ?_ GE174.out) | exact HB.out)))); have n3_ := Aside0.mk (bb hb BK174.out); have n4_ := Aside0.mk (below_step (by repeat (first | (with_reducible first | exact HB.out | apply below_alloc | apply pw_below_drewN | apply below_drew1 | refine below_set ?_ GE174.out) | exact HB.out)) hb); clear HO187; clear HO191; clear BK174; clear HB; have HO187 := n0_; have HO191 := n1_; have HO195 := n2_; have BK174 := n3_; have HB := n4_; clear n0_ n1_ n2_ n3_ n4_; (try clear hb); (try clear hb2); (try clear hk); (try clear hi); (try clear ho0)))
                  go_ret
                  exact ⟨by first | rfl | (simp [errW_none, errW_some] <;> rfl) | (simp [*, errW_none, errW_some] <;> rfl), by repeat (first | (with_reducible first | exact HB.out | apply below_alloc | apply pw_below_drewN | apply below_drew1 | refine below_set ?_ GE174.out) | exact HB.out)⟩
                ·rw [if_neg c136] at H
                 have c136b0 : (t188 == x9_39) = false := beq_eq_false_iff_ne.mpr c136
                 have c136b1 : (t188 != x9_39) = true := bne_iff_ne.mpr c136
                 obtain rfl := Option.some.inj H
                 have hcz160_0 : wc.cell? ⟨gb174, 0, none⟩ = some (.int .i64 a0_0) := (blk_cell BK174.out 0).trans rfl
                 have hcz160_1 : wc.cell? ⟨gb174, 1, none⟩ = some (.int .i64 a0_1) := (blk_cell BK174.out 1).trans rfl
                 have hcz160_2 : wc.cell? ⟨gb174, 2, none⟩ = some (.slice A0_2 l0_2.length c0_2) := (blk_cell BK174.out 2).trans rfl
                 have hfz160_0 := blk_frozen BK174.out 0
                 have hfz160_1 := blk_frozen BK174.out 1
                 have hfz160_2 := blk_frozen BK174.out 2
                 go_wp2_with (first | ((with_reducible refine gate_callee (f := 10) rfl ?_); refine goesL_ (some 59) rfl rfl Try.func10 (by kernel_rfl) rfl #[.agg #[.int .i64 a0_0, .int .i64 a0_1, .slice A0_2 l0_2.length c0_2], .slice A1 l1.length c1] rfl (by (try simp only [zm1, zm2, zm3]); first | done | rfl) ?_; (with_reducible refine (flow_Field.calls kj39 a0_0 a0_1 _ _ l0_2 _ _ l1 t185 t188 _ ?side1 ?side2 ?side3 ?side4 A42.out).mono ?_); (case side1 => repeat (first | exact (Kd.C_below HR0_2.out HB.out) | (with_reducible refine Kd.C_alloc ?_ _) | (with_reducible refine Kd.C_drewN ?_ _) | (with_reducible refine Kd.C_drew ?_))); (case side2 => exact HC0_2.out); (case side3 => repeat (first | exact (Kd.C_below HR1.out HB.out) | (with_reducible refine Kd.C_alloc ?_ _) | (with_reducible refine Kd.C_drewN ?_ _) | (with_reducible refine Kd.C_drew ?_))); (case side4 => exact HC1.out); rintro e w161 ⟨v186, rfl, ho0, hb⟩; refine ⟨_, rfl, ?_⟩; have n0_ := Aside0.mk (Kd.R_lower ho0 (below_size (by repeat (first | (with_reducible first | exact HB.out | apply below_alloc | apply pw_below_drewN | apply below_drew1 | refine below_set ?_ GE174.out) | exact HB.out)))); have n1_ := Aside0.mk (bb hb BK174.out); have n2_ := Aside0.mk (below_step (by repeat (first | (with_reducible first | exact HB.out | apply below_alloc | apply pw_below_drewN | apply below_drew1 | refine below_set ?_ GE174.out) | exact HB.out)) hb); clear BK174; clear HB; have HO187 := n0_; have BK174 := n1_; have HB := n2_; clear n0_ n1_ n2_; (try clear hb); (try clear hb2); (try clear hk); (try clear hi); (try clear ho0); have hcz162_0 : w161.cell? ⟨gb174, 0, none⟩ = some (.int .i64 a0_0) := (blk_cell BK174.out 0).trans rfl; have hcz162_1 : w161.cell? ⟨gb174, 1, none⟩ = some (.int .i64 a0_1) := (blk_cell BK174.out 1).trans rfl; have hcz162_2 : w161.cell? ⟨gb174, 2, none⟩ = some (.slice A0_2 l0_2.length c0_2) := (blk_cell BK174.out 2).trans rfl; have hfz162_0 := blk_frozen BK174.out 0; have hfz162_1 := blk_frozen BK174.out 1; have hfz162_2 := blk_frozen BK174.out 2) | ((with_reducible refine gate_callee (f := 22) rfl ?_); refine goesL_ (some 65) rfl rfl Try.func22 (by kernel_rfl) rfl #[.agg #[.int .i64 a0_0, .int .i64 a0_1, .slice A0_2 l0_2.length c0_2], .slice A1 l1.length c1] rfl (by (try simp only [zm1, zm2, zm3]); first | done | rfl) ?_; (with_reducible refine (flow_Ways.calls kj39 a0_0 a0_1 _ _ l0_2 _ _ l1 t189 t192 _ ?side1 ?side2 ?side3 ?side4 A43.out).mono ?_); (case side1 => repeat (first | exact (Kd.C_below HR0_2.out HB.out) | (with_reducible refine Kd.C_alloc ?_ _) | (with_reducible refine Kd.C_drewN ?_ _) | (with_reducible refine Kd.C_drew ?_))); (case side2 => exact HC0_2.out); (case side3 => repeat (first | exact (Kd.C_below HR1.out HB.out) | (with_reducible refine Kd.C_alloc ?_ _) | (with_reducible refine Kd.C_drewN ?_ _) | (with_reducible refine Kd.C_drew ?_))); (case side4 => exact HC1.out); rintro e w163 ⟨v190, rfl, ho0, hb⟩; refine ⟨_, rfl, ?_⟩; have n0_ := Aside0.mk (Kd.R_elder' (by (with_reducible repeat (first | apply Kd.R_alloc | apply Kd.R_drewN | apply Kd.R_drew)); exact HO187.out) (Kd.R_base ho0) hb); have n1_ := Aside0.mk (Kd.R_lower (Kd.R_new' ho0 (Kd.R_lt (by (with_reducible repeat (first | apply Kd.R_alloc | apply Kd.R_drewN | apply Kd.R_drew)); exact HO187.out))) (below_size (by repeat (first | (with_reducible first | exact HB.out | apply below_alloc | apply pw_below_drewN | apply below_drew1 | refine below_set ?_ GE174.out) | exact HB.out)))); have n2_ := Aside0.mk (bb hb BK174.out); have n3_ := Aside0.mk (below_step (by repeat (first | (with_reducible first | exact HB.out | apply below_alloc | apply pw_below_drewN | apply below_drew1 | refine below_set ?_ GE174.out) | exact HB.out)) hb); clear HO187; clear BK174; clear HB; have HO187 := n0_; have HO191 := n1_; have BK174 := n2_; have HB := n3_; clear n0_ n1_ n2_ n3_; (try clear hb); (try clear hb2); (try clear hk); (try clear hi); (try clear ho0); have hcz164_0 : w163.cell? ⟨gb174, 0, none⟩ = some (.int .i64 a0_0) := (blk_cell BK174.out 0).trans rfl; have hcz164_1 : w163.cell? ⟨gb174, 1, none⟩ = some (.int .i64 a0_1) := (blk_cell BK174.out 1).trans rfl; have hcz164_2 : w163.cell? ⟨gb174, 2, none⟩ = some (.slice A0_2 l0_2.length c0_2) := (blk_cell BK174.out 2).trans rfl; have hfz164_0 := blk_frozen BK174.out 0; have hfz164_1 := blk_frozen BK174.out 1; have hfz164_2 := blk_frozen BK174.out 2) | ((with_reducible refine gate_callee (f := 15) rfl ?_); refine goesL_ (some 72) rfl rfl Try.func15 (by kernel_rfl) rfl #[.agg #[.int .i64 a0_0, .int .i64 a0_1, .slice A0_2 l0_2.length c0_2], .slice A1 l1.length c1, .int .i64 a2] rfl (by (try simp only [zm1, zm2, zm3]); first | done | rfl) ?_; (with_reducible refine (flow_Walk.calls kj39 a0_0 a0_1 _ _ l0_2 _ _ l1 a2 t193 t196 _ ?side1 ?side2 ?side3 ?side4 A44.out).mono ?_); (case side1 => repeat (first | exact (Kd.C_below HR0_2.out HB.out) | (with_reducible refine Kd.C_alloc ?_ _) | (with_reducible refine Kd.C_drewN ?_ _) | (with_reducible refine Kd.C_drew ?_))); (case side2 => exact HC0_2.out); (case side3 => repeat (first | exact (Kd.C_below HR1.out HB.out) | (with_reducible refine Kd.C_alloc ?_ _) | (with_reducible refine Kd.C_drewN ?_ _) | (with_reducible refine Kd.C_drew ?_))); (case side4 => exact HC1.out); rintro e w165 ⟨v194, rfl, ho0, hb⟩; refine ⟨_, rfl, ?_⟩; have n0_ := Aside0.mk (Kd.R_elder' (by (with_reducible repeat (first | apply Kd.R_alloc | apply Kd.R_drewN | apply Kd.R_drew)); exact HO187.out) (Kd.R_base ho0) hb); have n1_ := Aside0.mk (Kd.R_elder' (by (with_reducible repeat (first | apply Kd.R_alloc | apply Kd.R_drewN | apply Kd.R_drew)); exact HO191.out) (Kd.R_base ho0) hb); have n2_ := Aside0.mk (Kd.R_lower (Kd.R_new' (Kd.R_new' ho0 (Kd.R_lt (by (with_reducible repeat (first | apply Kd.R_alloc | apply Kd.R_drewN | apply Kd.R_drew)); exact HO187.out))) (Kd.R_lt (by (with_reducible repeat (first | apply Kd.R_alloc | apply Kd.R_drewN | apply Kd.R_drew)); exact HO191.out))) (below_size (by repeat (first | (with_reducible first | exact HB.out | apply below_alloc | apply pw_below_drewN | apply below_drew1 | refine below_set ?_ GE174.out) | exact HB.out)))); have n3_ := Aside0.mk (bb hb BK174.out); have n4_ := Aside0.mk (below_step (by repeat (first | (with_reducible first | exact HB.out | apply below_alloc | apply pw_below_drewN | apply below_drew1 | refine below_set ?_ GE174.out) | exact HB.out)) hb); clear HO187; clear HO191; clear BK174; clear HB; have HO187 := n0_; have HO191 := n1_; have HO195 := n2_; have BK174 := n3_; have HB := n4_; clear n0_ n1_ n2_ n3_ n4_; (try clear hb); (try clear hb2); (try clear hk); (try clear hi); (try clear ho0)))
                 go_ret
                 exact ⟨by first | rfl | (simp [errW_none, errW_some] <;> rfl) | (simp [*, errW_none, errW_some] <;> rfl), by repeat (first | (with_reducible first | exact HB.out | apply below_alloc | apply pw_below_drewN | apply below_drew1 | refine below_set ?_ GE174.out) | exact HB.out)⟩
             exact aux4
          exact aux3
      exact aux2
  exact aux1

end Go.Proofs.Ytmpfboilodlfnaa.PFlowMade
