-- Printed by a program: the print with changes of this session (wip/printpatch.py).
import Derived.Test.YtdopeneehminaaaPSteerTellsx0
import Derived.Test.YtdopeneehminaaaPSteerTellsx1
import Derived.Test.YtdopeneehminaaaPSteerTellsx2
import Derived.Test.YtdopeneehminaaaPSteerTellsx3
import Derived.Test.YtdopeneehminaaaPSteerTellsx5
import Derived.Test.YtdopeneehminaaaPSteerTellsx6
import Derived.Test.YtdopeneehminaaaPSteerTellsx7
import Derived.Test.YtdopeneehminaaaPSteerTellsx8
import Derived.Test.YtdopeneehminaaaPSteerTellsx9
import Derived.Test.YtdopeneehminaaaPSteerTellsx11
import Derived.Test.YtdopeneehminaaaPSteerTellsx12
import Derived.Test.YtdopeneehminaaaCalm
import Derived.Test.YtdopeneehminaaaPSteerTellsx13
namespace Go.Proofs.Ytdopeneehminaaa.PSteerTells
open Go.Proofs.Ytdopeneehminaaa.Fnv Go.Proofs.Ytdopeneehminaaa.Ary Go.Proofs.Ytdopeneehminaaa.Ext
open Go.RowKit Go.Proofs.YtdopeneehminaaaW.PrintWords Go.Proofs.YtdopeneehminaaaW.PrintLast Go.Proofs.YtdopeneehminaaaW.PrintMore
attribute [local go_sem] max2_int min2_int max_two min_two max_three min_three max_four min_four   -- for this text's walks alone
set_option linter.unusedVariables false
set_option linter.unusedSimpArgs false

attribute [local go_sem high] eqA27 eqA29
set_option maxHeartbeats 8000000 in
set_option maxRecDepth 100000 in
theorem tourlaw5_SteerTells.calls (k : Nat) (a0_0 : Int) (a0_1 : Int) (a0_2 : Int) (a0_3 : Int) (a0_4 : Int) (a0_5 : Int) (a1_0 : Int) (a1_1 : Int) (a2 : Int) (a3 : Int) (r : Bool) (w : World) (h : tourlaw5_SteerTells.f k a0_0 a0_1 a0_2 a0_3 a0_4 a0_5 a1_0 a1_1 a2 a3 = some r) :
  Calls Try.prog 4 #[.agg #[.int .i64 a0_0, .int .i64 a0_1, .int .i64 a0_2, .int .i64 a0_3, .int .i64 a0_4, .int .i64 a0_5], .agg #[.int .i64 a1_0, .int .i64 a1_1], .int .i64 a2, .int .i64 a3] w fun e w' => e = .returned (.bool r) ∧ Below w.heap.size w w' := by
 have hu29 := Try.underlying29
 have hu27 := Try.underlying27
 have HB := Aside0.mk (Below.refl w.heap.size w)
 have H : ((steer_Seek.f k 0 0 0 0 65536 65536 589824 0).bind fun bt281 => (if bt281.2.2.2.2.2.2 = 0 then (tourlaw5_SteerTells.j0 k a2 a3 (!(bt281.1 == 65536) || (!(bt281.2.1 == 0))) a0_0 a0_1 a0_2 a0_3 a0_4 a0_5 a1_0 a1_1) else (tourlaw5_SteerTells.j0 k a2 a3 true a0_0 a0_1 a0_2 a0_3 a0_4 a0_5 a1_0 a1_1))) = some r := h
 clear h
 replace H := Option.bind_eq_some_iff.mp H
 obtain ⟨⟨t281, t282, t283, t284, t285, t286, t287⟩, A50, H⟩ := H
 replace H : (if t287 = 0 then (tourlaw5_SteerTells.j0 k a2 a3 (!(t281 == 65536) || (!(t282 == 0))) a0_0 a0_1 a0_2 a0_3 a0_4 a0_5 a1_0 a1_1) else (tourlaw5_SteerTells.j0 k a2 a3 true a0_0 a0_1 a0_2 a0_3 a0_4 a0_5 a1_0 a1_1)) = some r := H
 have A5 := Aside0.mk A50
 clear A50
 have HC6 := Aside0.mk H
 clear H
 go_enter Try.func4, Try.ntmps4
 go_upto_region 2 with (first | ((with_reducible refine gate_dst (N := 4) rfl ?_); refine box_event ?hg (N := 4) ?hd (cs := #[.int .i64 a0_0, .int .i64 a0_1, .int .i64 a0_2, .int .i64 a0_3, .int .i64 a0_4, .int .i64 a0_5]) (t := 29) ?hr ?_; (case hd => rfl); (case hg => rfl); (case hr => first | (go_simp; done) | (go_simp; rfl)); intro gb279 hg w7 hbox hb; have n0_ := Aside0.mk (below_step (by repeat (first | (with_reducible first | exact HB.out | apply below_alloc | apply pw_below_drewN | apply below_drew1) | exact HB.out)) hb); have n1_ := Aside0.mk (hbox); have n2_ := Aside0.mk ((by rw [hg]; exact (below_size (by repeat (first | (with_reducible first | exact HB.out | apply below_alloc | apply pw_below_drewN | apply below_drew1) | exact HB.out))) : w.heap.size ≤ gb279)); have n3_ := Aside0.mk ((by rw [hg]; exact (below_size (by repeat (first | (with_reducible first | exact HB.out | apply below_alloc | apply pw_below_drewN | apply below_drew1) | exact HB.out))) : w.heap.size ≤ gb279)); clear HB; have HB := n0_; have BK279 := n1_; have GW279 := n2_; have GE279 := n3_; clear n0_ n1_ n2_ n3_; clear hb hbox hg) | ((with_reducible refine gate_dst (N := 5) rfl ?_); refine box_event ?hg (N := 5) ?hd (cs := #[.int .i64 a1_0, .int .i64 a1_1]) (t := 27) ?hr ?_; (case hd => rfl); (case hg => rfl); (case hr => first | (go_simp; done) | (go_simp; rfl)); intro gb280 hg w8 hbox hb; have n0_ := Aside0.mk (bb hb BK279.out); have n1_ := Aside0.mk (below_step (by repeat (first | (with_reducible first | exact HB.out | apply below_alloc | apply pw_below_drewN | apply below_drew1 | refine below_set ?_ GE279.out) | exact HB.out)) hb); have n2_ := Aside0.mk (hbox); have n3_ := Aside0.mk ((by rw [hg]; exact (below_size (by repeat (first | (with_reducible first | exact HB.out | apply below_alloc | apply pw_below_drewN | apply below_drew1 | refine below_set ?_ GE279.out) | exact HB.out))) : w.heap.size ≤ gb280)); have n4_ := Aside0.mk ((by rw [hg]; exact (below_size (by repeat (first | (with_reducible first | exact HB.out | apply below_alloc | apply pw_below_drewN | apply below_drew1 | refine below_set ?_ GE279.out) | exact HB.out))) : w.heap.size ≤ gb280)); have n5_ := Aside0.mk (nl hg BK279.out); have n6_ := Aside0.mk (ng hg BK279.out); clear BK279; clear HB; have BK279 := n0_; have HB := n1_; have BK280 := n2_; have GW280 := n3_; have GE280 := n4_; have NB279_280 := n5_; have NB280_279 := n6_; clear n0_ n1_ n2_ n3_ n4_ n5_ n6_; clear hb hbox hg) | ((with_reducible refine gate_callee (f := 20) rfl ?_); refine goesL_ (some 24) rfl rfl Try.func20 (by kernel_rfl) rfl #[.agg #[.int .i64 0, .int .i64 0, .int .i64 0, .int .i64 0, .int .i64 65536, .int .i64 65536], .agg #[.int .i64 589824, .int .i64 0]] rfl (by (try simp only [zm1, zm2, zm3]); first | done | rfl) ?_; (with_reducible refine (steer_Seek.calls k 0 0 0 0 65536 65536 589824 0 t281 t282 t283 t284 t285 t286 t287 _ A5.out).mono ?_); rintro e w9 ⟨rfl, hb⟩; refine ⟨_, rfl, ?_⟩; have n0_ := Aside0.mk (bb hb BK279.out); have n1_ := Aside0.mk (bb hb BK280.out); have n2_ := Aside0.mk (below_step (by repeat (first | (with_reducible first | exact HB.out | apply below_alloc | apply pw_below_drewN | apply below_drew1 | refine below_set ?_ GE279.out | refine below_set ?_ GE280.out) | exact HB.out)) hb); clear BK279; clear BK280; clear HB; have BK279 := n0_; have BK280 := n1_; have HB := n2_; clear n0_ n1_ n2_; (try clear hb); (try clear hb2); (try clear hk); (try clear hi)) | ((with_reducible refine gate_dst (N := 9) rfl ?_); refine box_event ?hg (N := 9) ?hd (cs := #[.int .i64 0, .int .i64 0, .int .i64 0, .int .i64 0, .int .i64 0, .int .i64 0]) (t := 29) ?hr ?_; (case hd => rfl); (case hg => rfl); (case hr => first | (go_simp; done) | (go_simp; rfl)); intro gb288 hg w10 hbox hb; have n0_ := Aside0.mk (bb hb BK279.out); have n1_ := Aside0.mk (bb hb BK280.out); have n2_ := Aside0.mk (below_step (by repeat (first | (with_reducible first | exact HB.out | apply below_alloc | apply pw_below_drewN | apply below_drew1 | refine below_set ?_ GE279.out | refine below_set ?_ GE280.out) | exact HB.out)) hb); have n3_ := Aside0.mk (hbox); have n4_ := Aside0.mk ((by rw [hg]; exact (below_size (by repeat (first | (with_reducible first | exact HB.out | apply below_alloc | apply pw_below_drewN | apply below_drew1 | refine below_set ?_ GE279.out | refine below_set ?_ GE280.out) | exact HB.out))) : w.heap.size ≤ gb288)); have n5_ := Aside0.mk ((by rw [hg]; exact (below_size (by repeat (first | (with_reducible first | exact HB.out | apply below_alloc | apply pw_below_drewN | apply below_drew1 | refine below_set ?_ GE279.out | refine below_set ?_ GE280.out) | exact HB.out))) : w.heap.size ≤ gb288)); have n6_ := Aside0.mk (nl hg BK279.out); have n7_ := Aside0.mk (ng hg BK279.out); have n8_ := Aside0.mk (nl hg BK280.out); have n9_ := Aside0.mk (ng hg BK280.out); clear BK279; clear BK280; clear HB; have BK279 := n0_; have BK280 := n1_; have HB := n2_; have BK288 := n3_; have GW288 := n4_; have GE288 := n5_; have NB279_288 := n6_; have NB288_279 := n7_; have NB280_288 := n8_; have NB288_280 := n9_; clear n0_ n1_ n2_ n3_ n4_ n5_ n6_ n7_ n8_ n9_; clear hb hbox hg; have hnb11 := NB288_279.out; have hnc11 := NB279_288.out; have hnb12 := NB288_280.out; have hnc12 := NB280_288.out; obtain ⟨hcz13_0, hcz13_1, hcz13_2, hcz13_3, hcz13_4, hcz13_5⟩ := blk6 BK288.out; obtain ⟨hfz13_0, hfz13_1, hfz13_2, hfz13_3, hfz13_4, hfz13_5⟩ := frz6 BK288.out))
 (try simp only [Act.put, zq1, zq2, zq3])
 go_cut [34] (fun v34 wc => ∃ (kq : Nat) (x34_5 : Bool), v34 = .bool x34_5 ∧ Aside0 (tourlaw5_SteerTells.j0 kq a2 a3 x34_5 a0_0 a0_1 a0_2 a0_3 a0_4 a0_5 a1_0 a1_1 = some r) ∧ Aside0 (kq ≤ k) ∧ Aside0 (wc.heap[gb279]? = some (.cells #[.int .i64 a0_0, .int .i64 a0_1, .int .i64 a0_2, .int .i64 a0_3, .int .i64 a0_4, .int .i64 a0_5] 29 (0, 0))) ∧ Aside0 (wc.heap[gb280]? = some (.cells #[.int .i64 a1_0, .int .i64 a1_1] 27 (0, 0))) ∧ Aside0 (wc.heap[gb288]? = some (.cells #[.int .i64 t281, .int .i64 t282, .int .i64 t283, .int .i64 t284, .int .i64 t285, .int .i64 t286] 29 (0, 0))) ∧ Aside0 (Below w.heap.size w wc))
 case first =>
  have H := HC6.out
  clear HC6
  by_cases c14 : t287 = 0
  ·rw [if_pos c14] at H
   have c14b0 : (t287 == 0) = true := beq_iff_eq.mpr c14
   have c14b1 : (t287 != 0) = false := bne_eq_false_iff_eq.mpr c14
   clear c14
   (first | rw [c14b0] | (simp only [i64_w, i32_w]; rw [c14b0]) | skip)
   have H' := Aside0.mk H
   clear H
   have hnb15 := NB288_279.out
   have hnc15 := NB279_288.out
   have hnb16 := NB288_280.out
   have hnc16 := NB280_288.out
   obtain ⟨hcz17_0, hcz17_1, hcz17_2, hcz17_3, hcz17_4, hcz17_5⟩ := blk6 BK288.out
   obtain ⟨hfz17_0, hfz17_1, hfz17_2, hfz17_3, hfz17_4, hfz17_5⟩ := frz6 BK288.out
   go_wp2
   go_meet
   case rel => exact ⟨_, ((!(t281 == 65536) || (!(t282 == 0)))), (by first | rfl | (simp; done) | (simp [*]; done)), H', ⟨by first | omega | exact Nat.le_refl _⟩, ⟨by (with_reducible repeat (first | refine blk_drewN ?_ _ | refine blk_drew ?_ | refine blk_alloc ?_ _)); refine blk_far ?_ NB279_288.out _; refine blk_far ?_ NB279_288.out _; refine blk_far ?_ NB279_288.out _; refine blk_far ?_ NB279_288.out _; refine blk_far ?_ NB279_288.out _; refine blk_far ?_ NB279_288.out _; exact BK279.out⟩, ⟨by (with_reducible repeat (first | refine blk_drewN ?_ _ | refine blk_drew ?_ | refine blk_alloc ?_ _)); refine blk_far ?_ NB280_288.out _; refine blk_far ?_ NB280_288.out _; refine blk_far ?_ NB280_288.out _; refine blk_far ?_ NB280_288.out _; refine blk_far ?_ NB280_288.out _; refine blk_far ?_ NB280_288.out _; exact BK280.out⟩, ⟨by (with_reducible repeat (first | refine blk_drewN ?_ _ | refine blk_drew ?_ | refine blk_alloc ?_ _)); refine blk_put (cs := #[.int .i64 t281, .int .i64 t282, .int .i64 t283, .int .i64 t284, .int .i64 t285, .int .i64 0]) ?_ 5 _ rfl; refine blk_put (cs := #[.int .i64 t281, .int .i64 t282, .int .i64 t283, .int .i64 t284, .int .i64 0, .int .i64 0]) ?_ 4 _ rfl; refine blk_put (cs := #[.int .i64 t281, .int .i64 t282, .int .i64 t283, .int .i64 0, .int .i64 0, .int .i64 0]) ?_ 3 _ rfl; refine blk_put (cs := #[.int .i64 t281, .int .i64 t282, .int .i64 0, .int .i64 0, .int .i64 0, .int .i64 0]) ?_ 2 _ rfl; refine blk_put (cs := #[.int .i64 t281, .int .i64 0, .int .i64 0, .int .i64 0, .int .i64 0, .int .i64 0]) ?_ 1 _ rfl; refine blk_put (cs := #[.int .i64 0, .int .i64 0, .int .i64 0, .int .i64 0, .int .i64 0, .int .i64 0]) ?_ 0 _ rfl; exact BK288.out⟩, ⟨by repeat (first | (with_reducible first | exact HB.out | apply below_alloc | apply pw_below_drewN | apply below_drew1 | refine below_set ?_ GE279.out | refine below_set ?_ GE280.out | refine below_set ?_ GE288.out) | exact HB.out)⟩⟩
  ·rw [if_neg c14] at H
   have c14b0 : (t287 == 0) = false := beq_eq_false_iff_ne.mpr c14
   have c14b1 : (t287 != 0) = true := bne_iff_ne.mpr c14
   (first | rw [c14b0] | (simp only [i64_w, i32_w]; rw [c14b0]) | skip)
   have H' := Aside0.mk H
   clear H
   go_wp2
   go_meet
   case rel => exact ⟨_, (true), (by first | rfl | (simp; done) | (simp [*]; done)), H', ⟨by first | omega | exact Nat.le_refl _⟩, ⟨by (with_reducible repeat (first | refine blk_drewN ?_ _ | refine blk_drew ?_ | refine blk_alloc ?_ _)); refine blk_far ?_ NB279_288.out _; refine blk_far ?_ NB279_288.out _; refine blk_far ?_ NB279_288.out _; refine blk_far ?_ NB279_288.out _; refine blk_far ?_ NB279_288.out _; refine blk_far ?_ NB279_288.out _; exact BK279.out⟩, ⟨by (with_reducible repeat (first | refine blk_drewN ?_ _ | refine blk_drew ?_ | refine blk_alloc ?_ _)); refine blk_far ?_ NB280_288.out _; refine blk_far ?_ NB280_288.out _; refine blk_far ?_ NB280_288.out _; refine blk_far ?_ NB280_288.out _; refine blk_far ?_ NB280_288.out _; refine blk_far ?_ NB280_288.out _; exact BK280.out⟩, ⟨by (with_reducible repeat (first | refine blk_drewN ?_ _ | refine blk_drew ?_ | refine blk_alloc ?_ _)); refine blk_put (cs := #[.int .i64 t281, .int .i64 t282, .int .i64 t283, .int .i64 t284, .int .i64 t285, .int .i64 0]) ?_ 5 _ rfl; refine blk_put (cs := #[.int .i64 t281, .int .i64 t282, .int .i64 t283, .int .i64 t284, .int .i64 0, .int .i64 0]) ?_ 4 _ rfl; refine blk_put (cs := #[.int .i64 t281, .int .i64 t282, .int .i64 t283, .int .i64 0, .int .i64 0, .int .i64 0]) ?_ 3 _ rfl; refine blk_put (cs := #[.int .i64 t281, .int .i64 t282, .int .i64 0, .int .i64 0, .int .i64 0, .int .i64 0]) ?_ 2 _ rfl; refine blk_put (cs := #[.int .i64 t281, .int .i64 0, .int .i64 0, .int .i64 0, .int .i64 0, .int .i64 0]) ?_ 1 _ rfl; refine blk_put (cs := #[.int .i64 0, .int .i64 0, .int .i64 0, .int .i64 0, .int .i64 0, .int .i64 0]) ?_ 0 _ rfl; exact BK288.out⟩, ⟨by repeat (first | (with_reducible first | exact HB.out | apply below_alloc | apply pw_below_drewN | apply below_drew1 | refine below_set ?_ GE279.out | refine below_set ?_ GE280.out | refine below_set ?_ GE288.out) | exact HB.out)⟩⟩
 case rest =>
  refine @idd ?P1 ?_
  let rec aux1 : ?P1 := by
   clear HC6
   try clear c1; try clear c2; try clear p2; try clear c4; try clear c11; try clear c12; try clear c14; try clear c14b0
   try clear c14b1; try clear c15; try clear c16; try clear hcz13_0; try clear hcz13_1; try clear hcz13_2; try clear hcz13_3; try clear hcz13_4
   try clear hcz13_5; try clear hcz17_0; try clear hcz17_1; try clear hcz17_2; try clear hcz17_3; try clear hcz17_4; try clear hcz17_5; try clear hfz13_0
   try clear hfz13_1; try clear hfz13_2; try clear hfz13_3; try clear hfz13_4; try clear hfz13_5; try clear hfz17_0; try clear hfz17_1; try clear hfz17_2
   try clear hfz17_3; try clear hfz17_4; try clear hfz17_5
   obtain ⟨kq, x34_5, rfl, HA, HJ5, BK279, BK280, BK288, HB⟩ := hcut
   cases kq with
   | zero => exact absurd HA.out (by simp [tourlaw5_SteerTells.j0])
   | succ kj5 =>
    have H := HA.out
    clear HA
    simp only [tourlaw5_SteerTells.j0] at H
    by_cases c18 : x34_5 = true
    ·subst c18
     have H1 : (none) = some r := by rw [if_pos rfl] at H; exact H
     clear H
     have H := H1
     clear H1
     exact absurd H (by simp)
    ·replace c18 := Bool.eq_false_iff.mpr c18
     subst c18
     have H1 : ((tourref5_MoverFault.f kj5 a0_0 a0_1 a0_2 a0_3 a0_4 a0_5).bind fun t289 => ((steer_Seek.f kj5 a0_0 a0_1 a0_2 a0_3 a0_4 a0_5 a1_0 a1_1).bind fun bt290 => ((steer_Flee.f kj5 a0_0 a0_1 a0_2 a0_3 a0_4 a0_5 a1_0 a1_1).bind fun bt298 => ((steer_Arrive.f kj5 a0_0 a0_1 a0_2 a0_3 a0_4 a0_5 a1_0 a1_1 a2).bind fun bt306 => ((steer_Check.f kj5 a0_0 a0_1 a0_2 a0_3 a0_4 a0_5).bind fun t314 => (if t314 = t289 then ((steer_Short.f kj5 a1_0 a1_1 a3).bind fun bt315 => ((tourref5_Cut.f kj5 a1_0 a1_1 a3).bind fun bt317 => (tourlaw5_SteerTells.j1 kj5 a2 t289 bt290.2.2.2.2.2.2 bt298.2.2.2.2.2.2 bt306.2.2.2.2.2.2 (!(bt315.1 == bt317.1) || (!(bt315.2 == bt317.2))) a0_0 a0_1 a0_2 a0_3 a0_4 a0_5 a1_0 a1_1 bt290.1 bt290.2.1 bt290.2.2.1 bt290.2.2.2.1 bt290.2.2.2.2.1 bt290.2.2.2.2.2.1 bt298.1 bt298.2.1 bt298.2.2.1 bt298.2.2.2.1 bt298.2.2.2.2.1 bt298.2.2.2.2.2.1 bt306.1 bt306.2.1 bt306.2.2.1 bt306.2.2.2.1 bt306.2.2.2.2.1 bt306.2.2.2.2.2.1))) else (tourlaw5_SteerTells.j1 kj5 a2 t289 bt290.2.2.2.2.2.2 bt298.2.2.2.2.2.2 bt306.2.2.2.2.2.2 true a0_0 a0_1 a0_2 a0_3 a0_4 a0_5 a1_0 a1_1 bt290.1 bt290.2.1 bt290.2.2.1 bt290.2.2.2.1 bt290.2.2.2.2.1 bt290.2.2.2.2.2.1 bt298.1 bt298.2.1 bt298.2.2.1 bt298.2.2.2.1 bt298.2.2.2.2.1 bt298.2.2.2.2.2.1 bt306.1 bt306.2.1 bt306.2.2.1 bt306.2.2.2.1 bt306.2.2.2.2.1 bt306.2.2.2.2.2.1))))))) = some r := by rw [if_neg (show ¬ (false = true) by decide)] at H; exact H
     clear H
     have H := H1
     clear H1
     replace H := Option.bind_eq_some_iff.mp H
     obtain ⟨t289, A190, H⟩ := H
     replace H : ((steer_Seek.f kj5 a0_0 a0_1 a0_2 a0_3 a0_4 a0_5 a1_0 a1_1).bind fun bt290 => ((steer_Flee.f kj5 a0_0 a0_1 a0_2 a0_3 a0_4 a0_5 a1_0 a1_1).bind fun bt298 => ((steer_Arrive.f kj5 a0_0 a0_1 a0_2 a0_3 a0_4 a0_5 a1_0 a1_1 a2).bind fun bt306 => ((steer_Check.f kj5 a0_0 a0_1 a0_2 a0_3 a0_4 a0_5).bind fun t314 => (if t314 = t289 then ((steer_Short.f kj5 a1_0 a1_1 a3).bind fun bt315 => ((tourref5_Cut.f kj5 a1_0 a1_1 a3).bind fun bt317 => (tourlaw5_SteerTells.j1 kj5 a2 t289 bt290.2.2.2.2.2.2 bt298.2.2.2.2.2.2 bt306.2.2.2.2.2.2 (!(bt315.1 == bt317.1) || (!(bt315.2 == bt317.2))) a0_0 a0_1 a0_2 a0_3 a0_4 a0_5 a1_0 a1_1 bt290.1 bt290.2.1 bt290.2.2.1 bt290.2.2.2.1 bt290.2.2.2.2.1 bt290.2.2.2.2.2.1 bt298.1 bt298.2.1 bt298.2.2.1 bt298.2.2.2.1 bt298.2.2.2.2.1 bt298.2.2.2.2.2.1 bt306.1 bt306.2.1 bt306.2.2.1 bt306.2.2.2.1 bt306.2.2.2.2.1 bt306.2.2.2.2.2.1))) else (tourlaw5_SteerTells.j1 kj5 a2 t289 bt290.2.2.2.2.2.2 bt298.2.2.2.2.2.2 bt306.2.2.2.2.2.2 true a0_0 a0_1 a0_2 a0_3 a0_4 a0_5 a1_0 a1_1 bt290.1 bt290.2.1 bt290.2.2.1 bt290.2.2.2.1 bt290.2.2.2.2.1 bt290.2.2.2.2.2.1 bt298.1 bt298.2.1 bt298.2.2.1 bt298.2.2.2.1 bt298.2.2.2.2.1 bt298.2.2.2.2.2.1 bt306.1 bt306.2.1 bt306.2.2.1 bt306.2.2.2.1 bt306.2.2.2.2.1 bt306.2.2.2.2.2.1)))))) = some r := H
     have A19 := Aside0.mk A190
     clear A190
     replace H := Option.bind_eq_some_iff.mp H
     obtain ⟨⟨t290, t291, t292, t293, t294, t295, t296⟩, A200, H⟩ := H
     replace H : ((steer_Flee.f kj5 a0_0 a0_1 a0_2 a0_3 a0_4 a0_5 a1_0 a1_1).bind fun bt298 => ((steer_Arrive.f kj5 a0_0 a0_1 a0_2 a0_3 a0_4 a0_5 a1_0 a1_1 a2).bind fun bt306 => ((steer_Check.f kj5 a0_0 a0_1 a0_2 a0_3 a0_4 a0_5).bind fun t314 => (if t314 = t289 then ((steer_Short.f kj5 a1_0 a1_1 a3).bind fun bt315 => ((tourref5_Cut.f kj5 a1_0 a1_1 a3).bind fun bt317 => (tourlaw5_SteerTells.j1 kj5 a2 t289 t296 bt298.2.2.2.2.2.2 bt306.2.2.2.2.2.2 (!(bt315.1 == bt317.1) || (!(bt315.2 == bt317.2))) a0_0 a0_1 a0_2 a0_3 a0_4 a0_5 a1_0 a1_1 t290 t291 t292 t293 t294 t295 bt298.1 bt298.2.1 bt298.2.2.1 bt298.2.2.2.1 bt298.2.2.2.2.1 bt298.2.2.2.2.2.1 bt306.1 bt306.2.1 bt306.2.2.1 bt306.2.2.2.1 bt306.2.2.2.2.1 bt306.2.2.2.2.2.1))) else (tourlaw5_SteerTells.j1 kj5 a2 t289 t296 bt298.2.2.2.2.2.2 bt306.2.2.2.2.2.2 true a0_0 a0_1 a0_2 a0_3 a0_4 a0_5 a1_0 a1_1 t290 t291 t292 t293 t294 t295 bt298.1 bt298.2.1 bt298.2.2.1 bt298.2.2.2.1 bt298.2.2.2.2.1 bt298.2.2.2.2.2.1 bt306.1 bt306.2.1 bt306.2.2.1 bt306.2.2.2.1 bt306.2.2.2.2.1 bt306.2.2.2.2.2.1))))) = some r := H
     have A20 := Aside0.mk A200
     clear A200
     replace H := Option.bind_eq_some_iff.mp H
     obtain ⟨⟨t298, t299, t300, t301, t302, t303, t304⟩, A210, H⟩ := H
     replace H : ((steer_Arrive.f kj5 a0_0 a0_1 a0_2 a0_3 a0_4 a0_5 a1_0 a1_1 a2).bind fun bt306 => ((steer_Check.f kj5 a0_0 a0_1 a0_2 a0_3 a0_4 a0_5).bind fun t314 => (if t314 = t289 then ((steer_Short.f kj5 a1_0 a1_1 a3).bind fun bt315 => ((tourref5_Cut.f kj5 a1_0 a1_1 a3).bind fun bt317 => (tourlaw5_SteerTells.j1 kj5 a2 t289 t296 t304 bt306.2.2.2.2.2.2 (!(bt315.1 == bt317.1) || (!(bt315.2 == bt317.2))) a0_0 a0_1 a0_2 a0_3 a0_4 a0_5 a1_0 a1_1 t290 t291 t292 t293 t294 t295 t298 t299 t300 t301 t302 t303 bt306.1 bt306.2.1 bt306.2.2.1 bt306.2.2.2.1 bt306.2.2.2.2.1 bt306.2.2.2.2.2.1))) else (tourlaw5_SteerTells.j1 kj5 a2 t289 t296 t304 bt306.2.2.2.2.2.2 true a0_0 a0_1 a0_2 a0_3 a0_4 a0_5 a1_0 a1_1 t290 t291 t292 t293 t294 t295 t298 t299 t300 t301 t302 t303 bt306.1 bt306.2.1 bt306.2.2.1 bt306.2.2.2.1 bt306.2.2.2.2.1 bt306.2.2.2.2.2.1)))) = some r := H
     have A21 := Aside0.mk A210
     clear A210
     replace H := Option.bind_eq_some_iff.mp H
     obtain ⟨⟨t306, t307, t308, t309, t310, t311, t312⟩, A220, H⟩ := H
     replace H : ((steer_Check.f kj5 a0_0 a0_1 a0_2 a0_3 a0_4 a0_5).bind fun t314 => (if t314 = t289 then ((steer_Short.f kj5 a1_0 a1_1 a3).bind fun bt315 => ((tourref5_Cut.f kj5 a1_0 a1_1 a3).bind fun bt317 => (tourlaw5_SteerTells.j1 kj5 a2 t289 t296 t304 t312 (!(bt315.1 == bt317.1) || (!(bt315.2 == bt317.2))) a0_0 a0_1 a0_2 a0_3 a0_4 a0_5 a1_0 a1_1 t290 t291 t292 t293 t294 t295 t298 t299 t300 t301 t302 t303 t306 t307 t308 t309 t310 t311))) else (tourlaw5_SteerTells.j1 kj5 a2 t289 t296 t304 t312 true a0_0 a0_1 a0_2 a0_3 a0_4 a0_5 a1_0 a1_1 t290 t291 t292 t293 t294 t295 t298 t299 t300 t301 t302 t303 t306 t307 t308 t309 t310 t311))) = some r := H
     have A22 := Aside0.mk A220
     clear A220
     have HC23 := Aside0.mk H
     clear H
     have hnb24 := NB279_280.out
     have hnc24 := NB280_279.out
     have hnb25 := NB279_288.out
     have hnc25 := NB288_279.out
     obtain ⟨hcz26_0, hcz26_1, hcz26_2, hcz26_3, hcz26_4, hcz26_5⟩ := blk6 BK279.out
     obtain ⟨hfz26_0, hfz26_1, hfz26_2, hfz26_3, hfz26_4, hfz26_5⟩ := frz6 BK279.out
     go_upto_region 8 with (first | ((with_reducible refine gate_callee (f := 12) rfl ?_); refine goesL_ (some 36) rfl rfl Try.func12 (by kernel_rfl) rfl #[.agg #[.int .i64 a0_0, .int .i64 a0_1, .int .i64 a0_2, .int .i64 a0_3, .int .i64 a0_4, .int .i64 a0_5]] rfl (by (try simp only [zm1, zm2, zm3]); first | done | rfl) ?_; (with_reducible refine (tourref5_MoverFault.calls kj5 a0_0 a0_1 a0_2 a0_3 a0_4 a0_5 t289 _ A19.out).mono ?_); rintro e w27 ⟨rfl, hb⟩; refine ⟨_, rfl, ?_⟩; have n0_ := Aside0.mk (bb hb BK279.out); have n1_ := Aside0.mk (bb hb BK280.out); have n2_ := Aside0.mk (bb hb BK288.out); have n3_ := Aside0.mk (below_step (by repeat (first | (with_reducible first | exact HB.out | apply below_alloc | apply pw_below_drewN | apply below_drew1 | refine below_set ?_ GE279.out | refine below_set ?_ GE280.out | refine below_set ?_ GE288.out) | exact HB.out)) hb); clear BK279; clear BK280; clear BK288; clear HB; have BK279 := n0_; have BK280 := n1_; have BK288 := n2_; have HB := n3_; clear n0_ n1_ n2_ n3_; (try clear hb); (try clear hb2); (try clear hk); (try clear hi); obtain ⟨hcz28_0, hcz28_1, hcz28_2, hcz28_3, hcz28_4, hcz28_5⟩ := blk6 BK279.out; obtain ⟨hfz28_0, hfz28_1, hfz28_2, hfz28_3, hfz28_4, hfz28_5⟩ := frz6 BK279.out; have hnb29 := NB280_288.out; have hnc29 := NB288_280.out; obtain ⟨hcz30_0, hcz30_1⟩ := blk2 BK280.out; obtain ⟨hfz30_0, hfz30_1⟩ := frz2 BK280.out) | ((with_reducible refine gate_callee (f := 20) rfl ?_); refine goesL_ (some 40) rfl rfl Try.func20 (by kernel_rfl) rfl #[.agg #[.int .i64 a0_0, .int .i64 a0_1, .int .i64 a0_2, .int .i64 a0_3, .int .i64 a0_4, .int .i64 a0_5], .agg #[.int .i64 a1_0, .int .i64 a1_1]] rfl (by (try simp only [zm1, zm2, zm3]); first | done | rfl) ?_; (with_reducible refine (steer_Seek.calls kj5 a0_0 a0_1 a0_2 a0_3 a0_4 a0_5 a1_0 a1_1 t290 t291 t292 t293 t294 t295 t296 _ A20.out).mono ?_); rintro e w31 ⟨rfl, hb⟩; refine ⟨_, rfl, ?_⟩; have n0_ := Aside0.mk (bb hb BK279.out); have n1_ := Aside0.mk (bb hb BK280.out); have n2_ := Aside0.mk (bb hb BK288.out); have n3_ := Aside0.mk (below_step (by repeat (first | (with_reducible first | exact HB.out | apply below_alloc | apply pw_below_drewN | apply below_drew1 | refine below_set ?_ GE279.out | refine below_set ?_ GE280.out | refine below_set ?_ GE288.out) | exact HB.out)) hb); clear BK279; clear BK280; clear BK288; clear HB; have BK279 := n0_; have BK280 := n1_; have BK288 := n2_; have HB := n3_; clear n0_ n1_ n2_ n3_; (try clear hb); (try clear hb2); (try clear hk); (try clear hi)) | ((with_reducible refine gate_dst (N := 12) rfl ?_); refine box_event ?hg (N := 12) ?hd (cs := #[.int .i64 0, .int .i64 0, .int .i64 0, .int .i64 0, .int .i64 0, .int .i64 0]) (t := 29) ?hr ?_; (case hd => rfl); (case hg => rfl); (case hr => first | (go_simp; done) | (go_simp; rfl)); intro gb297 hg w32 hbox hb; have n0_ := Aside0.mk (bb hb BK279.out); have n1_ := Aside0.mk (bb hb BK280.out); have n2_ := Aside0.mk (bb hb BK288.out); have n3_ := Aside0.mk (below_step (by repeat (first | (with_reducible first | exact HB.out | apply below_alloc | apply pw_below_drewN | apply below_drew1 | refine below_set ?_ GE279.out | refine below_set ?_ GE280.out | refine below_set ?_ GE288.out) | exact HB.out)) hb); have n4_ := Aside0.mk (hbox); have n5_ := Aside0.mk ((by rw [hg]; exact (below_size (by repeat (first | (with_reducible first | exact HB.out | apply below_alloc | apply pw_below_drewN | apply below_drew1 | refine below_set ?_ GE279.out | refine below_set ?_ GE280.out | refine below_set ?_ GE288.out) | exact HB.out))) : w.heap.size ≤ gb297)); have n6_ := Aside0.mk ((by rw [hg]; exact (below_size (by repeat (first | (with_reducible first | exact HB.out | apply below_alloc | apply pw_below_drewN | apply below_drew1 | refine below_set ?_ GE279.out | refine below_set ?_ GE280.out | refine below_set ?_ GE288.out) | exact HB.out))) : w.heap.size ≤ gb297)); have n7_ := Aside0.mk (nl hg BK279.out); have n8_ := Aside0.mk (ng hg BK279.out); have n9_ := Aside0.mk (nl hg BK280.out); have n10_ := Aside0.mk (ng hg BK280.out); have n11_ := Aside0.mk (nl hg BK288.out); have n12_ := Aside0.mk (ng hg BK288.out); clear BK279; clear BK280; clear BK288; clear HB; have BK279 := n0_; have BK280 := n1_; have BK288 := n2_; have HB := n3_; have BK297 := n4_; have GW297 := n5_; have GE297 := n6_; have NB279_297 := n7_; have NB297_279 := n8_; have NB280_297 := n9_; have NB297_280 := n10_; have NB288_297 := n11_; have NB297_288 := n12_; clear n0_ n1_ n2_ n3_ n4_ n5_ n6_ n7_ n8_ n9_ n10_ n11_ n12_; clear hb hbox hg; have hnb33 := NB297_279.out; have hnc33 := NB279_297.out; have hnb34 := NB297_280.out; have hnc34 := NB280_297.out; have hnb35 := NB297_288.out; have hnc35 := NB288_297.out; obtain ⟨hcz36_0, hcz36_1, hcz36_2, hcz36_3, hcz36_4, hcz36_5⟩ := blk6 BK297.out; obtain ⟨hfz36_0, hfz36_1, hfz36_2, hfz36_3, hfz36_4, hfz36_5⟩ := frz6 BK297.out; obtain ⟨hcz37_0, hcz37_1, hcz37_2, hcz37_3, hcz37_4, hcz37_5⟩ := blk6 BK279.out; obtain ⟨hfz37_0, hfz37_1, hfz37_2, hfz37_3, hfz37_4, hfz37_5⟩ := frz6 BK279.out; obtain ⟨hcz38_0, hcz38_1⟩ := blk2 BK280.out; obtain ⟨hfz38_0, hfz38_1⟩ := frz2 BK280.out) | ((with_reducible refine gate_callee (f := 21) rfl ?_); refine goesL_ (some 46) rfl rfl Try.func21 (by kernel_rfl) rfl #[.agg #[.int .i64 a0_0, .int .i64 a0_1, .int .i64 a0_2, .int .i64 a0_3, .int .i64 a0_4, .int .i64 a0_5], .agg #[.int .i64 a1_0, .int .i64 a1_1]] rfl (by (try simp only [zm1, zm2, zm3]); first | done | rfl) ?_; (with_reducible refine (steer_Flee.calls kj5 a0_0 a0_1 a0_2 a0_3 a0_4 a0_5 a1_0 a1_1 t298 t299 t300 t301 t302 t303 t304 _ A21.out).mono ?_); rintro e w39 ⟨rfl, hb⟩; refine ⟨_, rfl, ?_⟩; have n0_ := Aside0.mk (blk_below (g := gb279) (o := .cells #[.int .i64 a0_0, .int .i64 a0_1, .int .i64 a0_2, .int .i64 a0_3, .int .i64 a0_4, .int .i64 a0_5] 29 (0, 0)) (by (with_reducible repeat (first | refine blk_drewN ?_ _ | refine blk_drew ?_ | refine blk_alloc ?_ _)); refine blk_far ?_ NB279_297.out _; refine blk_far ?_ NB279_297.out _; refine blk_far ?_ NB279_297.out _; refine blk_far ?_ NB279_297.out _; refine blk_far ?_ NB279_297.out _; refine blk_far ?_ NB279_297.out _; exact BK279.out) hb); have n1_ := Aside0.mk (blk_below (g := gb280) (o := .cells #[.int .i64 a1_0, .int .i64 a1_1] 27 (0, 0)) (by (with_reducible repeat (first | refine blk_drewN ?_ _ | refine blk_drew ?_ | refine blk_alloc ?_ _)); refine blk_far ?_ NB280_297.out _; refine blk_far ?_ NB280_297.out _; refine blk_far ?_ NB280_297.out _; refine blk_far ?_ NB280_297.out _; refine blk_far ?_ NB280_297.out _; refine blk_far ?_ NB280_297.out _; exact BK280.out) hb); have n2_ := Aside0.mk (blk_below (g := gb288) (o := .cells #[.int .i64 t281, .int .i64 t282, .int .i64 t283, .int .i64 t284, .int .i64 t285, .int .i64 t286] 29 (0, 0)) (by (with_reducible repeat (first | refine blk_drewN ?_ _ | refine blk_drew ?_ | refine blk_alloc ?_ _)); refine blk_far ?_ NB288_297.out _; refine blk_far ?_ NB288_297.out _; refine blk_far ?_ NB288_297.out _; refine blk_far ?_ NB288_297.out _; refine blk_far ?_ NB288_297.out _; refine blk_far ?_ NB288_297.out _; exact BK288.out) hb); have n3_ := Aside0.mk (blk_below (g := gb297) (o := .cells #[.int .i64 t290, .int .i64 t291, .int .i64 t292, .int .i64 t293, .int .i64 t294, .int .i64 t295] 29 (0, 0)) (by (with_reducible repeat (first | refine blk_drewN ?_ _ | refine blk_drew ?_ | refine blk_alloc ?_ _)); refine blk_put (cs := #[.int .i64 t290, .int .i64 t291, .int .i64 t292, .int .i64 t293, .int .i64 t294, .int .i64 0]) ?_ 5 _ rfl; refine blk_put (cs := #[.int .i64 t290, .int .i64 t291, .int .i64 t292, .int .i64 t293, .int .i64 0, .int .i64 0]) ?_ 4 _ rfl; refine blk_put (cs := #[.int .i64 t290, .int .i64 t291, .int .i64 t292, .int .i64 0, .int .i64 0, .int .i64 0]) ?_ 3 _ rfl; refine blk_put (cs := #[.int .i64 t290, .int .i64 t291, .int .i64 0, .int .i64 0, .int .i64 0, .int .i64 0]) ?_ 2 _ rfl; refine blk_put (cs := #[.int .i64 t290, .int .i64 0, .int .i64 0, .int .i64 0, .int .i64 0, .int .i64 0]) ?_ 1 _ rfl; refine blk_put (cs := #[.int .i64 0, .int .i64 0, .int .i64 0, .int .i64 0, .int .i64 0, .int .i64 0]) ?_ 0 _ rfl; exact BK297.out) hb); have n4_ := Aside0.mk (below_step (by repeat (first | (with_reducible first | exact HB.out | apply below_alloc | apply pw_below_drewN | apply below_drew1 | refine below_set ?_ GE279.out | refine below_set ?_ GE280.out | refine below_set ?_ GE288.out | refine below_set ?_ GE297.out) | exact HB.out)) hb); clear BK279; clear BK280; clear BK288; clear BK297; clear HB; have BK279 := n0_; have BK280 := n1_; have BK288 := n2_; have BK297 := n3_; have HB := n4_; clear n0_ n1_ n2_ n3_ n4_; (try clear hb); (try clear hb2); (try clear hk); (try clear hi)) | ((with_reducible refine gate_dst (N := 14) rfl ?_); refine box_event ?hg (N := 14) ?hd (cs := #[.int .i64 0, .int .i64 0, .int .i64 0, .int .i64 0, .int .i64 0, .int .i64 0]) (t := 29) ?hr ?_; (case hd => rfl); (case hg => rfl); (case hr => first | (go_simp; done) | (go_simp; rfl)); intro gb305 hg w40 hbox hb; have n0_ := Aside0.mk (bb hb BK279.out); have n1_ := Aside0.mk (bb hb BK280.out); have n2_ := Aside0.mk (bb hb BK288.out); have n3_ := Aside0.mk (bb hb BK297.out); have n4_ := Aside0.mk (below_step (by repeat (first | (with_reducible first | exact HB.out | apply below_alloc | apply pw_below_drewN | apply below_drew1 | refine below_set ?_ GE279.out | refine below_set ?_ GE280.out | refine below_set ?_ GE288.out | refine below_set ?_ GE297.out) | exact HB.out)) hb); have n5_ := Aside0.mk (hbox); have n6_ := Aside0.mk ((by rw [hg]; exact (below_size (by repeat (first | (with_reducible first | exact HB.out | apply below_alloc | apply pw_below_drewN | apply below_drew1 | refine below_set ?_ GE279.out | refine below_set ?_ GE280.out | refine below_set ?_ GE288.out | refine below_set ?_ GE297.out) | exact HB.out))) : w.heap.size ≤ gb305)); have n7_ := Aside0.mk ((by rw [hg]; exact (below_size (by repeat (first | (with_reducible first | exact HB.out | apply below_alloc | apply pw_below_drewN | apply below_drew1 | refine below_set ?_ GE279.out | refine below_set ?_ GE280.out | refine below_set ?_ GE288.out | refine below_set ?_ GE297.out) | exact HB.out))) : w.heap.size ≤ gb305)); have n8_ := Aside0.mk (nl hg BK279.out); have n9_ := Aside0.mk (ng hg BK279.out); have n10_ := Aside0.mk (nl hg BK280.out); have n11_ := Aside0.mk (ng hg BK280.out); have n12_ := Aside0.mk (nl hg BK288.out); have n13_ := Aside0.mk (ng hg BK288.out); have n14_ := Aside0.mk (nl hg BK297.out); have n15_ := Aside0.mk (ng hg BK297.out); clear BK279; clear BK280; clear BK288; clear BK297; clear HB; have BK279 := n0_; have BK280 := n1_; have BK288 := n2_; have BK297 := n3_; have HB := n4_; have BK305 := n5_; have GW305 := n6_; have GE305 := n7_; have NB279_305 := n8_; have NB305_279 := n9_; have NB280_305 := n10_; have NB305_280 := n11_; have NB288_305 := n12_; have NB305_288 := n13_; have NB297_305 := n14_; have NB305_297 := n15_; clear n0_ n1_ n2_ n3_ n4_ n5_ n6_ n7_ n8_ n9_ n10_ n11_ n12_ n13_ n14_ n15_; clear hb hbox hg; have hnb41 := NB305_279.out; have hnc41 := NB279_305.out; have hnb42 := NB305_280.out; have hnc42 := NB280_305.out; have hnb43 := NB305_288.out; have hnc43 := NB288_305.out; have hnb44 := NB305_297.out; have hnc44 := NB297_305.out; obtain ⟨hcz45_0, hcz45_1, hcz45_2, hcz45_3, hcz45_4, hcz45_5⟩ := blk6 BK305.out; obtain ⟨hfz45_0, hfz45_1, hfz45_2, hfz45_3, hfz45_4, hfz45_5⟩ := frz6 BK305.out; obtain ⟨hcz46_0, hcz46_1, hcz46_2, hcz46_3, hcz46_4, hcz46_5⟩ := blk6 BK279.out; obtain ⟨hfz46_0, hfz46_1, hfz46_2, hfz46_3, hfz46_4, hfz46_5⟩ := frz6 BK279.out; obtain ⟨hcz47_0, hcz47_1⟩ := blk2 BK280.out; obtain ⟨hfz47_0, hfz47_1⟩ := frz2 BK280.out) | ((with_reducible refine gate_callee (f := 22) rfl ?_); refine goesL_ (some 53) rfl rfl Try.func22 (by kernel_rfl) rfl #[.agg #[.int .i64 a0_0, .int .i64 a0_1, .int .i64 a0_2, .int .i64 a0_3, .int .i64 a0_4, .int .i64 a0_5], .agg #[.int .i64 a1_0, .int .i64 a1_1], .int .i64 a2] rfl (by (try simp only [zm1, zm2, zm3]); first | done | rfl) ?_; (with_reducible refine (steer_Arrive.calls kj5 a0_0 a0_1 a0_2 a0_3 a0_4 a0_5 a1_0 a1_1 a2 t306 t307 t308 t309 t310 t311 t312 _ A22.out).mono ?_); rintro e w48 ⟨rfl, hb⟩; refine ⟨_, rfl, ?_⟩; have n0_ := Aside0.mk (blk_below (g := gb279) (o := .cells #[.int .i64 a0_0, .int .i64 a0_1, .int .i64 a0_2, .int .i64 a0_3, .int .i64 a0_4, .int .i64 a0_5] 29 (0, 0)) (by (with_reducible repeat (first | refine blk_drewN ?_ _ | refine blk_drew ?_ | refine blk_alloc ?_ _)); refine blk_far ?_ NB279_305.out _; refine blk_far ?_ NB279_305.out _; refine blk_far ?_ NB279_305.out _; refine blk_far ?_ NB279_305.out _; refine blk_far ?_ NB279_305.out _; refine blk_far ?_ NB279_305.out _; exact BK279.out) hb); have n1_ := Aside0.mk (blk_below (g := gb280) (o := .cells #[.int .i64 a1_0, .int .i64 a1_1] 27 (0, 0)) (by (with_reducible repeat (first | refine blk_drewN ?_ _ | refine blk_drew ?_ | refine blk_alloc ?_ _)); refine blk_far ?_ NB280_305.out _; refine blk_far ?_ NB280_305.out _; refine blk_far ?_ NB280_305.out _; refine blk_far ?_ NB280_305.out _; refine blk_far ?_ NB280_305.out _; refine blk_far ?_ NB280_305.out _; exact BK280.out) hb); have n2_ := Aside0.mk (blk_below (g := gb288) (o := .cells #[.int .i64 t281, .int .i64 t282, .int .i64 t283, .int .i64 t284, .int .i64 t285, .int .i64 t286] 29 (0, 0)) (by (with_reducible repeat (first | refine blk_drewN ?_ _ | refine blk_drew ?_ | refine blk_alloc ?_ _)); refine blk_far ?_ NB288_305.out _; refine blk_far ?_ NB288_305.out _; refine blk_far ?_ NB288_305.out _; refine blk_far ?_ NB288_305.out _; refine blk_far ?_ NB288_305.out _; refine blk_far ?_ NB288_305.out _; exact BK288.out) hb); have n3_ := Aside0.mk (blk_below (g := gb297) (o := .cells #[.int .i64 t290, .int .i64 t291, .int .i64 t292, .int .i64 t293, .int .i64 t294, .int .i64 t295] 29 (0, 0)) (by (with_reducible repeat (first | refine blk_drewN ?_ _ | refine blk_drew ?_ | refine blk_alloc ?_ _)); refine blk_far ?_ NB297_305.out _; refine blk_far ?_ NB297_305.out _; refine blk_far ?_ NB297_305.out _; refine blk_far ?_ NB297_305.out _; refine blk_far ?_ NB297_305.out _; refine blk_far ?_ NB297_305.out _; exact BK297.out) hb); have n4_ := Aside0.mk (blk_below (g := gb305) (o := .cells #[.int .i64 t298, .int .i64 t299, .int .i64 t300, .int .i64 t301, .int .i64 t302, .int .i64 t303] 29 (0, 0)) (by (with_reducible repeat (first | refine blk_drewN ?_ _ | refine blk_drew ?_ | refine blk_alloc ?_ _)); refine blk_put (cs := #[.int .i64 t298, .int .i64 t299, .int .i64 t300, .int .i64 t301, .int .i64 t302, .int .i64 0]) ?_ 5 _ rfl; refine blk_put (cs := #[.int .i64 t298, .int .i64 t299, .int .i64 t300, .int .i64 t301, .int .i64 0, .int .i64 0]) ?_ 4 _ rfl; refine blk_put (cs := #[.int .i64 t298, .int .i64 t299, .int .i64 t300, .int .i64 0, .int .i64 0, .int .i64 0]) ?_ 3 _ rfl; refine blk_put (cs := #[.int .i64 t298, .int .i64 t299, .int .i64 0, .int .i64 0, .int .i64 0, .int .i64 0]) ?_ 2 _ rfl; refine blk_put (cs := #[.int .i64 t298, .int .i64 0, .int .i64 0, .int .i64 0, .int .i64 0, .int .i64 0]) ?_ 1 _ rfl; refine blk_put (cs := #[.int .i64 0, .int .i64 0, .int .i64 0, .int .i64 0, .int .i64 0, .int .i64 0]) ?_ 0 _ rfl; exact BK305.out) hb); have n5_ := Aside0.mk (below_step (by repeat (first | (with_reducible first | exact HB.out | apply below_alloc | apply pw_below_drewN | apply below_drew1 | refine below_set ?_ GE279.out | refine below_set ?_ GE280.out | refine below_set ?_ GE288.out | refine below_set ?_ GE297.out | refine below_set ?_ GE305.out) | exact HB.out)) hb); clear BK279; clear BK280; clear BK288; clear BK297; clear BK305; clear HB; have BK279 := n0_; have BK280 := n1_; have BK288 := n2_; have BK297 := n3_; have BK305 := n4_; have HB := n5_; clear n0_ n1_ n2_ n3_ n4_ n5_; (try clear hb); (try clear hb2); (try clear hk); (try clear hi)) | ((with_reducible refine gate_dst (N := 16) rfl ?_); refine box_event ?hg (N := 16) ?hd (cs := #[.int .i64 0, .int .i64 0, .int .i64 0, .int .i64 0, .int .i64 0, .int .i64 0]) (t := 29) ?hr ?_; (case hd => rfl); (case hg => rfl); (case hr => first | (go_simp; done) | (go_simp; rfl)); intro gb313 hg w49 hbox hb; have n0_ := Aside0.mk (bb hb BK279.out); have n1_ := Aside0.mk (bb hb BK280.out); have n2_ := Aside0.mk (bb hb BK288.out); have n3_ := Aside0.mk (bb hb BK297.out); have n4_ := Aside0.mk (bb hb BK305.out); have n5_ := Aside0.mk (below_step (by repeat (first | (with_reducible first | exact HB.out | apply below_alloc | apply pw_below_drewN | apply below_drew1 | refine below_set ?_ GE279.out | refine below_set ?_ GE280.out | refine below_set ?_ GE288.out | refine below_set ?_ GE297.out | refine below_set ?_ GE305.out) | exact HB.out)) hb); have n6_ := Aside0.mk (hbox); have n7_ := Aside0.mk ((by rw [hg]; exact (below_size (by repeat (first | (with_reducible first | exact HB.out | apply below_alloc | apply pw_below_drewN | apply below_drew1 | refine below_set ?_ GE279.out | refine below_set ?_ GE280.out | refine below_set ?_ GE288.out | refine below_set ?_ GE297.out | refine below_set ?_ GE305.out) | exact HB.out))) : w.heap.size ≤ gb313)); have n8_ := Aside0.mk ((by rw [hg]; exact (below_size (by repeat (first | (with_reducible first | exact HB.out | apply below_alloc | apply pw_below_drewN | apply below_drew1 | refine below_set ?_ GE279.out | refine below_set ?_ GE280.out | refine below_set ?_ GE288.out | refine below_set ?_ GE297.out | refine below_set ?_ GE305.out) | exact HB.out))) : w.heap.size ≤ gb313)); have n9_ := Aside0.mk (nl hg BK279.out); have n10_ := Aside0.mk (ng hg BK279.out); have n11_ := Aside0.mk (nl hg BK280.out); have n12_ := Aside0.mk (ng hg BK280.out); have n13_ := Aside0.mk (nl hg BK288.out); have n14_ := Aside0.mk (ng hg BK288.out); have n15_ := Aside0.mk (nl hg BK297.out); have n16_ := Aside0.mk (ng hg BK297.out); have n17_ := Aside0.mk (nl hg BK305.out); have n18_ := Aside0.mk (ng hg BK305.out); clear BK279; clear BK280; clear BK288; clear BK297; clear BK305; clear HB; have BK279 := n0_; have BK280 := n1_; have BK288 := n2_; have BK297 := n3_; have BK305 := n4_; have HB := n5_; have BK313 := n6_; have GW313 := n7_; have GE313 := n8_; have NB279_313 := n9_; have NB313_279 := n10_; have NB280_313 := n11_; have NB313_280 := n12_; have NB288_313 := n13_; have NB313_288 := n14_; have NB297_313 := n15_; have NB313_297 := n16_; have NB305_313 := n17_; have NB313_305 := n18_; clear n0_ n1_ n2_ n3_ n4_ n5_ n6_ n7_ n8_ n9_ n10_ n11_ n12_ n13_ n14_ n15_ n16_ n17_ n18_; clear hb hbox hg; have hnb50 := NB313_279.out; have hnc50 := NB279_313.out; have hnb51 := NB313_280.out; have hnc51 := NB280_313.out; have hnb52 := NB313_288.out; have hnc52 := NB288_313.out; have hnb53 := NB313_297.out; have hnc53 := NB297_313.out; have hnb54 := NB313_305.out; have hnc54 := NB305_313.out; obtain ⟨hcz55_0, hcz55_1, hcz55_2, hcz55_3, hcz55_4, hcz55_5⟩ := blk6 BK313.out; obtain ⟨hfz55_0, hfz55_1, hfz55_2, hfz55_3, hfz55_4, hfz55_5⟩ := frz6 BK313.out))
     (try simp only [Act.put, zq1, zq2, zq3])
     go_cut [68] (fun v68 wc => ∃ (kq : Nat) (x68_22 : Bool), v68 = .bool x68_22 ∧ Aside0 (tourlaw5_SteerTells.j1 kq a2 t289 t296 t304 t312 x68_22 a0_0 a0_1 a0_2 a0_3 a0_4 a0_5 a1_0 a1_1 t290 t291 t292 t293 t294 t295 t298 t299 t300 t301 t302 t303 t306 t307 t308 t309 t310 t311 = some r) ∧ Aside0 (kq ≤ kj5) ∧ Aside0 (wc.heap[gb279]? = some (.cells #[.int .i64 a0_0, .int .i64 a0_1, .int .i64 a0_2, .int .i64 a0_3, .int .i64 a0_4, .int .i64 a0_5] 29 (0, 0))) ∧ Aside0 (wc.heap[gb280]? = some (.cells #[.int .i64 a1_0, .int .i64 a1_1] 27 (0, 0))) ∧ Aside0 (wc.heap[gb288]? = some (.cells #[.int .i64 t281, .int .i64 t282, .int .i64 t283, .int .i64 t284, .int .i64 t285, .int .i64 t286] 29 (0, 0))) ∧ Aside0 (wc.heap[gb297]? = some (.cells #[.int .i64 t290, .int .i64 t291, .int .i64 t292, .int .i64 t293, .int .i64 t294, .int .i64 t295] 29 (0, 0))) ∧ Aside0 (wc.heap[gb305]? = some (.cells #[.int .i64 t298, .int .i64 t299, .int .i64 t300, .int .i64 t301, .int .i64 t302, .int .i64 t303] 29 (0, 0))) ∧ Aside0 (wc.heap[gb313]? = some (.cells #[.int .i64 t306, .int .i64 t307, .int .i64 t308, .int .i64 t309, .int .i64 t310, .int .i64 t311] 29 (0, 0))) ∧ Aside0 (Below w.heap.size w wc))
     case first =>
      have H := HC23.out
      clear HC23
      replace H := Option.bind_eq_some_iff.mp H
      obtain ⟨t314, A560, H⟩ := H
      replace H : (if t314 = t289 then ((steer_Short.f kj5 a1_0 a1_1 a3).bind fun bt315 => ((tourref5_Cut.f kj5 a1_0 a1_1 a3).bind fun bt317 => (tourlaw5_SteerTells.j1 kj5 a2 t289 t296 t304 t312 (!(bt315.1 == bt317.1) || (!(bt315.2 == bt317.2))) a0_0 a0_1 a0_2 a0_3 a0_4 a0_5 a1_0 a1_1 t290 t291 t292 t293 t294 t295 t298 t299 t300 t301 t302 t303 t306 t307 t308 t309 t310 t311))) else (tourlaw5_SteerTells.j1 kj5 a2 t289 t296 t304 t312 true a0_0 a0_1 a0_2 a0_3 a0_4 a0_5 a1_0 a1_1 t290 t291 t292 t293 t294 t295 t298 t299 t300 t301 t302 t303 t306 t307 t308 t309 t310 t311)) = some r := H
      have A56 := Aside0.mk A560
      clear A560
      by_cases c57 : t314 = t289
      ·rw [if_pos c57] at H
       have c57b0 : (t314 == t289) = true := beq_iff_eq.mpr c57
       have c57b1 : (t314 != t289) = false := bne_eq_false_iff_eq.mpr c57
       clear c57
       (first | rw [c57b0] | (simp only [i64_w, i32_w]; rw [c57b0]) | skip)
       replace H := Option.bind_eq_some_iff.mp H
       obtain ⟨⟨t315, t316⟩, A580, H⟩ := H
       replace H : ((tourref5_Cut.f kj5 a1_0 a1_1 a3).bind fun bt317 => (tourlaw5_SteerTells.j1 kj5 a2 t289 t296 t304 t312 (!(t315 == bt317.1) || (!(t316 == bt317.2))) a0_0 a0_1 a0_2 a0_3 a0_4 a0_5 a1_0 a1_1 t290 t291 t292 t293 t294 t295 t298 t299 t300 t301 t302 t303 t306 t307 t308 t309 t310 t311)) = some r := H
       have A58 := Aside0.mk A580
       clear A580
       replace H := Option.bind_eq_some_iff.mp H
       obtain ⟨⟨t317, t318⟩, A590, H⟩ := H
       replace H : (tourlaw5_SteerTells.j1 kj5 a2 t289 t296 t304 t312 (!(t315 == t317) || (!(t316 == t318))) a0_0 a0_1 a0_2 a0_3 a0_4 a0_5 a1_0 a1_1 t290 t291 t292 t293 t294 t295 t298 t299 t300 t301 t302 t303 t306 t307 t308 t309 t310 t311) = some r := H
       have A59 := Aside0.mk A590
       clear A590
       have H' := Aside0.mk H
       clear H
       try go_wp2
       have n0_ : Aside0 (((((((w49.setCell ⟨gb313, 0, none⟩ (.int .i64 t306)).setCell ⟨gb313, 1, none⟩ (.int .i64 t307)).setCell ⟨gb313, 2, none⟩ (.int .i64 t308)).setCell ⟨gb313, 3, none⟩ (.int .i64 t309)).setCell ⟨gb313, 4, none⟩ (.int .i64 t310)).setCell ⟨gb313, 5, none⟩ (.int .i64 t311)).heap[gb279]? = some (.cells #[.int .i64 a0_0, .int .i64 a0_1, .int .i64 a0_2, .int .i64 a0_3, .int .i64 a0_4, .int .i64 a0_5] 29 (0, 0))) := ⟨by (with_reducible repeat (first | refine blk_drewN ?_ _ | refine blk_drew ?_ | refine blk_alloc ?_ _)); refine blk_far ?_ NB279_313.out _; refine blk_far ?_ NB279_313.out _; refine blk_far ?_ NB279_313.out _; refine blk_far ?_ NB279_313.out _; refine blk_far ?_ NB279_313.out _; refine blk_far ?_ NB279_313.out _; exact BK279.out⟩
       have n1_ : Aside0 (((((((w49.setCell ⟨gb313, 0, none⟩ (.int .i64 t306)).setCell ⟨gb313, 1, none⟩ (.int .i64 t307)).setCell ⟨gb313, 2, none⟩ (.int .i64 t308)).setCell ⟨gb313, 3, none⟩ (.int .i64 t309)).setCell ⟨gb313, 4, none⟩ (.int .i64 t310)).setCell ⟨gb313, 5, none⟩ (.int .i64 t311)).heap[gb280]? = some (.cells #[.int .i64 a1_0, .int .i64 a1_1] 27 (0, 0))) := ⟨by (with_reducible repeat (first | refine blk_drewN ?_ _ | refine blk_drew ?_ | refine blk_alloc ?_ _)); refine blk_far ?_ NB280_313.out _; refine blk_far ?_ NB280_313.out _; refine blk_far ?_ NB280_313.out _; refine blk_far ?_ NB280_313.out _; refine blk_far ?_ NB280_313.out _; refine blk_far ?_ NB280_313.out _; exact BK280.out⟩
       have n2_ : Aside0 (((((((w49.setCell ⟨gb313, 0, none⟩ (.int .i64 t306)).setCell ⟨gb313, 1, none⟩ (.int .i64 t307)).setCell ⟨gb313, 2, none⟩ (.int .i64 t308)).setCell ⟨gb313, 3, none⟩ (.int .i64 t309)).setCell ⟨gb313, 4, none⟩ (.int .i64 t310)).setCell ⟨gb313, 5, none⟩ (.int .i64 t311)).heap[gb288]? = some (.cells #[.int .i64 t281, .int .i64 t282, .int .i64 t283, .int .i64 t284, .int .i64 t285, .int .i64 t286] 29 (0, 0))) := ⟨by (with_reducible repeat (first | refine blk_drewN ?_ _ | refine blk_drew ?_ | refine blk_alloc ?_ _)); refine blk_far ?_ NB288_313.out _; refine blk_far ?_ NB288_313.out _; refine blk_far ?_ NB288_313.out _; refine blk_far ?_ NB288_313.out _; refine blk_far ?_ NB288_313.out _; refine blk_far ?_ NB288_313.out _; exact BK288.out⟩
       have n3_ : Aside0 (((((((w49.setCell ⟨gb313, 0, none⟩ (.int .i64 t306)).setCell ⟨gb313, 1, none⟩ (.int .i64 t307)).setCell ⟨gb313, 2, none⟩ (.int .i64 t308)).setCell ⟨gb313, 3, none⟩ (.int .i64 t309)).setCell ⟨gb313, 4, none⟩ (.int .i64 t310)).setCell ⟨gb313, 5, none⟩ (.int .i64 t311)).heap[gb297]? = some (.cells #[.int .i64 t290, .int .i64 t291, .int .i64 t292, .int .i64 t293, .int .i64 t294, .int .i64 t295] 29 (0, 0))) := ⟨by (with_reducible repeat (first | refine blk_drewN ?_ _ | refine blk_drew ?_ | refine blk_alloc ?_ _)); refine blk_far ?_ NB297_313.out _; refine blk_far ?_ NB297_313.out _; refine blk_far ?_ NB297_313.out _; refine blk_far ?_ NB297_313.out _; refine blk_far ?_ NB297_313.out _; refine blk_far ?_ NB297_313.out _; exact BK297.out⟩
       have n4_ : Aside0 (((((((w49.setCell ⟨gb313, 0, none⟩ (.int .i64 t306)).setCell ⟨gb313, 1, none⟩ (.int .i64 t307)).setCell ⟨gb313, 2, none⟩ (.int .i64 t308)).setCell ⟨gb313, 3, none⟩ (.int .i64 t309)).setCell ⟨gb313, 4, none⟩ (.int .i64 t310)).setCell ⟨gb313, 5, none⟩ (.int .i64 t311)).heap[gb305]? = some (.cells #[.int .i64 t298, .int .i64 t299, .int .i64 t300, .int .i64 t301, .int .i64 t302, .int .i64 t303] 29 (0, 0))) := ⟨by (with_reducible repeat (first | refine blk_drewN ?_ _ | refine blk_drew ?_ | refine blk_alloc ?_ _)); refine blk_far ?_ NB305_313.out _; refine blk_far ?_ NB305_313.out _; refine blk_far ?_ NB305_313.out _; refine blk_far ?_ NB305_313.out _; refine blk_far ?_ NB305_313.out _; refine blk_far ?_ NB305_313.out _; exact BK305.out⟩
       have n5_ : Aside0 (((((((w49.setCell ⟨gb313, 0, none⟩ (.int .i64 t306)).setCell ⟨gb313, 1, none⟩ (.int .i64 t307)).setCell ⟨gb313, 2, none⟩ (.int .i64 t308)).setCell ⟨gb313, 3, none⟩ (.int .i64 t309)).setCell ⟨gb313, 4, none⟩ (.int .i64 t310)).setCell ⟨gb313, 5, none⟩ (.int .i64 t311)).heap[gb313]? = some (.cells #[.int .i64 t306, .int .i64 t307, .int .i64 t308, .int .i64 t309, .int .i64 t310, .int .i64 t311] 29 (0, 0))) := ⟨by (with_reducible repeat (first | refine blk_drewN ?_ _ | refine blk_drew ?_ | refine blk_alloc ?_ _)); refine blk_put (cs := #[.int .i64 t306, .int .i64 t307, .int .i64 t308, .int .i64 t309, .int .i64 t310, .int .i64 0]) ?_ 5 _ rfl; refine blk_put (cs := #[.int .i64 t306, .int .i64 t307, .int .i64 t308, .int .i64 t309, .int .i64 0, .int .i64 0]) ?_ 4 _ rfl; refine blk_put (cs := #[.int .i64 t306, .int .i64 t307, .int .i64 t308, .int .i64 0, .int .i64 0, .int .i64 0]) ?_ 3 _ rfl; refine blk_put (cs := #[.int .i64 t306, .int .i64 t307, .int .i64 0, .int .i64 0, .int .i64 0, .int .i64 0]) ?_ 2 _ rfl; refine blk_put (cs := #[.int .i64 t306, .int .i64 0, .int .i64 0, .int .i64 0, .int .i64 0, .int .i64 0]) ?_ 1 _ rfl; refine blk_put (cs := #[.int .i64 0, .int .i64 0, .int .i64 0, .int .i64 0, .int .i64 0, .int .i64 0]) ?_ 0 _ rfl; exact BK313.out⟩
       have n6_ : Aside0 (Below w.heap.size w ((((((w49.setCell ⟨gb313, 0, none⟩ (.int .i64 t306)).setCell ⟨gb313, 1, none⟩ (.int .i64 t307)).setCell ⟨gb313, 2, none⟩ (.int .i64 t308)).setCell ⟨gb313, 3, none⟩ (.int .i64 t309)).setCell ⟨gb313, 4, none⟩ (.int .i64 t310)).setCell ⟨gb313, 5, none⟩ (.int .i64 t311))) := ⟨by repeat (first | (with_reducible first | exact HB.out | apply below_alloc | apply pw_below_drewN | apply below_drew1 | refine below_set ?_ GE279.out | refine below_set ?_ GE280.out | refine below_set ?_ GE288.out | refine below_set ?_ GE297.out | refine below_set ?_ GE305.out | refine below_set ?_ GE313.out) | exact HB.out)⟩
       (try clear BK279)
       (try clear BK280)
       (try clear BK288)
       (try clear BK297)
       (try clear BK305)
       (try clear BK313)
       (try clear HB)
       generalize ((((((w49.setCell ⟨gb313, 0, none⟩ (.int .i64 t306)).setCell ⟨gb313, 1, none⟩ (.int .i64 t307)).setCell ⟨gb313, 2, none⟩ (.int .i64 t308)).setCell ⟨gb313, 3, none⟩ (.int .i64 t309)).setCell ⟨gb313, 4, none⟩ (.int .i64 t310)).setCell ⟨gb313, 5, none⟩ (.int .i64 t311)) = w60 at n0_ n1_ n2_ n3_ n4_ n5_ n6_ ⊢
       have BK279 := n0_
       have BK280 := n1_
       have BK288 := n2_
       have BK297 := n3_
       have BK305 := n4_
       have BK313 := n5_
       have HB := n6_
       clear n0_ n1_ n2_ n3_ n4_ n5_ n6_
       have n0_ := Aside0.mk (blk_drew BK279.out)
       have n1_ := Aside0.mk (blk_drew BK280.out)
       have n2_ := Aside0.mk (blk_drew BK288.out)
       have n3_ := Aside0.mk (blk_drew BK297.out)
       have n4_ := Aside0.mk (blk_drew BK305.out)
       have n5_ := Aside0.mk (blk_drew BK313.out)
       have n6_ := Aside0.mk (below_drew1 HB.out)
       clear BK279
       clear BK280
       clear BK288
       clear BK297
       clear BK305
       clear BK313
       clear HB
       have BK279 := n0_
       have BK280 := n1_
       have BK288 := n2_
       have BK297 := n3_
       have BK305 := n4_
       have BK313 := n5_
       have HB := n6_
       clear n0_ n1_ n2_ n3_ n4_ n5_ n6_
       refine start_ (n := 13) (S := fun w' => w'.cell? ⟨gb279, 0, none⟩ = some (.int .i64 a0_0) ∧ w'.cell? ⟨gb279, 1, none⟩ = some (.int .i64 a0_1) ∧ w'.cell? ⟨gb279, 2, none⟩ = some (.int .i64 a0_2) ∧ w'.cell? ⟨gb279, 3, none⟩ = some (.int .i64 a0_3) ∧ w'.cell? ⟨gb279, 4, none⟩ = some (.int .i64 a0_4) ∧ w'.cell? ⟨gb279, 5, none⟩ = some (.int .i64 a0_5) ∧ w'.cell? ⟨gb280, 0, none⟩ = some (.int .i64 a1_0) ∧ w'.cell? ⟨gb280, 1, none⟩ = some (.int .i64 a1_1)) (ds := []) (ab 13 0) (by kernel_rfl) rfl rfl ⟨(blk_cell BK279.out 0).trans rfl, (blk_cell BK279.out 1).trans rfl, (blk_cell BK279.out 2).trans rfl, (blk_cell BK279.out 3).trans rfl, (blk_cell BK279.out 4).trans rfl, (blk_cell BK279.out 5).trans rfl, (blk_cell BK280.out 0).trans rfl, (blk_cell BK280.out 1).trans rfl⟩ (fun hHeld => ?_); refine with_tabW tourlaw5_SteerTells.tab8 tourlaw5_SteerTells.bits8 (fun HT_ HW_ => ?_)
       generalize w60.drew = w61 at BK279 BK280 BK288 BK297 BK305 BK313 HB hHeld ⊢
       refine pure_ (i := 2) (N := some 58) (v := ?_) (a' := ?_) (ab 13 4) rfl rfl (any_of HT_.out (by kernel_rfl)) (fun _ _ _ h => h) (Or.inl ⟨by rfl, ?_⟩) ?_ ?_
       rotate_left
       ·intro w'
        go_simp
        with_reducible rfl
       rotate_left
       ·simp only [Act.put, zq1, zq2, zq3, i64_w, i32_w]
        rfl
       refine take_ (i := 0) (N := some 56) (v := ?_) (a' := ?_) (ab 13 5) rfl rfl (take_ofW HT_.out HW_.out (by kernel_rfl)) (fun _ _ _ h => h) (Or.inl ⟨by rfl, ?_⟩) hHeld ?_ ?_
       rotate_left
       ·rintro w' ⟨s0, s1, s2, s3, s4, s5, s6, s7⟩
        go_simp
        with_reducible rfl
       rotate_left
       ·simp only [Act.put, zq1, zq2, zq3, i64_w, i32_w]
        rfl
       refine one_ (i := 1) (N := some 57) (ab 13 7) rfl rfl (one_of HT_.out (by kernel_rfl)) (by decide) (fun K hK => ?_)
       refine goes_ Try.func23 (by kernel_rfl) rfl #[.agg #[.int .i64 a0_0, .int .i64 a0_1, .int .i64 a0_2, .int .i64 a0_3, .int .i64 a0_4, .int .i64 a0_5]] (by rfl) rfl rfl (by (try simp only [zm1, zm2, zm3]); first | done | rfl) ?_
       with_reducible refine (steer_Check.calls kj5 a0_0 a0_1 a0_2 a0_3 a0_4 a0_5 t314 _ A56.out).mono ?_
       rintro e w62 ⟨rfl, hb⟩
       refine ⟨_, rfl, ?_⟩
       have n0_ := Aside0.mk (bb hb BK279.out)
       have n1_ := Aside0.mk (bb hb BK280.out)
       have n2_ := Aside0.mk (bb hb BK288.out)
       have n3_ := Aside0.mk (bb hb BK297.out)
       have n4_ := Aside0.mk (bb hb BK305.out)
       have n5_ := Aside0.mk (bb hb BK313.out)
       have n6_ := Aside0.mk (below_step (by repeat (first | (with_reducible first | exact HB.out | apply below_alloc | apply pw_below_drewN | apply below_drew1 | refine below_set ?_ GE279.out | refine below_set ?_ GE280.out | refine below_set ?_ GE288.out | refine below_set ?_ GE297.out | refine below_set ?_ GE305.out | refine below_set ?_ GE313.out) | exact HB.out)) hb)
       clear BK279
       clear BK280
       clear BK288
       clear BK297
       clear BK305
       clear BK313
       clear HB
       have BK279 := n0_
       have BK280 := n1_
       have BK288 := n2_
       have BK297 := n3_
       have BK305 := n4_
       have BK313 := n5_
       have HB := n6_
       clear n0_ n1_ n2_ n3_ n4_ n5_ n6_
       (try clear hb)
       (try clear hb2)
       (try clear hk)
       (try clear hi)
       refine hK.out _ _ ⟨(blk_cell BK279.out 0).trans rfl, (blk_cell BK279.out 1).trans rfl, (blk_cell BK279.out 2).trans rfl, (blk_cell BK279.out 3).trans rfl, (blk_cell BK279.out 4).trans rfl, (blk_cell BK279.out 5).trans rfl, (blk_cell BK280.out 0).trans rfl, (blk_cell BK280.out 1).trans rfl⟩ (fun hHeld => ?_)
       clear hK K
       refine norm_ (a' := ?_) ?_ ?_
       rotate_left
       ·show Act.put _ (some 57) _ = _
        simp only [Act.put, zq1, zq2, zq3, i64_w, i32_w]
        rfl
       refine pure_ (i := 3) (N := some 59) (v := ?_) (a' := ?_) (ab 13 15) rfl rfl (any_of HT_.out (by kernel_rfl)) (fun _ _ _ h => h) (Or.inl ⟨by rfl, ?_⟩) ?_ ?_
       rotate_left
       ·intro w'
        go_simp
        with_reducible rfl
       rotate_left
       ·simp only [Act.put, zq1, zq2, zq3, i64_w, i32_w]
        rfl
       refine pure_ (i := 4) (N := some 60) (v := ?_) (a' := ?_) (ab 13 31) rfl rfl (any_of HT_.out (by kernel_rfl)) (fun _ _ _ h => h) (Or.inl ⟨by rfl, ?_⟩) ?_ ?_
       rotate_left
       ·intro w'
        go_simp
        with_reducible rfl
       rotate_left
       ·simp only [Act.put, zq1, zq2, zq3, i64_w, i32_w]
        rfl
       refine pure_ (i := 6) (N := some 62) (v := ?_) (a' := ?_) (ab 13 95) rfl rfl (any_of HT_.out (by kernel_rfl)) (fun _ _ _ h => h) (Or.inl ⟨by rfl, ?_⟩) ?_ ?_
       rotate_left
       ·intro w'
        go_simp
        with_reducible rfl
       rotate_left
       ·simp only [Act.put, zq1, zq2, zq3, i64_w, i32_w]
        rfl
       refine pure_ (i := 9) (N := some 65) (v := ?_) (a' := ?_) (ab 13 607) rfl rfl (any_of HT_.out (by kernel_rfl)) (fun _ _ _ h => h) (Or.inl ⟨by rfl, ?_⟩) ?_ ?_
       rotate_left
       ·intro w'
        go_simp
        with_reducible rfl
       rotate_left
       ·simp only [Act.put, zq1, zq2, zq3, i64_w, i32_w]
        rfl
       refine take_ (i := 5) (N := some 61) (v := ?_) (a' := ?_) (ab 13 639) rfl rfl (take_ofW HT_.out HW_.out (by kernel_rfl)) (fun _ _ _ h => h) (Or.inl ⟨by rfl, ?_⟩) hHeld ?_ ?_
       rotate_left
       ·rintro w' ⟨s0, s1, s2, s3, s4, s5, s6, s7⟩
        go_simp
        with_reducible rfl
       rotate_left
       ·simp only [Act.put, zq1, zq2, zq3, i64_w, i32_w]
        rfl
       refine take_ (i := 8) (N := some 64) (v := ?_) (a' := ?_) (ab 13 895) rfl rfl (take_ofW HT_.out HW_.out (by kernel_rfl)) (fun _ _ _ h => h) (Or.inl ⟨by rfl, ?_⟩) hHeld ?_ ?_
       rotate_left
       ·rintro w' ⟨s0, s1, s2, s3, s4, s5, s6, s7⟩
        go_simp
        with_reducible rfl
       rotate_left
       ·simp only [Act.put, zq1, zq2, zq3, i64_w, i32_w]
        rfl
       refine one_ (i := 7) (N := some 63) (ab 13 1023) rfl rfl (one_of HT_.out (by kernel_rfl)) (by decide) (fun K hK => ?_)
       refine goes_ Try.func24 (by kernel_rfl) rfl #[.agg #[.int .i64 a1_0, .int .i64 a1_1], .int .i64 a3] (by rfl) rfl rfl (by (try simp only [zm1, zm2, zm3]); first | done | rfl) ?_
       with_reducible refine (steer_Short.calls kj5 a1_0 a1_1 a3 t315 t316 _ A58.out).mono ?_
       rintro e w63 ⟨rfl, hb⟩
       refine ⟨_, rfl, ?_⟩
       have n0_ := Aside0.mk (bb hb BK279.out)
       have n1_ := Aside0.mk (bb hb BK280.out)
       have n2_ := Aside0.mk (bb hb BK288.out)
       have n3_ := Aside0.mk (bb hb BK297.out)
       have n4_ := Aside0.mk (bb hb BK305.out)
       have n5_ := Aside0.mk (bb hb BK313.out)
       have n6_ := Aside0.mk (below_step (by repeat (first | (with_reducible first | exact HB.out | apply below_alloc | apply pw_below_drewN | apply below_drew1 | refine below_set ?_ GE279.out | refine below_set ?_ GE280.out | refine below_set ?_ GE288.out | refine below_set ?_ GE297.out | refine below_set ?_ GE305.out | refine below_set ?_ GE313.out) | exact HB.out)) hb)
       clear BK279
       clear BK280
       clear BK288
       clear BK297
       clear BK305
       clear BK313
       clear HB
       have BK279 := n0_
       have BK280 := n1_
       have BK288 := n2_
       have BK297 := n3_
       have BK305 := n4_
       have BK313 := n5_
       have HB := n6_
       clear n0_ n1_ n2_ n3_ n4_ n5_ n6_
       (try clear hb)
       (try clear hb2)
       (try clear hk)
       (try clear hi)
       refine hK.out _ _ ⟨(blk_cell BK279.out 0).trans rfl, (blk_cell BK279.out 1).trans rfl, (blk_cell BK279.out 2).trans rfl, (blk_cell BK279.out 3).trans rfl, (blk_cell BK279.out 4).trans rfl, (blk_cell BK279.out 5).trans rfl, (blk_cell BK280.out 0).trans rfl, (blk_cell BK280.out 1).trans rfl⟩ (fun hHeld => ?_)
       clear hK K
       refine norm_ (a' := ?_) ?_ ?_
       rotate_left
       ·show Act.put _ (some 63) _ = _
        simp only [Act.put, zq1, zq2, zq3, i64_w, i32_w]
        rfl
       refine one_ (i := 10) (N := some 66) (ab 13 2047) rfl rfl (one_of HT_.out (by kernel_rfl)) (by decide) (fun K hK => ?_)
       refine goes_ Try.func25 (by kernel_rfl) rfl #[.agg #[.int .i64 a1_0, .int .i64 a1_1], .int .i64 a3] (by rfl) rfl rfl (by (try simp only [zm1, zm2, zm3]); first | done | rfl) ?_
       with_reducible refine (tourref5_Cut.calls kj5 a1_0 a1_1 a3 t317 t318 _ A59.out).mono ?_
       rintro e w64 ⟨rfl, hb⟩
       refine ⟨_, rfl, ?_⟩
       have n0_ := Aside0.mk (bb hb BK279.out)
       have n1_ := Aside0.mk (bb hb BK280.out)
       have n2_ := Aside0.mk (bb hb BK288.out)
       have n3_ := Aside0.mk (bb hb BK297.out)
       have n4_ := Aside0.mk (bb hb BK305.out)
       have n5_ := Aside0.mk (bb hb BK313.out)
       have n6_ := Aside0.mk (below_step (by repeat (first | (with_reducible first | exact HB.out | apply below_alloc | apply pw_below_drewN | apply below_drew1 | refine below_set ?_ GE279.out | refine below_set ?_ GE280.out | refine below_set ?_ GE288.out | refine below_set ?_ GE297.out | refine below_set ?_ GE305.out | refine below_set ?_ GE313.out) | exact HB.out)) hb)
       clear BK279
       clear BK280
       clear BK288
       clear BK297
       clear BK305
       clear BK313
       clear HB
       have BK279 := n0_
       have BK280 := n1_
       have BK288 := n2_
       have BK297 := n3_
       have BK305 := n4_
       have BK313 := n5_
       have HB := n6_
       clear n0_ n1_ n2_ n3_ n4_ n5_ n6_
       (try clear hb)
       (try clear hb2)
       (try clear hk)
       (try clear hi)
       refine hK.out _ _ ⟨(blk_cell BK279.out 0).trans rfl, (blk_cell BK279.out 1).trans rfl, (blk_cell BK279.out 2).trans rfl, (blk_cell BK279.out 3).trans rfl, (blk_cell BK279.out 4).trans rfl, (blk_cell BK279.out 5).trans rfl, (blk_cell BK280.out 0).trans rfl, (blk_cell BK280.out 1).trans rfl⟩ (fun hHeld => ?_)
       clear hK K
       refine norm_ (a' := ?_) ?_ ?_
       rotate_left
       ·show Act.put _ (some 66) _ = _
        simp only [Act.put, zq1, zq2, zq3, i64_w, i32_w]
        rfl
       refine pure_ (i := 11) (N := some 67) (v := ?_) (a' := ?_) (ab 13 4095) rfl rfl (any_of HT_.out (by kernel_rfl)) (fun _ _ _ h => h) (Or.inl ⟨by rfl, ?_⟩) ?_ ?_
       rotate_left
       ·intro w'
        go_simp
        with_reducible rfl
       rotate_left
       ·simp only [Act.put, zq1, zq2, zq3, i64_w, i32_w]
        rfl
       refine pure_ (i := 12) (N := some 68) (v := ?_) (a' := ?_) (ab 13 8191) rfl rfl (any_of HT_.out (by kernel_rfl)) (fun _ _ _ h => h) (Or.inl ⟨by rfl, ?_⟩) ?_ ?_
       rotate_left
       ·intro w'
        go_simp
        with_reducible rfl
       rotate_left
       ·simp only [Act.put, zq1, zq2, zq3, i64_w, i32_w]
        rfl
       refine done_ (done_of HT_.out (by kernel_rfl)) ?_
       try go_wp2
       go_meet
       case rel => exact ⟨_, ((!(t315 == t317) || (!(t316 == t318)))), (by first | rfl | (simp; done) | (simp [*]; done)), H', ⟨by have := HJ5.out; first | omega | exact Nat.le_refl _⟩, ⟨BK279.out⟩, ⟨BK280.out⟩, ⟨BK288.out⟩, ⟨BK297.out⟩, ⟨BK305.out⟩, ⟨BK313.out⟩, ⟨by repeat (first | (with_reducible first | exact HB.out | apply below_alloc | apply pw_below_drewN | apply below_drew1 | refine below_set ?_ GE279.out | refine below_set ?_ GE280.out | refine below_set ?_ GE288.out | refine below_set ?_ GE297.out | refine below_set ?_ GE305.out | refine below_set ?_ GE313.out) | exact HB.out)⟩⟩
      ·rw [if_neg c57] at H
       have c57b0 : (t314 == t289) = false := beq_eq_false_iff_ne.mpr c57
       have c57b1 : (t314 != t289) = true := bne_iff_ne.mpr c57
       (first | rw [c57b0] | (simp only [i64_w, i32_w]; rw [c57b0]) | skip)
       have H' := Aside0.mk H
       clear H
       try go_wp2
       have n0_ : Aside0 (((((((w49.setCell ⟨gb313, 0, none⟩ (.int .i64 t306)).setCell ⟨gb313, 1, none⟩ (.int .i64 t307)).setCell ⟨gb313, 2, none⟩ (.int .i64 t308)).setCell ⟨gb313, 3, none⟩ (.int .i64 t309)).setCell ⟨gb313, 4, none⟩ (.int .i64 t310)).setCell ⟨gb313, 5, none⟩ (.int .i64 t311)).heap[gb279]? = some (.cells #[.int .i64 a0_0, .int .i64 a0_1, .int .i64 a0_2, .int .i64 a0_3, .int .i64 a0_4, .int .i64 a0_5] 29 (0, 0))) := ⟨by (with_reducible repeat (first | refine blk_drewN ?_ _ | refine blk_drew ?_ | refine blk_alloc ?_ _)); refine blk_far ?_ NB279_313.out _; refine blk_far ?_ NB279_313.out _; refine blk_far ?_ NB279_313.out _; refine blk_far ?_ NB279_313.out _; refine blk_far ?_ NB279_313.out _; refine blk_far ?_ NB279_313.out _; exact BK279.out⟩
       have n1_ : Aside0 (((((((w49.setCell ⟨gb313, 0, none⟩ (.int .i64 t306)).setCell ⟨gb313, 1, none⟩ (.int .i64 t307)).setCell ⟨gb313, 2, none⟩ (.int .i64 t308)).setCell ⟨gb313, 3, none⟩ (.int .i64 t309)).setCell ⟨gb313, 4, none⟩ (.int .i64 t310)).setCell ⟨gb313, 5, none⟩ (.int .i64 t311)).heap[gb280]? = some (.cells #[.int .i64 a1_0, .int .i64 a1_1] 27 (0, 0))) := ⟨by (with_reducible repeat (first | refine blk_drewN ?_ _ | refine blk_drew ?_ | refine blk_alloc ?_ _)); refine blk_far ?_ NB280_313.out _; refine blk_far ?_ NB280_313.out _; refine blk_far ?_ NB280_313.out _; refine blk_far ?_ NB280_313.out _; refine blk_far ?_ NB280_313.out _; refine blk_far ?_ NB280_313.out _; exact BK280.out⟩
       have n2_ : Aside0 (((((((w49.setCell ⟨gb313, 0, none⟩ (.int .i64 t306)).setCell ⟨gb313, 1, none⟩ (.int .i64 t307)).setCell ⟨gb313, 2, none⟩ (.int .i64 t308)).setCell ⟨gb313, 3, none⟩ (.int .i64 t309)).setCell ⟨gb313, 4, none⟩ (.int .i64 t310)).setCell ⟨gb313, 5, none⟩ (.int .i64 t311)).heap[gb288]? = some (.cells #[.int .i64 t281, .int .i64 t282, .int .i64 t283, .int .i64 t284, .int .i64 t285, .int .i64 t286] 29 (0, 0))) := ⟨by (with_reducible repeat (first | refine blk_drewN ?_ _ | refine blk_drew ?_ | refine blk_alloc ?_ _)); refine blk_far ?_ NB288_313.out _; refine blk_far ?_ NB288_313.out _; refine blk_far ?_ NB288_313.out _; refine blk_far ?_ NB288_313.out _; refine blk_far ?_ NB288_313.out _; refine blk_far ?_ NB288_313.out _; exact BK288.out⟩
       have n3_ : Aside0 (((((((w49.setCell ⟨gb313, 0, none⟩ (.int .i64 t306)).setCell ⟨gb313, 1, none⟩ (.int .i64 t307)).setCell ⟨gb313, 2, none⟩ (.int .i64 t308)).setCell ⟨gb313, 3, none⟩ (.int .i64 t309)).setCell ⟨gb313, 4, none⟩ (.int .i64 t310)).setCell ⟨gb313, 5, none⟩ (.int .i64 t311)).heap[gb297]? = some (.cells #[.int .i64 t290, .int .i64 t291, .int .i64 t292, .int .i64 t293, .int .i64 t294, .int .i64 t295] 29 (0, 0))) := ⟨by (with_reducible repeat (first | refine blk_drewN ?_ _ | refine blk_drew ?_ | refine blk_alloc ?_ _)); refine blk_far ?_ NB297_313.out _; refine blk_far ?_ NB297_313.out _; refine blk_far ?_ NB297_313.out _; refine blk_far ?_ NB297_313.out _; refine blk_far ?_ NB297_313.out _; refine blk_far ?_ NB297_313.out _; exact BK297.out⟩
       have n4_ : Aside0 (((((((w49.setCell ⟨gb313, 0, none⟩ (.int .i64 t306)).setCell ⟨gb313, 1, none⟩ (.int .i64 t307)).setCell ⟨gb313, 2, none⟩ (.int .i64 t308)).setCell ⟨gb313, 3, none⟩ (.int .i64 t309)).setCell ⟨gb313, 4, none⟩ (.int .i64 t310)).setCell ⟨gb313, 5, none⟩ (.int .i64 t311)).heap[gb305]? = some (.cells #[.int .i64 t298, .int .i64 t299, .int .i64 t300, .int .i64 t301, .int .i64 t302, .int .i64 t303] 29 (0, 0))) := ⟨by (with_reducible repeat (first | refine blk_drewN ?_ _ | refine blk_drew ?_ | refine blk_alloc ?_ _)); refine blk_far ?_ NB305_313.out _; refine blk_far ?_ NB305_313.out _; refine blk_far ?_ NB305_313.out _; refine blk_far ?_ NB305_313.out _; refine blk_far ?_ NB305_313.out _; refine blk_far ?_ NB305_313.out _; exact BK305.out⟩
       have n5_ : Aside0 (((((((w49.setCell ⟨gb313, 0, none⟩ (.int .i64 t306)).setCell ⟨gb313, 1, none⟩ (.int .i64 t307)).setCell ⟨gb313, 2, none⟩ (.int .i64 t308)).setCell ⟨gb313, 3, none⟩ (.int .i64 t309)).setCell ⟨gb313, 4, none⟩ (.int .i64 t310)).setCell ⟨gb313, 5, none⟩ (.int .i64 t311)).heap[gb313]? = some (.cells #[.int .i64 t306, .int .i64 t307, .int .i64 t308, .int .i64 t309, .int .i64 t310, .int .i64 t311] 29 (0, 0))) := ⟨by (with_reducible repeat (first | refine blk_drewN ?_ _ | refine blk_drew ?_ | refine blk_alloc ?_ _)); refine blk_put (cs := #[.int .i64 t306, .int .i64 t307, .int .i64 t308, .int .i64 t309, .int .i64 t310, .int .i64 0]) ?_ 5 _ rfl; refine blk_put (cs := #[.int .i64 t306, .int .i64 t307, .int .i64 t308, .int .i64 t309, .int .i64 0, .int .i64 0]) ?_ 4 _ rfl; refine blk_put (cs := #[.int .i64 t306, .int .i64 t307, .int .i64 t308, .int .i64 0, .int .i64 0, .int .i64 0]) ?_ 3 _ rfl; refine blk_put (cs := #[.int .i64 t306, .int .i64 t307, .int .i64 0, .int .i64 0, .int .i64 0, .int .i64 0]) ?_ 2 _ rfl; refine blk_put (cs := #[.int .i64 t306, .int .i64 0, .int .i64 0, .int .i64 0, .int .i64 0, .int .i64 0]) ?_ 1 _ rfl; refine blk_put (cs := #[.int .i64 0, .int .i64 0, .int .i64 0, .int .i64 0, .int .i64 0, .int .i64 0]) ?_ 0 _ rfl; exact BK313.out⟩
       have n6_ : Aside0 (Below w.heap.size w ((((((w49.setCell ⟨gb313, 0, none⟩ (.int .i64 t306)).setCell ⟨gb313, 1, none⟩ (.int .i64 t307)).setCell ⟨gb313, 2, none⟩ (.int .i64 t308)).setCell ⟨gb313, 3, none⟩ (.int .i64 t309)).setCell ⟨gb313, 4, none⟩ (.int .i64 t310)).setCell ⟨gb313, 5, none⟩ (.int .i64 t311))) := ⟨by repeat (first | (with_reducible first | exact HB.out | apply below_alloc | apply pw_below_drewN | apply below_drew1 | refine below_set ?_ GE279.out | refine below_set ?_ GE280.out | refine below_set ?_ GE288.out | refine below_set ?_ GE297.out | refine below_set ?_ GE305.out | refine below_set ?_ GE313.out) | exact HB.out)⟩
       (try clear BK279)
       (try clear BK280)
       (try clear BK288)
       (try clear BK297)
       (try clear BK305)
       (try clear BK313)
       (try clear HB)
       generalize ((((((w49.setCell ⟨gb313, 0, none⟩ (.int .i64 t306)).setCell ⟨gb313, 1, none⟩ (.int .i64 t307)).setCell ⟨gb313, 2, none⟩ (.int .i64 t308)).setCell ⟨gb313, 3, none⟩ (.int .i64 t309)).setCell ⟨gb313, 4, none⟩ (.int .i64 t310)).setCell ⟨gb313, 5, none⟩ (.int .i64 t311)) = w65 at n0_ n1_ n2_ n3_ n4_ n5_ n6_ ⊢
       have BK279 := n0_
       have BK280 := n1_
       have BK288 := n2_
       have BK297 := n3_
       have BK305 := n4_
       have BK313 := n5_
       have HB := n6_
       clear n0_ n1_ n2_ n3_ n4_ n5_ n6_
       have n0_ := Aside0.mk (blk_drew BK279.out)
       have n1_ := Aside0.mk (blk_drew BK280.out)
       have n2_ := Aside0.mk (blk_drew BK288.out)
       have n3_ := Aside0.mk (blk_drew BK297.out)
       have n4_ := Aside0.mk (blk_drew BK305.out)
       have n5_ := Aside0.mk (blk_drew BK313.out)
       have n6_ := Aside0.mk (below_drew1 HB.out)
       clear BK279
       clear BK280
       clear BK288
       clear BK297
       clear BK305
       clear BK313
       clear HB
       have BK279 := n0_
       have BK280 := n1_
       have BK288 := n2_
       have BK297 := n3_
       have BK305 := n4_
       have BK313 := n5_
       have HB := n6_
       clear n0_ n1_ n2_ n3_ n4_ n5_ n6_
       refine start_ (n := 13) (S := fun w' => w'.cell? ⟨gb279, 0, none⟩ = some (.int .i64 a0_0) ∧ w'.cell? ⟨gb279, 1, none⟩ = some (.int .i64 a0_1) ∧ w'.cell? ⟨gb279, 2, none⟩ = some (.int .i64 a0_2) ∧ w'.cell? ⟨gb279, 3, none⟩ = some (.int .i64 a0_3) ∧ w'.cell? ⟨gb279, 4, none⟩ = some (.int .i64 a0_4) ∧ w'.cell? ⟨gb279, 5, none⟩ = some (.int .i64 a0_5)) (ds := []) (ab 13 0) (by kernel_rfl) rfl rfl ⟨(blk_cell BK279.out 0).trans rfl, (blk_cell BK279.out 1).trans rfl, (blk_cell BK279.out 2).trans rfl, (blk_cell BK279.out 3).trans rfl, (blk_cell BK279.out 4).trans rfl, (blk_cell BK279.out 5).trans rfl⟩ (fun hHeld => ?_); refine with_tabW tourlaw5_SteerTells.tab8 tourlaw5_SteerTells.bits8 (fun HT_ HW_ => ?_)
       generalize w65.drew = w66 at BK279 BK280 BK288 BK297 BK305 BK313 HB hHeld ⊢
       refine pure_ (i := 2) (N := some 58) (v := ?_) (a' := ?_) (ab 13 4) rfl rfl (any_of HT_.out (by kernel_rfl)) (fun _ _ _ h => h) (Or.inl ⟨by rfl, ?_⟩) ?_ ?_
       rotate_left
       ·intro w'
        go_simp
        with_reducible rfl
       rotate_left
       ·simp only [Act.put, zq1, zq2, zq3, i64_w, i32_w]
        rfl
       refine take_ (i := 0) (N := some 56) (v := ?_) (a' := ?_) (ab 13 5) rfl rfl (take_ofW HT_.out HW_.out (by kernel_rfl)) (fun _ _ _ h => h) (Or.inl ⟨by rfl, ?_⟩) hHeld ?_ ?_
       rotate_left
       ·rintro w' ⟨s0, s1, s2, s3, s4, s5⟩
        go_simp
        with_reducible rfl
       rotate_left
       ·simp only [Act.put, zq1, zq2, zq3, i64_w, i32_w]
        rfl
       refine one_ (i := 1) (N := some 57) (ab 13 7) rfl rfl (one_of HT_.out (by kernel_rfl)) (by decide) (fun K hK => ?_)
       refine goes_ Try.func23 (by kernel_rfl) rfl #[.agg #[.int .i64 a0_0, .int .i64 a0_1, .int .i64 a0_2, .int .i64 a0_3, .int .i64 a0_4, .int .i64 a0_5]] (by rfl) rfl rfl (by (try simp only [zm1, zm2, zm3]); first | done | rfl) ?_
       with_reducible refine (steer_Check.calls kj5 a0_0 a0_1 a0_2 a0_3 a0_4 a0_5 t314 _ A56.out).mono ?_
       rintro e w67 ⟨rfl, hb⟩
       refine ⟨_, rfl, ?_⟩
       have n0_ := Aside0.mk (bb hb BK279.out)
       have n1_ := Aside0.mk (bb hb BK280.out)
       have n2_ := Aside0.mk (bb hb BK288.out)
       have n3_ := Aside0.mk (bb hb BK297.out)
       have n4_ := Aside0.mk (bb hb BK305.out)
       have n5_ := Aside0.mk (bb hb BK313.out)
       have n6_ := Aside0.mk (below_step (by repeat (first | (with_reducible first | exact HB.out | apply below_alloc | apply pw_below_drewN | apply below_drew1 | refine below_set ?_ GE279.out | refine below_set ?_ GE280.out | refine below_set ?_ GE288.out | refine below_set ?_ GE297.out | refine below_set ?_ GE305.out | refine below_set ?_ GE313.out) | exact HB.out)) hb)
       clear BK279
       clear BK280
       clear BK288
       clear BK297
       clear BK305
       clear BK313
       clear HB
       have BK279 := n0_
       have BK280 := n1_
       have BK288 := n2_
       have BK297 := n3_
       have BK305 := n4_
       have BK313 := n5_
       have HB := n6_
       clear n0_ n1_ n2_ n3_ n4_ n5_ n6_
       (try clear hb)
       (try clear hb2)
       (try clear hk)
       (try clear hi)
       refine hK.out _ _ ⟨(blk_cell BK279.out 0).trans rfl, (blk_cell BK279.out 1).trans rfl, (blk_cell BK279.out 2).trans rfl, (blk_cell BK279.out 3).trans rfl, (blk_cell BK279.out 4).trans rfl, (blk_cell BK279.out 5).trans rfl⟩ (fun hHeld => ?_)
       clear hK K
       refine norm_ (a' := ?_) ?_ ?_
       rotate_left
       ·show Act.put _ (some 57) _ = _
        simp only [Act.put, zq1, zq2, zq3, i64_w, i32_w]
        rfl
       refine pure_ (i := 3) (N := some 59) (v := ?_) (a' := ?_) (ab 13 15) rfl rfl (any_of HT_.out (by kernel_rfl)) (fun _ _ _ h => h) (Or.inl ⟨by rfl, ?_⟩) ?_ ?_
       rotate_left
       ·intro w'
        go_simp
        with_reducible rfl
       rotate_left
       ·simp only [Act.put, zq1, zq2, zq3, i64_w, i32_w]
        rfl
       refine pure_ (i := 4) (N := some 60) (v := ?_) (a' := ?_) (ab 13 31) rfl rfl (any_of HT_.out (by kernel_rfl)) (fun _ _ _ h => h) (Or.inl ⟨by rfl, ?_⟩) ?_ ?_
       rotate_left
       ·intro w'
        go_simp
        with_reducible rfl
       rotate_left
       ·simp only [Act.put, zq1, zq2, zq3, i64_w, i32_w]
        rfl
       refine pure_ (i := 5) (N := some 61) (v := undef) (a' := ?_) (ab 13 63) rfl rfl (any_of HT_.out (by kernel_rfl)) (fun _ _ _ h => h) (Or.inr ⟨by rfl, rfl⟩) ?_ ?_
       rotate_left
       ·simp only [Act.put, zq1, zq2, zq3, i64_w, i32_w]
        rfl
       refine pure_ (i := 6) (N := some 62) (v := undef) (a' := ?_) (ab 13 127) rfl rfl (any_of HT_.out (by kernel_rfl)) (fun _ _ _ h => h) (Or.inr ⟨by rfl, rfl⟩) ?_ ?_
       rotate_left
       ·simp only [Act.put, zq1, zq2, zq3, i64_w, i32_w]
        rfl
       refine pure_ (i := 7) (N := some 63) (v := undef) (a' := ?_) (ab 13 255) rfl rfl (any_of HT_.out (by kernel_rfl)) (fun _ _ _ h => h) (Or.inr ⟨by rfl, rfl⟩) ?_ ?_
       rotate_left
       ·simp only [Act.put, zq1, zq2, zq3, i64_w, i32_w]
        rfl
       refine pure_ (i := 8) (N := some 64) (v := undef) (a' := ?_) (ab 13 511) rfl rfl (any_of HT_.out (by kernel_rfl)) (fun _ _ _ h => h) (Or.inr ⟨by rfl, rfl⟩) ?_ ?_
       rotate_left
       ·simp only [Act.put, zq1, zq2, zq3, i64_w, i32_w]
        rfl
       refine pure_ (i := 9) (N := some 65) (v := undef) (a' := ?_) (ab 13 1023) rfl rfl (any_of HT_.out (by kernel_rfl)) (fun _ _ _ h => h) (Or.inr ⟨by rfl, rfl⟩) ?_ ?_
       rotate_left
       ·simp only [Act.put, zq1, zq2, zq3, i64_w, i32_w]
        rfl
       refine pure_ (i := 10) (N := some 66) (v := undef) (a' := ?_) (ab 13 2047) rfl rfl (any_of HT_.out (by kernel_rfl)) (fun _ _ _ h => h) (Or.inr ⟨by rfl, rfl⟩) ?_ ?_
       rotate_left
       ·simp only [Act.put, zq1, zq2, zq3, i64_w, i32_w]
        rfl
       refine pure_ (i := 11) (N := some 67) (v := undef) (a' := ?_) (ab 13 4095) rfl rfl (any_of HT_.out (by kernel_rfl)) (fun _ _ _ h => h) (Or.inr ⟨by rfl, rfl⟩) ?_ ?_
       rotate_left
       ·simp only [Act.put, zq1, zq2, zq3, i64_w, i32_w]
        rfl
       refine pure_ (i := 12) (N := some 68) (v := ?_) (a' := ?_) (ab 13 8191) rfl rfl (any_of HT_.out (by kernel_rfl)) (fun _ _ _ h => h) (Or.inl ⟨by rfl, ?_⟩) ?_ ?_
       rotate_left
       ·intro w'
        go_simp
        with_reducible rfl
       rotate_left
       ·simp only [Act.put, zq1, zq2, zq3, i64_w, i32_w]
        rfl
       refine done_ (done_of HT_.out (by kernel_rfl)) ?_
       try go_wp2
       go_meet
       case rel => exact ⟨_, (true), (by first | rfl | (simp; done) | (simp [*]; done)), H', ⟨by have := HJ5.out; first | omega | exact Nat.le_refl _⟩, ⟨BK279.out⟩, ⟨BK280.out⟩, ⟨BK288.out⟩, ⟨BK297.out⟩, ⟨BK305.out⟩, ⟨BK313.out⟩, ⟨by repeat (first | (with_reducible first | exact HB.out | apply below_alloc | apply pw_below_drewN | apply below_drew1 | refine below_set ?_ GE279.out | refine below_set ?_ GE280.out | refine below_set ?_ GE288.out | refine below_set ?_ GE297.out | refine below_set ?_ GE305.out | refine below_set ?_ GE313.out) | exact HB.out)⟩⟩
     case rest =>
      refine @idd ?P2 ?_
      let rec aux2 : ?P2 := by
       clear HC23
       try clear c1; try clear c2; try clear p2; try clear c3; try clear c4; try clear c5; try clear c11; try clear c12
       try clear c14; try clear c14b0; try clear c14b1; try clear c15; try clear c16; try clear c18; try clear c20; try clear c21
       try clear c22; try clear c23; try clear c24; try clear c25; try clear c29; try clear c33; try clear c34; try clear c35
       try clear c41; try clear c42; try clear c43; try clear c44; try clear c50; try clear c51; try clear c52; try clear c53
       try clear c54; try clear c57; try clear c57b0; try clear c57b1; try clear hcz13_0; try clear hcz13_1; try clear hcz13_2; try clear hcz13_3
       try clear hcz13_4; try clear hcz13_5; try clear hcz17_0; try clear hcz17_1; try clear hcz17_2; try clear hcz17_3; try clear hcz17_4; try clear hcz17_5
       try clear hcz26_0; try clear hcz26_1; try clear hcz26_2; try clear hcz26_3; try clear hcz26_4; try clear hcz26_5; try clear hcz28_0; try clear hcz28_1
       try clear hcz28_2; try clear hcz28_3; try clear hcz28_4; try clear hcz28_5; try clear hcz30_0; try clear hcz30_1; try clear hcz36_0; try clear hcz36_1
       try clear hcz36_2; try clear hcz36_3; try clear hcz36_4; try clear hcz36_5; try clear hcz37_0; try clear hcz37_1; try clear hcz37_2; try clear hcz37_3
       try clear hcz37_4; try clear hcz37_5; try clear hcz38_0; try clear hcz38_1; try clear hcz45_0; try clear hcz45_1; try clear hcz45_2; try clear hcz45_3
       try clear hcz45_4; try clear hcz45_5; try clear hcz46_0; try clear hcz46_1; try clear hcz46_2; try clear hcz46_3; try clear hcz46_4; try clear hcz46_5
       try clear hcz47_0; try clear hcz47_1; try clear hcz55_0; try clear hcz55_1; try clear hcz55_2; try clear hcz55_3; try clear hcz55_4; try clear hcz55_5
       try clear hfz13_0; try clear hfz13_1; try clear hfz13_2; try clear hfz13_3; try clear hfz13_4; try clear hfz13_5; try clear hfz17_0; try clear hfz17_1
       try clear hfz17_2; try clear hfz17_3; try clear hfz17_4; try clear hfz17_5; try clear hfz26_0; try clear hfz26_1; try clear hfz26_2; try clear hfz26_3
       try clear hfz26_4; try clear hfz26_5; try clear hfz28_0; try clear hfz28_1; try clear hfz28_2; try clear hfz28_3; try clear hfz28_4; try clear hfz28_5
       try clear hfz30_0; try clear hfz30_1; try clear hfz36_0; try clear hfz36_1; try clear hfz36_2; try clear hfz36_3; try clear hfz36_4; try clear hfz36_5
       try clear hfz37_0; try clear hfz37_1; try clear hfz37_2; try clear hfz37_3; try clear hfz37_4; try clear hfz37_5; try clear hfz38_0; try clear hfz38_1
       try clear hfz45_0; try clear hfz45_1; try clear hfz45_2; try clear hfz45_3; try clear hfz45_4; try clear hfz45_5; try clear hfz46_0; try clear hfz46_1
       try clear hfz46_2; try clear hfz46_3; try clear hfz46_4; try clear hfz46_5; try clear hfz47_0; try clear hfz47_1; try clear hfz55_0; try clear hfz55_1
       try clear hfz55_2; try clear hfz55_3; try clear hfz55_4; try clear hfz55_5; try clear p2
       obtain ⟨kq, x68_22, rfl, HA, HJ22, BK279, BK280, BK288, BK297, BK305, BK313, HB⟩ := hcut
       cases kq with
       | zero => exact absurd HA.out (by simp [tourlaw5_SteerTells.j1])
       | succ kj22 =>
        have H := HA.out
        clear HA
        simp only [tourlaw5_SteerTells.j1] at H
        by_cases c68 : x68_22 = true
        ·subst c68
         have H1 : (none) = some r := by rw [if_pos rfl] at H; exact H
         clear H
         have H := H1
         clear H1
         exact absurd H (by simp)
        ·replace c68 := Bool.eq_false_iff.mpr c68
         subst c68
         have H1 : (if t289 = 0 then ((vec_Sub.f a1_0 a1_1 a0_0 a0_1).bind fun bt320 => (if t296 = 0 then (if t304 = 0 then ((vec_Unit.f kj22 bt320.1 bt320.2).bind fun bt323 => ((vec_Scale.f kj22 bt323.1 bt323.2 a0_4).bind fun bt325 => ((tourref5_Steered.f kj22 a0_0 a0_1 a0_2 a0_3 a0_4 a0_5 bt325.1 bt325.2).bind fun bt327 => (if ((!(t290 == bt327.1) || (!(t291 == bt327.2.1))) || ((!(t292 == bt327.2.2.1) || (!(t293 == bt327.2.2.2.1))) || (!(t294 == bt327.2.2.2.2.1) || (!(t295 == bt327.2.2.2.2.2))))) = true then (tourlaw5_SteerTells.j2 kj22 a2 t312 true a0_0 a0_1 a0_2 a0_3 a0_4 a0_5 t306 t307 t308 t309 t310 t311 0 0 0 0 0 0 bt320.1 bt320.2) else ((vec_Sub.f a0_0 a0_1 a1_0 a1_1).bind fun bt333 => ((vec_Unit.f kj22 bt333.1 bt333.2).bind fun bt335 => ((vec_Scale.f kj22 bt335.1 bt335.2 a0_4).bind fun bt337 => ((tourref5_Steered.f kj22 a0_0 a0_1 a0_2 a0_3 a0_4 a0_5 bt337.1 bt337.2).bind fun bt339 => (tourlaw5_SteerTells.j2 kj22 a2 t312 ((!(t298 == bt339.1) || (!(t299 == bt339.2.1))) || ((!(t300 == bt339.2.2.1) || (!(t301 == bt339.2.2.2.1))) || (!(t302 == bt339.2.2.2.2.1) || (!(t303 == bt339.2.2.2.2.2))))) a0_0 a0_1 a0_2 a0_3 a0_4 a0_5 t306 t307 t308 t309 t310 t311 0 0 0 0 0 0 bt320.1 bt320.2))))))))) else (tourlaw5_SteerTells.j2 kj22 a2 t312 true a0_0 a0_1 a0_2 a0_3 a0_4 a0_5 t306 t307 t308 t309 t310 t311 0 0 0 0 0 0 bt320.1 bt320.2)) else (tourlaw5_SteerTells.j2 kj22 a2 t312 true a0_0 a0_1 a0_2 a0_3 a0_4 a0_5 t306 t307 t308 t309 t310 t311 0 0 0 0 0 0 bt320.1 bt320.2))) else (if t296 = t289 then (if t304 = t289 then (if t312 = t289 then (if ((t290 == 0 && (t291 == 0)) && ((t292 == 0 && (t293 == 0)) && (t294 == 0 && (t295 == 0)))) = true then (if ((t298 == 0 && (t299 == 0)) && ((t300 == 0 && (t301 == 0)) && (t302 == 0 && (t303 == 0)))) = true then (some ((t306 == 0 && (t307 == 0)) && ((t308 == 0 && (t309 == 0)) && (t310 == 0 && (t311 == 0))))) else (none)) else (none)) else (none)) else (none)) else (none))) = some r := by rw [if_neg (show ¬ (false = true) by decide)] at H; exact H
         clear H
         have H := H1
         clear H1
         by_cases c69 : t289 = 0
         ·rw [if_pos c69] at H
          have c69b0 : (t289 == 0) = true := beq_iff_eq.mpr c69
          have c69b1 : (t289 != 0) = false := bne_eq_false_iff_eq.mpr c69
          clear c69
          replace H := Option.bind_eq_some_iff.mp H
          obtain ⟨⟨t320, t321⟩, A700, H⟩ := H
          replace H : (if t296 = 0 then (if t304 = 0 then ((vec_Unit.f kj22 t320 t321).bind fun bt323 => ((vec_Scale.f kj22 bt323.1 bt323.2 a0_4).bind fun bt325 => ((tourref5_Steered.f kj22 a0_0 a0_1 a0_2 a0_3 a0_4 a0_5 bt325.1 bt325.2).bind fun bt327 => (if ((!(t290 == bt327.1) || (!(t291 == bt327.2.1))) || ((!(t292 == bt327.2.2.1) || (!(t293 == bt327.2.2.2.1))) || (!(t294 == bt327.2.2.2.2.1) || (!(t295 == bt327.2.2.2.2.2))))) = true then (tourlaw5_SteerTells.j2 kj22 a2 t312 true a0_0 a0_1 a0_2 a0_3 a0_4 a0_5 t306 t307 t308 t309 t310 t311 0 0 0 0 0 0 t320 t321) else ((vec_Sub.f a0_0 a0_1 a1_0 a1_1).bind fun bt333 => ((vec_Unit.f kj22 bt333.1 bt333.2).bind fun bt335 => ((vec_Scale.f kj22 bt335.1 bt335.2 a0_4).bind fun bt337 => ((tourref5_Steered.f kj22 a0_0 a0_1 a0_2 a0_3 a0_4 a0_5 bt337.1 bt337.2).bind fun bt339 => (tourlaw5_SteerTells.j2 kj22 a2 t312 ((!(t298 == bt339.1) || (!(t299 == bt339.2.1))) || ((!(t300 == bt339.2.2.1) || (!(t301 == bt339.2.2.2.1))) || (!(t302 == bt339.2.2.2.2.1) || (!(t303 == bt339.2.2.2.2.2))))) a0_0 a0_1 a0_2 a0_3 a0_4 a0_5 t306 t307 t308 t309 t310 t311 0 0 0 0 0 0 t320 t321))))))))) else (tourlaw5_SteerTells.j2 kj22 a2 t312 true a0_0 a0_1 a0_2 a0_3 a0_4 a0_5 t306 t307 t308 t309 t310 t311 0 0 0 0 0 0 t320 t321)) else (tourlaw5_SteerTells.j2 kj22 a2 t312 true a0_0 a0_1 a0_2 a0_3 a0_4 a0_5 t306 t307 t308 t309 t310 t311 0 0 0 0 0 0 t320 t321)) = some r := H
          have A70 := Aside0.mk A700
          clear A700
          have HC71 := Aside0.mk H
          clear H
          go_upto_region 14 with (first | ((with_reducible refine gate_dst (N := 18) rfl ?_); refine box_event ?hg (N := 18) ?hd (cs := #[.int .i64 0, .int .i64 0, .int .i64 0, .int .i64 0, .int .i64 0, .int .i64 0]) (t := 29) ?hr ?_; (case hd => rfl); (case hg => rfl); (case hr => first | (go_simp; done) | (go_simp; rfl)); intro gb319 hg w72 hbox hb; have n0_ := Aside0.mk (bb hb BK279.out); have n1_ := Aside0.mk (bb hb BK280.out); have n2_ := Aside0.mk (bb hb BK288.out); have n3_ := Aside0.mk (bb hb BK297.out); have n4_ := Aside0.mk (bb hb BK305.out); have n5_ := Aside0.mk (bb hb BK313.out); have n6_ := Aside0.mk (below_step (by repeat (first | (with_reducible first | exact HB.out | apply below_alloc | apply pw_below_drewN | apply below_drew1 | refine below_set ?_ GE279.out | refine below_set ?_ GE280.out | refine below_set ?_ GE288.out | refine below_set ?_ GE297.out | refine below_set ?_ GE305.out | refine below_set ?_ GE313.out) | exact HB.out)) hb); have n7_ := Aside0.mk (hbox); have n8_ := Aside0.mk ((by rw [hg]; exact (below_size (by repeat (first | (with_reducible first | exact HB.out | apply below_alloc | apply pw_below_drewN | apply below_drew1 | refine below_set ?_ GE279.out | refine below_set ?_ GE280.out | refine below_set ?_ GE288.out | refine below_set ?_ GE297.out | refine below_set ?_ GE305.out | refine below_set ?_ GE313.out) | exact HB.out))) : w.heap.size ≤ gb319)); have n9_ := Aside0.mk ((by rw [hg]; exact (below_size (by repeat (first | (with_reducible first | exact HB.out | apply below_alloc | apply pw_below_drewN | apply below_drew1 | refine below_set ?_ GE279.out | refine below_set ?_ GE280.out | refine below_set ?_ GE288.out | refine below_set ?_ GE297.out | refine below_set ?_ GE305.out | refine below_set ?_ GE313.out) | exact HB.out))) : w.heap.size ≤ gb319)); have n10_ := Aside0.mk (nl hg BK279.out); have n11_ := Aside0.mk (ng hg BK279.out); have n12_ := Aside0.mk (nl hg BK280.out); have n13_ := Aside0.mk (ng hg BK280.out); have n14_ := Aside0.mk (nl hg BK288.out); have n15_ := Aside0.mk (ng hg BK288.out); have n16_ := Aside0.mk (nl hg BK297.out); have n17_ := Aside0.mk (ng hg BK297.out); have n18_ := Aside0.mk (nl hg BK305.out); have n19_ := Aside0.mk (ng hg BK305.out); have n20_ := Aside0.mk (nl hg BK313.out); have n21_ := Aside0.mk (ng hg BK313.out); clear BK279; clear BK280; clear BK288; clear BK297; clear BK305; clear BK313; clear HB; have BK279 := n0_; have BK280 := n1_; have BK288 := n2_; have BK297 := n3_; have BK305 := n4_; have BK313 := n5_; have HB := n6_; have BK319 := n7_; have GW319 := n8_; have GE319 := n9_; have NB279_319 := n10_; have NB319_279 := n11_; have NB280_319 := n12_; have NB319_280 := n13_; have NB288_319 := n14_; have NB319_288 := n15_; have NB297_319 := n16_; have NB319_297 := n17_; have NB305_319 := n18_; have NB319_305 := n19_; have NB313_319 := n20_; have NB319_313 := n21_; clear n0_ n1_ n2_ n3_ n4_ n5_ n6_ n7_ n8_ n9_ n10_ n11_ n12_ n13_ n14_ n15_ n16_ n17_ n18_ n19_ n20_ n21_; clear hb hbox hg; have hnb73 := NB319_279.out; have hnc73 := NB279_319.out; have hnb74 := NB319_280.out; have hnc74 := NB280_319.out; have hnb75 := NB319_288.out; have hnc75 := NB288_319.out; have hnb76 := NB319_297.out; have hnc76 := NB297_319.out; have hnb77 := NB319_305.out; have hnc77 := NB305_319.out; have hnb78 := NB319_313.out; have hnc78 := NB313_319.out; obtain ⟨hcz79_0, hcz79_1, hcz79_2, hcz79_3, hcz79_4, hcz79_5⟩ := blk6 BK319.out; obtain ⟨hfz79_0, hfz79_1, hfz79_2, hfz79_3, hfz79_4, hfz79_5⟩ := frz6 BK319.out; have hnb80 := NB280_279.out; have hnc80 := NB279_280.out; have hnb81 := NB280_288.out; have hnc81 := NB288_280.out; have hnb82 := NB280_297.out; have hnc82 := NB297_280.out; have hnb83 := NB280_305.out; have hnc83 := NB305_280.out; have hnb84 := NB280_313.out; have hnc84 := NB313_280.out; obtain ⟨hcz85_0, hcz85_1⟩ := blk2 BK280.out; obtain ⟨hfz85_0, hfz85_1⟩ := frz2 BK280.out; have hnb86 := NB279_288.out; have hnc86 := NB288_279.out; have hnb87 := NB279_297.out; have hnc87 := NB297_279.out; have hnb88 := NB279_305.out; have hnc88 := NB305_279.out; have hnb89 := NB279_313.out; have hnc89 := NB313_279.out; obtain ⟨hcz90_0, hcz90_1, hcz90_2, hcz90_3, hcz90_4, hcz90_5⟩ := blk6 BK279.out; obtain ⟨hfz90_0, hfz90_1, hfz90_2, hfz90_3, hfz90_4, hfz90_5⟩ := frz6 BK279.out) | ((with_reducible refine gate_callee (f := 13) rfl ?_); refine goesL_ (some 103) rfl rfl Try.func13 (by kernel_rfl) rfl #[.agg #[.int .i64 a1_0, .int .i64 a1_1], .agg #[.int .i64 a0_0, .int .i64 a0_1]] rfl (by (try simp only [zm1, zm2, zm3]); first | done | rfl) ?_; (with_reducible refine (vec_Sub.calls a1_0 a1_1 a0_0 a0_1 t320 t321 _ A70.out).mono ?_); rintro e w91 ⟨rfl, hb⟩; refine ⟨_, rfl, ?_⟩; have n0_ := Aside0.mk (blk_below (g := gb279) (o := .cells #[.int .i64 a0_0, .int .i64 a0_1, .int .i64 a0_2, .int .i64 a0_3, .int .i64 a0_4, .int .i64 a0_5] 29 (0, 0)) (by (with_reducible repeat (first | refine blk_drewN ?_ _ | refine blk_drew ?_ | refine blk_alloc ?_ _)); refine blk_far ?_ NB279_319.out _; refine blk_far ?_ NB279_319.out _; refine blk_far ?_ NB279_319.out _; refine blk_far ?_ NB279_319.out _; refine blk_far ?_ NB279_319.out _; refine blk_far ?_ NB279_319.out _; exact BK279.out) hb); have n1_ := Aside0.mk (blk_below (g := gb280) (o := .cells #[.int .i64 a1_0, .int .i64 a1_1] 27 (0, 0)) (by (with_reducible repeat (first | refine blk_drewN ?_ _ | refine blk_drew ?_ | refine blk_alloc ?_ _)); refine blk_far ?_ NB280_319.out _; refine blk_far ?_ NB280_319.out _; refine blk_far ?_ NB280_319.out _; refine blk_far ?_ NB280_319.out _; refine blk_far ?_ NB280_319.out _; refine blk_far ?_ NB280_319.out _; exact BK280.out) hb); have n2_ := Aside0.mk (blk_below (g := gb288) (o := .cells #[.int .i64 t281, .int .i64 t282, .int .i64 t283, .int .i64 t284, .int .i64 t285, .int .i64 t286] 29 (0, 0)) (by (with_reducible repeat (first | refine blk_drewN ?_ _ | refine blk_drew ?_ | refine blk_alloc ?_ _)); refine blk_far ?_ NB288_319.out _; refine blk_far ?_ NB288_319.out _; refine blk_far ?_ NB288_319.out _; refine blk_far ?_ NB288_319.out _; refine blk_far ?_ NB288_319.out _; refine blk_far ?_ NB288_319.out _; exact BK288.out) hb); have n3_ := Aside0.mk (blk_below (g := gb297) (o := .cells #[.int .i64 t290, .int .i64 t291, .int .i64 t292, .int .i64 t293, .int .i64 t294, .int .i64 t295] 29 (0, 0)) (by (with_reducible repeat (first | refine blk_drewN ?_ _ | refine blk_drew ?_ | refine blk_alloc ?_ _)); refine blk_far ?_ NB297_319.out _; refine blk_far ?_ NB297_319.out _; refine blk_far ?_ NB297_319.out _; refine blk_far ?_ NB297_319.out _; refine blk_far ?_ NB297_319.out _; refine blk_far ?_ NB297_319.out _; exact BK297.out) hb); have n4_ := Aside0.mk (blk_below (g := gb305) (o := .cells #[.int .i64 t298, .int .i64 t299, .int .i64 t300, .int .i64 t301, .int .i64 t302, .int .i64 t303] 29 (0, 0)) (by (with_reducible repeat (first | refine blk_drewN ?_ _ | refine blk_drew ?_ | refine blk_alloc ?_ _)); refine blk_far ?_ NB305_319.out _; refine blk_far ?_ NB305_319.out _; refine blk_far ?_ NB305_319.out _; refine blk_far ?_ NB305_319.out _; refine blk_far ?_ NB305_319.out _; refine blk_far ?_ NB305_319.out _; exact BK305.out) hb); have n5_ := Aside0.mk (blk_below (g := gb313) (o := .cells #[.int .i64 t306, .int .i64 t307, .int .i64 t308, .int .i64 t309, .int .i64 t310, .int .i64 t311] 29 (0, 0)) (by (with_reducible repeat (first | refine blk_drewN ?_ _ | refine blk_drew ?_ | refine blk_alloc ?_ _)); refine blk_far ?_ NB313_319.out _; refine blk_far ?_ NB313_319.out _; refine blk_far ?_ NB313_319.out _; refine blk_far ?_ NB313_319.out _; refine blk_far ?_ NB313_319.out _; refine blk_far ?_ NB313_319.out _; exact BK313.out) hb); have n6_ := Aside0.mk (blk_below (g := gb319) (o := .cells #[.int .i64 0, .int .i64 0, .int .i64 0, .int .i64 0, .int .i64 0, .int .i64 0] 29 (0, 0)) (by (with_reducible repeat (first | refine blk_drewN ?_ _ | refine blk_drew ?_ | refine blk_alloc ?_ _)); refine blk_put (cs := #[.int .i64 0, .int .i64 0, .int .i64 0, .int .i64 0, .int .i64 0, .int .i64 0]) ?_ 5 _ rfl; refine blk_put (cs := #[.int .i64 0, .int .i64 0, .int .i64 0, .int .i64 0, .int .i64 0, .int .i64 0]) ?_ 4 _ rfl; refine blk_put (cs := #[.int .i64 0, .int .i64 0, .int .i64 0, .int .i64 0, .int .i64 0, .int .i64 0]) ?_ 3 _ rfl; refine blk_put (cs := #[.int .i64 0, .int .i64 0, .int .i64 0, .int .i64 0, .int .i64 0, .int .i64 0]) ?_ 2 _ rfl; refine blk_put (cs := #[.int .i64 0, .int .i64 0, .int .i64 0, .int .i64 0, .int .i64 0, .int .i64 0]) ?_ 1 _ rfl; refine blk_put (cs := #[.int .i64 0, .int .i64 0, .int .i64 0, .int .i64 0, .int .i64 0, .int .i64 0]) ?_ 0 _ rfl; exact BK319.out) hb); have n7_ := Aside0.mk (below_step (by repeat (first | (with_reducible first | exact HB.out | apply below_alloc | apply pw_below_drewN | apply below_drew1 | refine below_set ?_ GE279.out | refine below_set ?_ GE280.out | refine below_set ?_ GE288.out | refine below_set ?_ GE297.out | refine below_set ?_ GE305.out | refine below_set ?_ GE313.out | refine below_set ?_ GE319.out) | exact HB.out)) hb); clear BK279; clear BK280; clear BK288; clear BK297; clear BK305; clear BK313; clear BK319; clear HB; have BK279 := n0_; have BK280 := n1_; have BK288 := n2_; have BK297 := n3_; have BK305 := n4_; have BK313 := n5_; have BK319 := n6_; have HB := n7_; clear n0_ n1_ n2_ n3_ n4_ n5_ n6_ n7_; (try clear hb); (try clear hb2); (try clear hk); (try clear hi)) | ((with_reducible refine gate_dst (N := 19) rfl ?_); refine box_event ?hg (N := 19) ?hd (cs := #[.int .i64 0, .int .i64 0]) (t := 27) ?hr ?_; (case hd => rfl); (case hg => rfl); (case hr => first | (go_simp; done) | (go_simp; rfl)); intro gb322 hg w92 hbox hb; have n0_ := Aside0.mk (bb hb BK279.out); have n1_ := Aside0.mk (bb hb BK280.out); have n2_ := Aside0.mk (bb hb BK288.out); have n3_ := Aside0.mk (bb hb BK297.out); have n4_ := Aside0.mk (bb hb BK305.out); have n5_ := Aside0.mk (bb hb BK313.out); have n6_ := Aside0.mk (bb hb BK319.out); have n7_ := Aside0.mk (below_step (by repeat (first | (with_reducible first | exact HB.out | apply below_alloc | apply pw_below_drewN | apply below_drew1 | refine below_set ?_ GE279.out | refine below_set ?_ GE280.out | refine below_set ?_ GE288.out | refine below_set ?_ GE297.out | refine below_set ?_ GE305.out | refine below_set ?_ GE313.out | refine below_set ?_ GE319.out) | exact HB.out)) hb); have n8_ := Aside0.mk (hbox); have n9_ := Aside0.mk ((by rw [hg]; exact (below_size (by repeat (first | (with_reducible first | exact HB.out | apply below_alloc | apply pw_below_drewN | apply below_drew1 | refine below_set ?_ GE279.out | refine below_set ?_ GE280.out | refine below_set ?_ GE288.out | refine below_set ?_ GE297.out | refine below_set ?_ GE305.out | refine below_set ?_ GE313.out | refine below_set ?_ GE319.out) | exact HB.out))) : w.heap.size ≤ gb322)); have n10_ := Aside0.mk ((by rw [hg]; exact (below_size (by repeat (first | (with_reducible first | exact HB.out | apply below_alloc | apply pw_below_drewN | apply below_drew1 | refine below_set ?_ GE279.out | refine below_set ?_ GE280.out | refine below_set ?_ GE288.out | refine below_set ?_ GE297.out | refine below_set ?_ GE305.out | refine below_set ?_ GE313.out | refine below_set ?_ GE319.out) | exact HB.out))) : w.heap.size ≤ gb322)); have n11_ := Aside0.mk (nl hg BK279.out); have n12_ := Aside0.mk (ng hg BK279.out); have n13_ := Aside0.mk (nl hg BK280.out); have n14_ := Aside0.mk (ng hg BK280.out); have n15_ := Aside0.mk (nl hg BK288.out); have n16_ := Aside0.mk (ng hg BK288.out); have n17_ := Aside0.mk (nl hg BK297.out); have n18_ := Aside0.mk (ng hg BK297.out); have n19_ := Aside0.mk (nl hg BK305.out); have n20_ := Aside0.mk (ng hg BK305.out); have n21_ := Aside0.mk (nl hg BK313.out); have n22_ := Aside0.mk (ng hg BK313.out); have n23_ := Aside0.mk (nl hg BK319.out); have n24_ := Aside0.mk (ng hg BK319.out); clear BK279; clear BK280; clear BK288; clear BK297; clear BK305; clear BK313; clear BK319; clear HB; have BK279 := n0_; have BK280 := n1_; have BK288 := n2_; have BK297 := n3_; have BK305 := n4_; have BK313 := n5_; have BK319 := n6_; have HB := n7_; have BK322 := n8_; have GW322 := n9_; have GE322 := n10_; have NB279_322 := n11_; have NB322_279 := n12_; have NB280_322 := n13_; have NB322_280 := n14_; have NB288_322 := n15_; have NB322_288 := n16_; have NB297_322 := n17_; have NB322_297 := n18_; have NB305_322 := n19_; have NB322_305 := n20_; have NB313_322 := n21_; have NB322_313 := n22_; have NB319_322 := n23_; have NB322_319 := n24_; clear n0_ n1_ n2_ n3_ n4_ n5_ n6_ n7_ n8_ n9_ n10_ n11_ n12_ n13_ n14_ n15_ n16_ n17_ n18_ n19_ n20_ n21_ n22_ n23_ n24_; clear hb hbox hg; have hnb93 := NB322_279.out; have hnc93 := NB279_322.out; have hnb94 := NB322_280.out; have hnc94 := NB280_322.out; have hnb95 := NB322_288.out; have hnc95 := NB288_322.out; have hnb96 := NB322_297.out; have hnc96 := NB297_322.out; have hnb97 := NB322_305.out; have hnc97 := NB305_322.out; have hnb98 := NB322_313.out; have hnc98 := NB313_322.out; have hnb99 := NB322_319.out; have hnc99 := NB319_322.out; obtain ⟨hcz100_0, hcz100_1⟩ := blk2 BK322.out; obtain ⟨hfz100_0, hfz100_1⟩ := frz2 BK322.out))
          (try simp only [Act.put, zq1, zq2, zq3])
          go_cut [134] (fun v134 wc => ∃ (kq : Nat) (x134_70 : Bool), v134 = .bool x134_70 ∧ Aside0 (tourlaw5_SteerTells.j2 kq a2 t312 x134_70 a0_0 a0_1 a0_2 a0_3 a0_4 a0_5 t306 t307 t308 t309 t310 t311 0 0 0 0 0 0 t320 t321 = some r) ∧ Aside0 (kq ≤ kj22) ∧ Aside0 (wc.heap[gb279]? = some (.cells #[.int .i64 a0_0, .int .i64 a0_1, .int .i64 a0_2, .int .i64 a0_3, .int .i64 a0_4, .int .i64 a0_5] 29 (0, 0))) ∧ Aside0 (wc.heap[gb280]? = some (.cells #[.int .i64 a1_0, .int .i64 a1_1] 27 (0, 0))) ∧ Aside0 (wc.heap[gb288]? = some (.cells #[.int .i64 t281, .int .i64 t282, .int .i64 t283, .int .i64 t284, .int .i64 t285, .int .i64 t286] 29 (0, 0))) ∧ Aside0 (wc.heap[gb297]? = some (.cells #[.int .i64 t290, .int .i64 t291, .int .i64 t292, .int .i64 t293, .int .i64 t294, .int .i64 t295] 29 (0, 0))) ∧ Aside0 (wc.heap[gb305]? = some (.cells #[.int .i64 t298, .int .i64 t299, .int .i64 t300, .int .i64 t301, .int .i64 t302, .int .i64 t303] 29 (0, 0))) ∧ Aside0 (wc.heap[gb313]? = some (.cells #[.int .i64 t306, .int .i64 t307, .int .i64 t308, .int .i64 t309, .int .i64 t310, .int .i64 t311] 29 (0, 0))) ∧ Aside0 (wc.heap[gb319]? = some (.cells #[.int .i64 0, .int .i64 0, .int .i64 0, .int .i64 0, .int .i64 0, .int .i64 0] 29 (0, 0))) ∧ Aside0 (wc.heap[gb322]? = some (.cells #[.int .i64 t320, .int .i64 t321] 27 (0, 0))) ∧ Aside0 (Below w.heap.size w wc))
          case first =>
           have H := HC71.out
           clear HC71
           by_cases c101 : t296 = 0
           ·rw [if_pos c101] at H
            have c101b0 : (t296 == 0) = true := beq_iff_eq.mpr c101
            have c101b1 : (t296 != 0) = false := bne_eq_false_iff_eq.mpr c101
            clear c101
            (first | rw [c101b0] | (simp only [i64_w, i32_w]; rw [c101b0]) | skip)
            by_cases c102 : t304 = 0
            ·rw [if_pos c102] at H
             have c102b0 : (t304 == 0) = true := beq_iff_eq.mpr c102
             have c102b1 : (t304 != 0) = false := bne_eq_false_iff_eq.mpr c102
             clear c102
             replace H := Option.bind_eq_some_iff.mp H
             obtain ⟨⟨t323, t324⟩, A1030, H⟩ := H
             replace H : ((vec_Scale.f kj22 t323 t324 a0_4).bind fun bt325 => ((tourref5_Steered.f kj22 a0_0 a0_1 a0_2 a0_3 a0_4 a0_5 bt325.1 bt325.2).bind fun bt327 => (if ((!(t290 == bt327.1) || (!(t291 == bt327.2.1))) || ((!(t292 == bt327.2.2.1) || (!(t293 == bt327.2.2.2.1))) || (!(t294 == bt327.2.2.2.2.1) || (!(t295 == bt327.2.2.2.2.2))))) = true then (tourlaw5_SteerTells.j2 kj22 a2 t312 true a0_0 a0_1 a0_2 a0_3 a0_4 a0_5 t306 t307 t308 t309 t310 t311 0 0 0 0 0 0 t320 t321) else ((vec_Sub.f a0_0 a0_1 a1_0 a1_1).bind fun bt333 => ((vec_Unit.f kj22 bt333.1 bt333.2).bind fun bt335 => ((vec_Scale.f kj22 bt335.1 bt335.2 a0_4).bind fun bt337 => ((tourref5_Steered.f kj22 a0_0 a0_1 a0_2 a0_3 a0_4 a0_5 bt337.1 bt337.2).bind fun bt339 => (tourlaw5_SteerTells.j2 kj22 a2 t312 ((!(t298 == bt339.1) || (!(t299 == bt339.2.1))) || ((!(t300 == bt339.2.2.1) || (!(t301 == bt339.2.2.2.1))) || (!(t302 == bt339.2.2.2.2.1) || (!(t303 == bt339.2.2.2.2.2))))) a0_0 a0_1 a0_2 a0_3 a0_4 a0_5 t306 t307 t308 t309 t310 t311 0 0 0 0 0 0 t320 t321)))))))) = some r := H
             have A103 := Aside0.mk A1030
             clear A1030
             replace H := Option.bind_eq_some_iff.mp H
             obtain ⟨⟨t325, t326⟩, A1040, H⟩ := H
             replace H : ((tourref5_Steered.f kj22 a0_0 a0_1 a0_2 a0_3 a0_4 a0_5 t325 t326).bind fun bt327 => (if ((!(t290 == bt327.1) || (!(t291 == bt327.2.1))) || ((!(t292 == bt327.2.2.1) || (!(t293 == bt327.2.2.2.1))) || (!(t294 == bt327.2.2.2.2.1) || (!(t295 == bt327.2.2.2.2.2))))) = true then (tourlaw5_SteerTells.j2 kj22 a2 t312 true a0_0 a0_1 a0_2 a0_3 a0_4 a0_5 t306 t307 t308 t309 t310 t311 0 0 0 0 0 0 t320 t321) else ((vec_Sub.f a0_0 a0_1 a1_0 a1_1).bind fun bt333 => ((vec_Unit.f kj22 bt333.1 bt333.2).bind fun bt335 => ((vec_Scale.f kj22 bt335.1 bt335.2 a0_4).bind fun bt337 => ((tourref5_Steered.f kj22 a0_0 a0_1 a0_2 a0_3 a0_4 a0_5 bt337.1 bt337.2).bind fun bt339 => (tourlaw5_SteerTells.j2 kj22 a2 t312 ((!(t298 == bt339.1) || (!(t299 == bt339.2.1))) || ((!(t300 == bt339.2.2.1) || (!(t301 == bt339.2.2.2.1))) || (!(t302 == bt339.2.2.2.2.1) || (!(t303 == bt339.2.2.2.2.2))))) a0_0 a0_1 a0_2 a0_3 a0_4 a0_5 t306 t307 t308 t309 t310 t311 0 0 0 0 0 0 t320 t321))))))) = some r := H
             have A104 := Aside0.mk A1040
             clear A1040
             replace H := Option.bind_eq_some_iff.mp H
             obtain ⟨⟨t327, t328, t329, t330, t331, t332⟩, A1050, H⟩ := H
             replace H : (if ((!(t290 == t327) || (!(t291 == t328))) || ((!(t292 == t329) || (!(t293 == t330))) || (!(t294 == t331) || (!(t295 == t332))))) = true then (tourlaw5_SteerTells.j2 kj22 a2 t312 true a0_0 a0_1 a0_2 a0_3 a0_4 a0_5 t306 t307 t308 t309 t310 t311 0 0 0 0 0 0 t320 t321) else ((vec_Sub.f a0_0 a0_1 a1_0 a1_1).bind fun bt333 => ((vec_Unit.f kj22 bt333.1 bt333.2).bind fun bt335 => ((vec_Scale.f kj22 bt335.1 bt335.2 a0_4).bind fun bt337 => ((tourref5_Steered.f kj22 a0_0 a0_1 a0_2 a0_3 a0_4 a0_5 bt337.1 bt337.2).bind fun bt339 => (tourlaw5_SteerTells.j2 kj22 a2 t312 ((!(t298 == bt339.1) || (!(t299 == bt339.2.1))) || ((!(t300 == bt339.2.2.1) || (!(t301 == bt339.2.2.2.1))) || (!(t302 == bt339.2.2.2.2.1) || (!(t303 == bt339.2.2.2.2.2))))) a0_0 a0_1 a0_2 a0_3 a0_4 a0_5 t306 t307 t308 t309 t310 t311 0 0 0 0 0 0 t320 t321)))))) = some r := H
             have A105 := Aside0.mk A1050
             clear A1050
             by_cases c106 : ((!(t290 == t327) || (!(t291 == t328))) || ((!(t292 == t329) || (!(t293 == t330))) || (!(t294 == t331) || (!(t295 == t332))))) = true
             ·rw [if_pos c106] at H
              have c106b0 : ((!(t290 == t327) || (!(t291 == t328))) || ((!(t292 == t329) || (!(t293 == t330))) || (!(t294 == t331) || (!(t295 == t332))))) = true := c106
              clear c106
              have H' := Aside0.mk H
              clear H
              try go_wp2
              have n0_ : Aside0 (((w92.setCell ⟨gb322, 0, none⟩ (.int .i64 t320)).setCell ⟨gb322, 1, none⟩ (.int .i64 t321)).heap[gb279]? = some (.cells #[.int .i64 a0_0, .int .i64 a0_1, .int .i64 a0_2, .int .i64 a0_3, .int .i64 a0_4, .int .i64 a0_5] 29 (0, 0))) := ⟨by (with_reducible repeat (first | refine blk_drewN ?_ _ | refine blk_drew ?_ | refine blk_alloc ?_ _)); refine blk_far ?_ NB279_322.out _; refine blk_far ?_ NB279_322.out _; exact BK279.out⟩
              have n1_ : Aside0 (((w92.setCell ⟨gb322, 0, none⟩ (.int .i64 t320)).setCell ⟨gb322, 1, none⟩ (.int .i64 t321)).heap[gb280]? = some (.cells #[.int .i64 a1_0, .int .i64 a1_1] 27 (0, 0))) := ⟨by (with_reducible repeat (first | refine blk_drewN ?_ _ | refine blk_drew ?_ | refine blk_alloc ?_ _)); refine blk_far ?_ NB280_322.out _; refine blk_far ?_ NB280_322.out _; exact BK280.out⟩
              have n2_ : Aside0 (((w92.setCell ⟨gb322, 0, none⟩ (.int .i64 t320)).setCell ⟨gb322, 1, none⟩ (.int .i64 t321)).heap[gb288]? = some (.cells #[.int .i64 t281, .int .i64 t282, .int .i64 t283, .int .i64 t284, .int .i64 t285, .int .i64 t286] 29 (0, 0))) := ⟨by (with_reducible repeat (first | refine blk_drewN ?_ _ | refine blk_drew ?_ | refine blk_alloc ?_ _)); refine blk_far ?_ NB288_322.out _; refine blk_far ?_ NB288_322.out _; exact BK288.out⟩
              have n3_ : Aside0 (((w92.setCell ⟨gb322, 0, none⟩ (.int .i64 t320)).setCell ⟨gb322, 1, none⟩ (.int .i64 t321)).heap[gb297]? = some (.cells #[.int .i64 t290, .int .i64 t291, .int .i64 t292, .int .i64 t293, .int .i64 t294, .int .i64 t295] 29 (0, 0))) := ⟨by (with_reducible repeat (first | refine blk_drewN ?_ _ | refine blk_drew ?_ | refine blk_alloc ?_ _)); refine blk_far ?_ NB297_322.out _; refine blk_far ?_ NB297_322.out _; exact BK297.out⟩
              have n4_ : Aside0 (((w92.setCell ⟨gb322, 0, none⟩ (.int .i64 t320)).setCell ⟨gb322, 1, none⟩ (.int .i64 t321)).heap[gb305]? = some (.cells #[.int .i64 t298, .int .i64 t299, .int .i64 t300, .int .i64 t301, .int .i64 t302, .int .i64 t303] 29 (0, 0))) := ⟨by (with_reducible repeat (first | refine blk_drewN ?_ _ | refine blk_drew ?_ | refine blk_alloc ?_ _)); refine blk_far ?_ NB305_322.out _; refine blk_far ?_ NB305_322.out _; exact BK305.out⟩
              have n5_ : Aside0 (((w92.setCell ⟨gb322, 0, none⟩ (.int .i64 t320)).setCell ⟨gb322, 1, none⟩ (.int .i64 t321)).heap[gb313]? = some (.cells #[.int .i64 t306, .int .i64 t307, .int .i64 t308, .int .i64 t309, .int .i64 t310, .int .i64 t311] 29 (0, 0))) := ⟨by (with_reducible repeat (first | refine blk_drewN ?_ _ | refine blk_drew ?_ | refine blk_alloc ?_ _)); refine blk_far ?_ NB313_322.out _; refine blk_far ?_ NB313_322.out _; exact BK313.out⟩
              have n6_ : Aside0 (((w92.setCell ⟨gb322, 0, none⟩ (.int .i64 t320)).setCell ⟨gb322, 1, none⟩ (.int .i64 t321)).heap[gb319]? = some (.cells #[.int .i64 0, .int .i64 0, .int .i64 0, .int .i64 0, .int .i64 0, .int .i64 0] 29 (0, 0))) := ⟨by (with_reducible repeat (first | refine blk_drewN ?_ _ | refine blk_drew ?_ | refine blk_alloc ?_ _)); refine blk_far ?_ NB319_322.out _; refine blk_far ?_ NB319_322.out _; exact BK319.out⟩
              have n7_ : Aside0 (((w92.setCell ⟨gb322, 0, none⟩ (.int .i64 t320)).setCell ⟨gb322, 1, none⟩ (.int .i64 t321)).heap[gb322]? = some (.cells #[.int .i64 t320, .int .i64 t321] 27 (0, 0))) := ⟨by (with_reducible repeat (first | refine blk_drewN ?_ _ | refine blk_drew ?_ | refine blk_alloc ?_ _)); refine blk_put (cs := #[.int .i64 t320, .int .i64 0]) ?_ 1 _ rfl; refine blk_put (cs := #[.int .i64 0, .int .i64 0]) ?_ 0 _ rfl; exact BK322.out⟩
              have n8_ : Aside0 (Below w.heap.size w ((w92.setCell ⟨gb322, 0, none⟩ (.int .i64 t320)).setCell ⟨gb322, 1, none⟩ (.int .i64 t321))) := ⟨by repeat (first | (with_reducible first | exact HB.out | apply below_alloc | apply pw_below_drewN | apply below_drew1 | refine below_set ?_ GE279.out | refine below_set ?_ GE280.out | refine below_set ?_ GE288.out | refine below_set ?_ GE297.out | refine below_set ?_ GE305.out | refine below_set ?_ GE313.out | refine below_set ?_ GE319.out | refine below_set ?_ GE322.out) | exact HB.out)⟩
              (try clear BK279)
              (try clear BK280)
              (try clear BK288)
              (try clear BK297)
              (try clear BK305)
              (try clear BK313)
              (try clear BK319)
              (try clear BK322)
              (try clear HB)
              generalize ((w92.setCell ⟨gb322, 0, none⟩ (.int .i64 t320)).setCell ⟨gb322, 1, none⟩ (.int .i64 t321)) = w107 at n0_ n1_ n2_ n3_ n4_ n5_ n6_ n7_ n8_ ⊢
              have BK279 := n0_
              have BK280 := n1_
              have BK288 := n2_
              have BK297 := n3_
              have BK305 := n4_
              have BK313 := n5_
              have BK319 := n6_
              have BK322 := n7_
              have HB := n8_
              clear n0_ n1_ n2_ n3_ n4_ n5_ n6_ n7_ n8_
              have n0_ := Aside0.mk (blk_drew BK279.out)
              have n1_ := Aside0.mk (blk_drew BK280.out)
              have n2_ := Aside0.mk (blk_drew BK288.out)
              have n3_ := Aside0.mk (blk_drew BK297.out)
              have n4_ := Aside0.mk (blk_drew BK305.out)
              have n5_ := Aside0.mk (blk_drew BK313.out)
              have n6_ := Aside0.mk (blk_drew BK319.out)
              have n7_ := Aside0.mk (blk_drew BK322.out)
              have n8_ := Aside0.mk (below_drew1 HB.out)
              clear BK279
              clear BK280
              clear BK288
              clear BK297
              clear BK305
              clear BK313
              clear BK319
              clear BK322
              clear HB
              have BK279 := n0_
              have BK280 := n1_
              have BK288 := n2_
              have BK297 := n3_
              have BK305 := n4_
              have BK313 := n5_
              have BK319 := n6_
              have BK322 := n7_
              have HB := n8_
              clear n0_ n1_ n2_ n3_ n4_ n5_ n6_ n7_ n8_
              refine start_ (n := 31) (S := fun w' => w'.cell? ⟨gb297, 0, none⟩ = some (.int .i64 t290) ∧ w'.cell? ⟨gb297, 1, none⟩ = some (.int .i64 t291) ∧ w'.cell? ⟨gb297, 2, none⟩ = some (.int .i64 t292) ∧ w'.cell? ⟨gb297, 3, none⟩ = some (.int .i64 t293) ∧ w'.cell? ⟨gb297, 4, none⟩ = some (.int .i64 t294) ∧ w'.cell? ⟨gb297, 5, none⟩ = some (.int .i64 t295) ∧ w'.cell? ⟨gb279, 0, none⟩ = some (.int .i64 a0_0) ∧ w'.cell? ⟨gb279, 1, none⟩ = some (.int .i64 a0_1) ∧ w'.cell? ⟨gb279, 2, none⟩ = some (.int .i64 a0_2) ∧ w'.cell? ⟨gb279, 3, none⟩ = some (.int .i64 a0_3) ∧ w'.cell? ⟨gb279, 4, none⟩ = some (.int .i64 a0_4) ∧ w'.cell? ⟨gb279, 5, none⟩ = some (.int .i64 a0_5) ∧ w'.cell? ⟨gb322, 0, none⟩ = some (.int .i64 t320) ∧ w'.cell? ⟨gb322, 1, none⟩ = some (.int .i64 t321)) (ds := []) (ab 31 0) (by kernel_rfl) rfl rfl ⟨(blk_cell BK297.out 0).trans rfl, (blk_cell BK297.out 1).trans rfl, (blk_cell BK297.out 2).trans rfl, (blk_cell BK297.out 3).trans rfl, (blk_cell BK297.out 4).trans rfl, (blk_cell BK297.out 5).trans rfl, (blk_cell BK279.out 0).trans rfl, (blk_cell BK279.out 1).trans rfl, (blk_cell BK279.out 2).trans rfl, (blk_cell BK279.out 3).trans rfl, (blk_cell BK279.out 4).trans rfl, (blk_cell BK279.out 5).trans rfl, (blk_cell BK322.out 0).trans rfl, (blk_cell BK322.out 1).trans rfl⟩ (fun hHeld => ?_); refine with_tabW tourlaw5_SteerTells.tab14 tourlaw5_SteerTells.bits14 (fun HT_ HW_ => ?_)
              generalize w107.drew = w108 at BK279 BK280 BK288 BK297 BK305 BK313 BK319 BK322 HB hHeld ⊢
              refine pure_ (i := 0) (N := some 104) (v := ?_) (a' := ?_) (ab 31 1) rfl rfl (any_of HT_.out (by kernel_rfl)) (fun _ _ _ h => h) (Or.inl ⟨by rfl, ?_⟩) ?_ ?_
              rotate_left
              ·intro w'
               go_simp
               with_reducible rfl
              rotate_left
              ·simp only [Act.put, zq1, zq2, zq3, i64_w, i32_w]
               rfl
              refine pure_ (i := 1) (N := some 105) (v := ?_) (a' := ?_) (ab 31 3) rfl rfl (any_of HT_.out (by kernel_rfl)) (fun _ _ _ h => h) (Or.inl ⟨by rfl, ?_⟩) ?_ ?_
              rotate_left
              ·intro w'
               go_simp
               with_reducible rfl
              rotate_left
              ·simp only [Act.put, zq1, zq2, zq3, i64_w, i32_w]
               rfl
              refine pure_ (i := 2) (N := some 106) (v := ?_) (a' := ?_) (ab 31 7) rfl rfl (any_of HT_.out (by kernel_rfl)) (fun _ _ _ h => h) (Or.inl ⟨by rfl, ?_⟩) ?_ ?_
              rotate_left
              ·intro w'
               go_simp
               with_reducible rfl
              rotate_left
              ·simp only [Act.put, zq1, zq2, zq3, i64_w, i32_w]
               rfl
              refine pure_ (i := 3) (N := some 107) (v := ?_) (a' := ?_) (ab 31 15) rfl rfl (any_of HT_.out (by kernel_rfl)) (fun _ _ _ h => h) (Or.inl ⟨by rfl, ?_⟩) ?_ ?_
              rotate_left
              ·intro w'
               go_simp
               with_reducible rfl
              rotate_left
              ·simp only [Act.put, zq1, zq2, zq3, i64_w, i32_w]
               rfl
              refine pure_ (i := 4) (N := some 108) (v := ?_) (a' := ?_) (ab 31 31) rfl rfl (any_of HT_.out (by kernel_rfl)) (fun _ _ _ h => h) (Or.inl ⟨by rfl, ?_⟩) ?_ ?_
              rotate_left
              ·intro w'
               go_simp
               with_reducible rfl
              rotate_left
              ·simp only [Act.put, zq1, zq2, zq3, i64_w, i32_w]
               rfl
              refine pure_ (i := 5) (N := some 109) (v := ?_) (a' := ?_) (ab 31 63) rfl rfl (any_of HT_.out (by kernel_rfl)) (fun _ _ _ h => h) (Or.inl ⟨by rfl, ?_⟩) ?_ ?_
              rotate_left
              ·intro w'
               go_simp
               with_reducible rfl
              rotate_left
              ·simp only [Act.put, zq1, zq2, zq3, i64_w, i32_w]
               rfl
              refine pure_ (i := 6) (N := some 110) (v := ?_) (a' := ?_) (ab 31 127) rfl rfl (any_of HT_.out (by kernel_rfl)) (fun _ _ _ h => h) (Or.inl ⟨by rfl, ?_⟩) ?_ ?_
              rotate_left
              ·intro w'
               go_simp
               with_reducible rfl
              rotate_left
              ·simp only [Act.put, zq1, zq2, zq3, i64_w, i32_w]
               rfl
              refine pure_ (i := 11) (N := some 115) (v := ?_) (a' := ?_) (ab 31 2175) rfl rfl (any_of HT_.out (by kernel_rfl)) (fun _ _ _ h => h) (Or.inl ⟨by rfl, ?_⟩) ?_ ?_
              rotate_left
              ·intro w'
               go_simp
               with_reducible rfl
              rotate_left
              ·simp only [Act.put, zq1, zq2, zq3, i64_w, i32_w]
               rfl
              refine take_ (i := 7) (N := some 111) (v := ?_) (a' := ?_) (ab 31 2303) rfl rfl (take_ofW HT_.out HW_.out (by kernel_rfl)) (fun _ _ _ h => h) (Or.inl ⟨by rfl, ?_⟩) hHeld ?_ ?_
              rotate_left
              ·rintro w' ⟨s0, s1, s2, s3, s4, s5, s6, s7, s8, s9, s10, s11, s12, s13⟩
               go_simp
               with_reducible rfl
              rotate_left
              ·simp only [Act.put, zq1, zq2, zq3, i64_w, i32_w]
               rfl
              refine take_ (i := 8) (N := some 112) (v := ?_) (a' := ?_) (ab 31 2559) rfl rfl (take_ofW HT_.out HW_.out (by kernel_rfl)) (fun _ _ _ h => h) (Or.inl ⟨by rfl, ?_⟩) hHeld ?_ ?_
              rotate_left
              ·rintro w' ⟨s0, s1, s2, s3, s4, s5, s6, s7, s8, s9, s10, s11, s12, s13⟩
               go_simp
               with_reducible rfl
              rotate_left
              ·simp only [Act.put, zq1, zq2, zq3, i64_w, i32_w]
               rfl
              refine take_ (i := 9) (N := some 113) (v := ?_) (a' := ?_) (ab 31 3071) rfl rfl (take_ofW HT_.out HW_.out (by kernel_rfl)) (fun _ _ _ h => h) (Or.inl ⟨by rfl, ?_⟩) hHeld ?_ ?_
              rotate_left
              ·rintro w' ⟨s0, s1, s2, s3, s4, s5, s6, s7, s8, s9, s10, s11, s12, s13⟩
               go_simp
               with_reducible rfl
              rotate_left
              ·simp only [Act.put, zq1, zq2, zq3, i64_w, i32_w]
               rfl
              refine take_ (i := 12) (N := some 116) (v := ?_) (a' := ?_) (ab 31 7167) rfl rfl (take_ofW HT_.out HW_.out (by kernel_rfl)) (fun _ _ _ h => h) (Or.inl ⟨by rfl, ?_⟩) hHeld ?_ ?_
              rotate_left
              ·rintro w' ⟨s0, s1, s2, s3, s4, s5, s6, s7, s8, s9, s10, s11, s12, s13⟩
               go_simp
               with_reducible rfl
              rotate_left
              ·simp only [Act.put, zq1, zq2, zq3, i64_w, i32_w]
               rfl
              refine one_ (i := 10) (N := some 114) (ab 31 8191) rfl rfl (one_of HT_.out (by kernel_rfl)) (by decide) (fun K hK => ?_)
              refine goes_ Try.func17 (by kernel_rfl) rfl #[.agg #[.int .i64 t320, .int .i64 t321]] (by rfl) rfl rfl (by (try simp only [zm1, zm2, zm3]); first | done | rfl) ?_
              with_reducible refine (vec_Unit.calls kj22 t320 t321 t323 t324 _ A103.out).mono ?_
              rintro e w109 ⟨rfl, hb⟩
              refine ⟨_, rfl, ?_⟩
              have n0_ := Aside0.mk (bb hb BK279.out)
              have n1_ := Aside0.mk (bb hb BK280.out)
              have n2_ := Aside0.mk (bb hb BK288.out)
              have n3_ := Aside0.mk (bb hb BK297.out)
              have n4_ := Aside0.mk (bb hb BK305.out)
              have n5_ := Aside0.mk (bb hb BK313.out)
              have n6_ := Aside0.mk (bb hb BK319.out)
              have n7_ := Aside0.mk (bb hb BK322.out)
              have n8_ := Aside0.mk (below_step (by repeat (first | (with_reducible first | exact HB.out | apply below_alloc | apply pw_below_drewN | apply below_drew1 | refine below_set ?_ GE279.out | refine below_set ?_ GE280.out | refine below_set ?_ GE288.out | refine below_set ?_ GE297.out | refine below_set ?_ GE305.out | refine below_set ?_ GE313.out | refine below_set ?_ GE319.out | refine below_set ?_ GE322.out) | exact HB.out)) hb)
              clear BK279
              clear BK280
              clear BK288
              clear BK297
              clear BK305
              clear BK313
              clear BK319
              clear BK322
              clear HB
              have BK279 := n0_
              have BK280 := n1_
              have BK288 := n2_
              have BK297 := n3_
              have BK305 := n4_
              have BK313 := n5_
              have BK319 := n6_
              have BK322 := n7_
              have HB := n8_
              clear n0_ n1_ n2_ n3_ n4_ n5_ n6_ n7_ n8_
              (try clear hb)
              (try clear hb2)
              (try clear hk)
              (try clear hi)
              refine hK.out _ _ ⟨(blk_cell BK297.out 0).trans rfl, (blk_cell BK297.out 1).trans rfl, (blk_cell BK297.out 2).trans rfl, (blk_cell BK297.out 3).trans rfl, (blk_cell BK297.out 4).trans rfl, (blk_cell BK297.out 5).trans rfl, (blk_cell BK279.out 0).trans rfl, (blk_cell BK279.out 1).trans rfl, (blk_cell BK279.out 2).trans rfl, (blk_cell BK279.out 3).trans rfl, (blk_cell BK279.out 4).trans rfl, (blk_cell BK279.out 5).trans rfl, (blk_cell BK322.out 0).trans rfl, (blk_cell BK322.out 1).trans rfl⟩ (fun hHeld => ?_)
              clear hK K
              refine norm_ (a' := ?_) ?_ ?_
              rotate_left
              ·show Act.put _ (some 114) _ = _
               simp only [Act.put, zq1, zq2, zq3, i64_w, i32_w]
               rfl
              refine one_ (i := 13) (N := some 117) (ab 31 16383) rfl rfl (one_of HT_.out (by kernel_rfl)) (by decide) (fun K hK => ?_)
              refine goes_ Try.func16 (by kernel_rfl) rfl #[.agg #[.int .i64 t323, .int .i64 t324], .int .i64 a0_4] (by rfl) rfl rfl (by (try simp only [zm1, zm2, zm3]); first | done | rfl) ?_
              with_reducible refine (vec_Scale.calls kj22 t323 t324 a0_4 t325 t326 _ A104.out).mono ?_
              rintro e w110 ⟨rfl, hb⟩
              refine ⟨_, rfl, ?_⟩
              have n0_ := Aside0.mk (bb hb BK279.out)
              have n1_ := Aside0.mk (bb hb BK280.out)
              have n2_ := Aside0.mk (bb hb BK288.out)
              have n3_ := Aside0.mk (bb hb BK297.out)
              have n4_ := Aside0.mk (bb hb BK305.out)
              have n5_ := Aside0.mk (bb hb BK313.out)
              have n6_ := Aside0.mk (bb hb BK319.out)
              have n7_ := Aside0.mk (bb hb BK322.out)
              have n8_ := Aside0.mk (below_step (by repeat (first | (with_reducible first | exact HB.out | apply below_alloc | apply pw_below_drewN | apply below_drew1 | refine below_set ?_ GE279.out | refine below_set ?_ GE280.out | refine below_set ?_ GE288.out | refine below_set ?_ GE297.out | refine below_set ?_ GE305.out | refine below_set ?_ GE313.out | refine below_set ?_ GE319.out | refine below_set ?_ GE322.out) | exact HB.out)) hb)
              clear BK279
              clear BK280
              clear BK288
              clear BK297
              clear BK305
              clear BK313
              clear BK319
              clear BK322
              clear HB
              have BK279 := n0_
              have BK280 := n1_
              have BK288 := n2_
              have BK297 := n3_
              have BK305 := n4_
              have BK313 := n5_
              have BK319 := n6_
              have BK322 := n7_
              have HB := n8_
              clear n0_ n1_ n2_ n3_ n4_ n5_ n6_ n7_ n8_
              (try clear hb)
              (try clear hb2)
              (try clear hk)
              (try clear hi)
              refine hK.out _ _ ⟨(blk_cell BK297.out 0).trans rfl, (blk_cell BK297.out 1).trans rfl, (blk_cell BK297.out 2).trans rfl, (blk_cell BK297.out 3).trans rfl, (blk_cell BK297.out 4).trans rfl, (blk_cell BK297.out 5).trans rfl, (blk_cell BK279.out 0).trans rfl, (blk_cell BK279.out 1).trans rfl, (blk_cell BK279.out 2).trans rfl, (blk_cell BK279.out 3).trans rfl, (blk_cell BK279.out 4).trans rfl, (blk_cell BK279.out 5).trans rfl, (blk_cell BK322.out 0).trans rfl, (blk_cell BK322.out 1).trans rfl⟩ (fun hHeld => ?_)
              clear hK K
              refine norm_ (a' := ?_) ?_ ?_
              rotate_left
              ·show Act.put _ (some 117) _ = _
               simp only [Act.put, zq1, zq2, zq3, i64_w, i32_w]
               rfl
              refine one_ (i := 14) (N := some 118) (ab 31 32767) rfl rfl (one_of HT_.out (by kernel_rfl)) (by decide) (fun K hK => ?_)
              refine goes_ Try.func19 (by kernel_rfl) rfl #[.agg #[.int .i64 a0_0, .int .i64 a0_1, .int .i64 a0_2, .int .i64 a0_3, .int .i64 a0_4, .int .i64 a0_5], .agg #[.int .i64 t325, .int .i64 t326]] (by rfl) rfl rfl (by (try simp only [zm1, zm2, zm3]); first | done | rfl) ?_
              with_reducible refine (tourref5_Steered.calls kj22 a0_0 a0_1 a0_2 a0_3 a0_4 a0_5 t325 t326 t327 t328 t329 t330 t331 t332 _ A105.out).mono ?_
              rintro e w111 ⟨rfl, hb⟩
              refine ⟨_, rfl, ?_⟩
              have n0_ := Aside0.mk (bb hb BK279.out)
              have n1_ := Aside0.mk (bb hb BK280.out)
              have n2_ := Aside0.mk (bb hb BK288.out)
              have n3_ := Aside0.mk (bb hb BK297.out)
              have n4_ := Aside0.mk (bb hb BK305.out)
              have n5_ := Aside0.mk (bb hb BK313.out)
              have n6_ := Aside0.mk (bb hb BK319.out)
              have n7_ := Aside0.mk (bb hb BK322.out)
              have n8_ := Aside0.mk (below_step (by repeat (first | (with_reducible first | exact HB.out | apply below_alloc | apply pw_below_drewN | apply below_drew1 | refine below_set ?_ GE279.out | refine below_set ?_ GE280.out | refine below_set ?_ GE288.out | refine below_set ?_ GE297.out | refine below_set ?_ GE305.out | refine below_set ?_ GE313.out | refine below_set ?_ GE319.out | refine below_set ?_ GE322.out) | exact HB.out)) hb)
              clear BK279
              clear BK280
              clear BK288
              clear BK297
              clear BK305
              clear BK313
              clear BK319
              clear BK322
              clear HB
              have BK279 := n0_
              have BK280 := n1_
              have BK288 := n2_
              have BK297 := n3_
              have BK305 := n4_
              have BK313 := n5_
              have BK319 := n6_
              have BK322 := n7_
              have HB := n8_
              clear n0_ n1_ n2_ n3_ n4_ n5_ n6_ n7_ n8_
              (try clear hb)
              (try clear hb2)
              (try clear hk)
              (try clear hi)
              refine hK.out _ _ ⟨(blk_cell BK297.out 0).trans rfl, (blk_cell BK297.out 1).trans rfl, (blk_cell BK297.out 2).trans rfl, (blk_cell BK297.out 3).trans rfl, (blk_cell BK297.out 4).trans rfl, (blk_cell BK297.out 5).trans rfl, (blk_cell BK279.out 0).trans rfl, (blk_cell BK279.out 1).trans rfl, (blk_cell BK279.out 2).trans rfl, (blk_cell BK279.out 3).trans rfl, (blk_cell BK279.out 4).trans rfl, (blk_cell BK279.out 5).trans rfl, (blk_cell BK322.out 0).trans rfl, (blk_cell BK322.out 1).trans rfl⟩ (fun hHeld => ?_)
              clear hK K
              refine norm_ (a' := ?_) ?_ ?_
              rotate_left
              ·show Act.put _ (some 118) _ = _
               simp only [Act.put, zq1, zq2, zq3, i64_w, i32_w]
               rfl
              refine pure_ (i := 15) (N := some 119) (v := ?_) (a' := ?_) (ab 31 65535) rfl rfl (any_of HT_.out (by kernel_rfl)) (fun _ _ _ h => h) (Or.inl ⟨by rfl, ?_⟩) ?_ ?_
              rotate_left
              ·intro w'
               go_simp
               with_reducible rfl
              rotate_left
              ·simp only [Act.put, zq1, zq2, zq3, i64_w, i32_w]
               rfl
              refine pure_ (i := 16) (N := some 120) (v := ?_) (a' := ?_) (ab 31 131071) rfl rfl (any_of HT_.out (by kernel_rfl)) (fun _ _ _ h => h) (Or.inl ⟨by rfl, ?_⟩) ?_ ?_
              rotate_left
              ·intro w'
               go_simp
               with_reducible rfl
              rotate_left
              ·simp only [Act.put, zq1, zq2, zq3, i64_w, i32_w]
               rfl
              refine pure_ (i := 17) (N := some 121) (v := ?_) (a' := ?_) (ab 31 262143) rfl rfl (any_of HT_.out (by kernel_rfl)) (fun _ _ _ h => h) (Or.inl ⟨by rfl, ?_⟩) ?_ ?_
              rotate_left
              ·intro w'
               go_simp
               with_reducible rfl
              rotate_left
              ·simp only [Act.put, zq1, zq2, zq3, i64_w, i32_w]
               rfl
              refine pure_ (i := 18) (N := some 122) (v := undef) (a' := ?_) (ab 31 524287) rfl rfl (any_of HT_.out (by kernel_rfl)) (fun _ _ _ h => h) (Or.inr ⟨by rfl, rfl⟩) ?_ ?_
              rotate_left
              ·simp only [Act.put, zq1, zq2, zq3, i64_w, i32_w]
               rfl
              refine pure_ (i := 19) (N := some 123) (v := undef) (a' := ?_) (ab 31 1048575) rfl rfl (any_of HT_.out (by kernel_rfl)) (fun _ _ _ h => h) (Or.inr ⟨by rfl, rfl⟩) ?_ ?_
              rotate_left
              ·simp only [Act.put, zq1, zq2, zq3, i64_w, i32_w]
               rfl
              refine pure_ (i := 20) (N := some 124) (v := undef) (a' := ?_) (ab 31 2097151) rfl rfl (any_of HT_.out (by kernel_rfl)) (fun _ _ _ h => h) (Or.inr ⟨by rfl, rfl⟩) ?_ ?_
              rotate_left
              ·simp only [Act.put, zq1, zq2, zq3, i64_w, i32_w]
               rfl
              refine pure_ (i := 21) (N := some 125) (v := undef) (a' := ?_) (ab 31 4194303) rfl rfl (any_of HT_.out (by kernel_rfl)) (fun _ _ _ h => h) (Or.inr ⟨by rfl, rfl⟩) ?_ ?_
              rotate_left
              ·simp only [Act.put, zq1, zq2, zq3, i64_w, i32_w]
               rfl
              refine pure_ (i := 22) (N := some 126) (v := undef) (a' := ?_) (ab 31 8388607) rfl rfl (any_of HT_.out (by kernel_rfl)) (fun _ _ _ h => h) (Or.inr ⟨by rfl, rfl⟩) ?_ ?_
              rotate_left
              ·simp only [Act.put, zq1, zq2, zq3, i64_w, i32_w]
               rfl
              refine pure_ (i := 23) (N := some 127) (v := undef) (a' := ?_) (ab 31 16777215) rfl rfl (any_of HT_.out (by kernel_rfl)) (fun _ _ _ h => h) (Or.inr ⟨by rfl, rfl⟩) ?_ ?_
              rotate_left
              ·simp only [Act.put, zq1, zq2, zq3, i64_w, i32_w]
               rfl
              refine pure_ (i := 24) (N := some 128) (v := undef) (a' := ?_) (ab 31 33554431) rfl rfl (any_of HT_.out (by kernel_rfl)) (fun _ _ _ h => h) (Or.inr ⟨by rfl, rfl⟩) ?_ ?_
              rotate_left
              ·simp only [Act.put, zq1, zq2, zq3, i64_w, i32_w]
               rfl
              refine pure_ (i := 25) (N := some 129) (v := undef) (a' := ?_) (ab 31 67108863) rfl rfl (any_of HT_.out (by kernel_rfl)) (fun _ _ _ h => h) (Or.inr ⟨by rfl, rfl⟩) ?_ ?_
              rotate_left
              ·simp only [Act.put, zq1, zq2, zq3, i64_w, i32_w]
               rfl
              refine pure_ (i := 26) (N := some 130) (v := undef) (a' := ?_) (ab 31 134217727) rfl rfl (any_of HT_.out (by kernel_rfl)) (fun _ _ _ h => h) (Or.inr ⟨by rfl, rfl⟩) ?_ ?_
              rotate_left
              ·simp only [Act.put, zq1, zq2, zq3, i64_w, i32_w]
               rfl
              refine pure_ (i := 27) (N := some 131) (v := undef) (a' := ?_) (ab 31 268435455) rfl rfl (any_of HT_.out (by kernel_rfl)) (fun _ _ _ h => h) (Or.inr ⟨by rfl, rfl⟩) ?_ ?_
              rotate_left
              ·simp only [Act.put, zq1, zq2, zq3, i64_w, i32_w]
               rfl
              refine pure_ (i := 28) (N := some 132) (v := undef) (a' := ?_) (ab 31 536870911) rfl rfl (any_of HT_.out (by kernel_rfl)) (fun _ _ _ h => h) (Or.inr ⟨by rfl, rfl⟩) ?_ ?_
              rotate_left
              ·simp only [Act.put, zq1, zq2, zq3, i64_w, i32_w]
               rfl
              refine pure_ (i := 29) (N := some 133) (v := undef) (a' := ?_) (ab 31 1073741823) rfl rfl (any_of HT_.out (by kernel_rfl)) (fun _ _ _ h => h) (Or.inr ⟨by rfl, rfl⟩) ?_ ?_
              rotate_left
              ·simp only [Act.put, zq1, zq2, zq3, i64_w, i32_w]
               rfl
              refine pure_ (i := 30) (N := some 134) (v := ?_) (a' := ?_) (ab 31 2147483647) rfl rfl (any_of HT_.out (by kernel_rfl)) (fun _ _ _ h => h) (Or.inl ⟨by rfl, ?_⟩) ?_ ?_
              rotate_left
              ·intro w'
               go_simp
               with_reducible rfl
              rotate_left
              ·simp only [Act.put, zq1, zq2, zq3, i64_w, i32_w]
               rfl
              refine done_ (done_of HT_.out (by kernel_rfl)) ?_
              try go_wp2
              go_meet
              case rel => exact ⟨_, (true), (by first | rfl | (simp; done) | (simp [*]; done)), H', ⟨by have := HJ5.out; have := HJ22.out; first | omega | exact Nat.le_refl _⟩, ⟨BK279.out⟩, ⟨BK280.out⟩, ⟨BK288.out⟩, ⟨BK297.out⟩, ⟨BK305.out⟩, ⟨BK313.out⟩, ⟨BK319.out⟩, ⟨BK322.out⟩, ⟨by repeat (first | (with_reducible first | exact HB.out | apply below_alloc | apply pw_below_drewN | apply below_drew1 | refine below_set ?_ GE279.out | refine below_set ?_ GE280.out | refine below_set ?_ GE288.out | refine below_set ?_ GE297.out | refine below_set ?_ GE305.out | refine below_set ?_ GE313.out | refine below_set ?_ GE319.out | refine below_set ?_ GE322.out) | exact HB.out)⟩⟩
             ·rw [if_neg c106] at H
              have c106b0 : ((!(t290 == t327) || (!(t291 == t328))) || ((!(t292 == t329) || (!(t293 == t330))) || (!(t294 == t331) || (!(t295 == t332))))) = false := by simpa using c106
              clear c106
              replace H := Option.bind_eq_some_iff.mp H
              obtain ⟨⟨t333, t334⟩, A1120, H⟩ := H
              replace H : ((vec_Unit.f kj22 t333 t334).bind fun bt335 => ((vec_Scale.f kj22 bt335.1 bt335.2 a0_4).bind fun bt337 => ((tourref5_Steered.f kj22 a0_0 a0_1 a0_2 a0_3 a0_4 a0_5 bt337.1 bt337.2).bind fun bt339 => (tourlaw5_SteerTells.j2 kj22 a2 t312 ((!(t298 == bt339.1) || (!(t299 == bt339.2.1))) || ((!(t300 == bt339.2.2.1) || (!(t301 == bt339.2.2.2.1))) || (!(t302 == bt339.2.2.2.2.1) || (!(t303 == bt339.2.2.2.2.2))))) a0_0 a0_1 a0_2 a0_3 a0_4 a0_5 t306 t307 t308 t309 t310 t311 0 0 0 0 0 0 t320 t321)))) = some r := H
              have A112 := Aside0.mk A1120
              clear A1120
              replace H := Option.bind_eq_some_iff.mp H
              obtain ⟨⟨t335, t336⟩, A1130, H⟩ := H
              replace H : ((vec_Scale.f kj22 t335 t336 a0_4).bind fun bt337 => ((tourref5_Steered.f kj22 a0_0 a0_1 a0_2 a0_3 a0_4 a0_5 bt337.1 bt337.2).bind fun bt339 => (tourlaw5_SteerTells.j2 kj22 a2 t312 ((!(t298 == bt339.1) || (!(t299 == bt339.2.1))) || ((!(t300 == bt339.2.2.1) || (!(t301 == bt339.2.2.2.1))) || (!(t302 == bt339.2.2.2.2.1) || (!(t303 == bt339.2.2.2.2.2))))) a0_0 a0_1 a0_2 a0_3 a0_4 a0_5 t306 t307 t308 t309 t310 t311 0 0 0 0 0 0 t320 t321))) = some r := H
              have A113 := Aside0.mk A1130
              clear A1130
              replace H := Option.bind_eq_some_iff.mp H
              obtain ⟨⟨t337, t338⟩, A1140, H⟩ := H
              replace H : ((tourref5_Steered.f kj22 a0_0 a0_1 a0_2 a0_3 a0_4 a0_5 t337 t338).bind fun bt339 => (tourlaw5_SteerTells.j2 kj22 a2 t312 ((!(t298 == bt339.1) || (!(t299 == bt339.2.1))) || ((!(t300 == bt339.2.2.1) || (!(t301 == bt339.2.2.2.1))) || (!(t302 == bt339.2.2.2.2.1) || (!(t303 == bt339.2.2.2.2.2))))) a0_0 a0_1 a0_2 a0_3 a0_4 a0_5 t306 t307 t308 t309 t310 t311 0 0 0 0 0 0 t320 t321)) = some r := H
              have A114 := Aside0.mk A1140
              clear A1140
              replace H := Option.bind_eq_some_iff.mp H
              obtain ⟨⟨t339, t340, t341, t342, t343, t344⟩, A1150, H⟩ := H
              replace H : (tourlaw5_SteerTells.j2 kj22 a2 t312 ((!(t298 == t339) || (!(t299 == t340))) || ((!(t300 == t341) || (!(t301 == t342))) || (!(t302 == t343) || (!(t303 == t344))))) a0_0 a0_1 a0_2 a0_3 a0_4 a0_5 t306 t307 t308 t309 t310 t311 0 0 0 0 0 0 t320 t321) = some r := H
              have A115 := Aside0.mk A1150
              clear A1150
              have H' := Aside0.mk H
              clear H
              try go_wp2
              have n0_ : Aside0 (((w92.setCell ⟨gb322, 0, none⟩ (.int .i64 t320)).setCell ⟨gb322, 1, none⟩ (.int .i64 t321)).heap[gb279]? = some (.cells #[.int .i64 a0_0, .int .i64 a0_1, .int .i64 a0_2, .int .i64 a0_3, .int .i64 a0_4, .int .i64 a0_5] 29 (0, 0))) := ⟨by (with_reducible repeat (first | refine blk_drewN ?_ _ | refine blk_drew ?_ | refine blk_alloc ?_ _)); refine blk_far ?_ NB279_322.out _; refine blk_far ?_ NB279_322.out _; exact BK279.out⟩
              have n1_ : Aside0 (((w92.setCell ⟨gb322, 0, none⟩ (.int .i64 t320)).setCell ⟨gb322, 1, none⟩ (.int .i64 t321)).heap[gb280]? = some (.cells #[.int .i64 a1_0, .int .i64 a1_1] 27 (0, 0))) := ⟨by (with_reducible repeat (first | refine blk_drewN ?_ _ | refine blk_drew ?_ | refine blk_alloc ?_ _)); refine blk_far ?_ NB280_322.out _; refine blk_far ?_ NB280_322.out _; exact BK280.out⟩
              have n2_ : Aside0 (((w92.setCell ⟨gb322, 0, none⟩ (.int .i64 t320)).setCell ⟨gb322, 1, none⟩ (.int .i64 t321)).heap[gb288]? = some (.cells #[.int .i64 t281, .int .i64 t282, .int .i64 t283, .int .i64 t284, .int .i64 t285, .int .i64 t286] 29 (0, 0))) := ⟨by (with_reducible repeat (first | refine blk_drewN ?_ _ | refine blk_drew ?_ | refine blk_alloc ?_ _)); refine blk_far ?_ NB288_322.out _; refine blk_far ?_ NB288_322.out _; exact BK288.out⟩
              have n3_ : Aside0 (((w92.setCell ⟨gb322, 0, none⟩ (.int .i64 t320)).setCell ⟨gb322, 1, none⟩ (.int .i64 t321)).heap[gb297]? = some (.cells #[.int .i64 t290, .int .i64 t291, .int .i64 t292, .int .i64 t293, .int .i64 t294, .int .i64 t295] 29 (0, 0))) := ⟨by (with_reducible repeat (first | refine blk_drewN ?_ _ | refine blk_drew ?_ | refine blk_alloc ?_ _)); refine blk_far ?_ NB297_322.out _; refine blk_far ?_ NB297_322.out _; exact BK297.out⟩
              have n4_ : Aside0 (((w92.setCell ⟨gb322, 0, none⟩ (.int .i64 t320)).setCell ⟨gb322, 1, none⟩ (.int .i64 t321)).heap[gb305]? = some (.cells #[.int .i64 t298, .int .i64 t299, .int .i64 t300, .int .i64 t301, .int .i64 t302, .int .i64 t303] 29 (0, 0))) := ⟨by (with_reducible repeat (first | refine blk_drewN ?_ _ | refine blk_drew ?_ | refine blk_alloc ?_ _)); refine blk_far ?_ NB305_322.out _; refine blk_far ?_ NB305_322.out _; exact BK305.out⟩
              have n5_ : Aside0 (((w92.setCell ⟨gb322, 0, none⟩ (.int .i64 t320)).setCell ⟨gb322, 1, none⟩ (.int .i64 t321)).heap[gb313]? = some (.cells #[.int .i64 t306, .int .i64 t307, .int .i64 t308, .int .i64 t309, .int .i64 t310, .int .i64 t311] 29 (0, 0))) := ⟨by (with_reducible repeat (first | refine blk_drewN ?_ _ | refine blk_drew ?_ | refine blk_alloc ?_ _)); refine blk_far ?_ NB313_322.out _; refine blk_far ?_ NB313_322.out _; exact BK313.out⟩
              have n6_ : Aside0 (((w92.setCell ⟨gb322, 0, none⟩ (.int .i64 t320)).setCell ⟨gb322, 1, none⟩ (.int .i64 t321)).heap[gb319]? = some (.cells #[.int .i64 0, .int .i64 0, .int .i64 0, .int .i64 0, .int .i64 0, .int .i64 0] 29 (0, 0))) := ⟨by (with_reducible repeat (first | refine blk_drewN ?_ _ | refine blk_drew ?_ | refine blk_alloc ?_ _)); refine blk_far ?_ NB319_322.out _; refine blk_far ?_ NB319_322.out _; exact BK319.out⟩
              have n7_ : Aside0 (((w92.setCell ⟨gb322, 0, none⟩ (.int .i64 t320)).setCell ⟨gb322, 1, none⟩ (.int .i64 t321)).heap[gb322]? = some (.cells #[.int .i64 t320, .int .i64 t321] 27 (0, 0))) := ⟨by (with_reducible repeat (first | refine blk_drewN ?_ _ | refine blk_drew ?_ | refine blk_alloc ?_ _)); refine blk_put (cs := #[.int .i64 t320, .int .i64 0]) ?_ 1 _ rfl; refine blk_put (cs := #[.int .i64 0, .int .i64 0]) ?_ 0 _ rfl; exact BK322.out⟩
              have n8_ : Aside0 (Below w.heap.size w ((w92.setCell ⟨gb322, 0, none⟩ (.int .i64 t320)).setCell ⟨gb322, 1, none⟩ (.int .i64 t321))) := ⟨by repeat (first | (with_reducible first | exact HB.out | apply below_alloc | apply pw_below_drewN | apply below_drew1 | refine below_set ?_ GE279.out | refine below_set ?_ GE280.out | refine below_set ?_ GE288.out | refine below_set ?_ GE297.out | refine below_set ?_ GE305.out | refine below_set ?_ GE313.out | refine below_set ?_ GE319.out | refine below_set ?_ GE322.out) | exact HB.out)⟩
              (try clear BK279)
              (try clear BK280)
              (try clear BK288)
              (try clear BK297)
              (try clear BK305)
              (try clear BK313)
              (try clear BK319)
              (try clear BK322)
              (try clear HB)
              generalize ((w92.setCell ⟨gb322, 0, none⟩ (.int .i64 t320)).setCell ⟨gb322, 1, none⟩ (.int .i64 t321)) = w116 at n0_ n1_ n2_ n3_ n4_ n5_ n6_ n7_ n8_ ⊢
              have BK279 := n0_
              have BK280 := n1_
              have BK288 := n2_
              have BK297 := n3_
              have BK305 := n4_
              have BK313 := n5_
              have BK319 := n6_
              have BK322 := n7_
              have HB := n8_
              clear n0_ n1_ n2_ n3_ n4_ n5_ n6_ n7_ n8_
              have n0_ := Aside0.mk (blk_drew BK279.out)
              have n1_ := Aside0.mk (blk_drew BK280.out)
              have n2_ := Aside0.mk (blk_drew BK288.out)
              have n3_ := Aside0.mk (blk_drew BK297.out)
              have n4_ := Aside0.mk (blk_drew BK305.out)
              have n5_ := Aside0.mk (blk_drew BK313.out)
              have n6_ := Aside0.mk (blk_drew BK319.out)
              have n7_ := Aside0.mk (blk_drew BK322.out)
              have n8_ := Aside0.mk (below_drew1 HB.out)
              clear BK279
              clear BK280
              clear BK288
              clear BK297
              clear BK305
              clear BK313
              clear BK319
              clear BK322
              clear HB
              have BK279 := n0_
              have BK280 := n1_
              have BK288 := n2_
              have BK297 := n3_
              have BK305 := n4_
              have BK313 := n5_
              have BK319 := n6_
              have BK322 := n7_
              have HB := n8_
              clear n0_ n1_ n2_ n3_ n4_ n5_ n6_ n7_ n8_
              refine start_ (n := 31) (S := fun w' => w'.cell? ⟨gb297, 0, none⟩ = some (.int .i64 t290) ∧ w'.cell? ⟨gb297, 1, none⟩ = some (.int .i64 t291) ∧ w'.cell? ⟨gb297, 2, none⟩ = some (.int .i64 t292) ∧ w'.cell? ⟨gb297, 3, none⟩ = some (.int .i64 t293) ∧ w'.cell? ⟨gb297, 4, none⟩ = some (.int .i64 t294) ∧ w'.cell? ⟨gb297, 5, none⟩ = some (.int .i64 t295) ∧ w'.cell? ⟨gb279, 0, none⟩ = some (.int .i64 a0_0) ∧ w'.cell? ⟨gb279, 1, none⟩ = some (.int .i64 a0_1) ∧ w'.cell? ⟨gb279, 2, none⟩ = some (.int .i64 a0_2) ∧ w'.cell? ⟨gb279, 3, none⟩ = some (.int .i64 a0_3) ∧ w'.cell? ⟨gb279, 4, none⟩ = some (.int .i64 a0_4) ∧ w'.cell? ⟨gb279, 5, none⟩ = some (.int .i64 a0_5) ∧ w'.cell? ⟨gb322, 0, none⟩ = some (.int .i64 t320) ∧ w'.cell? ⟨gb322, 1, none⟩ = some (.int .i64 t321) ∧ w'.cell? ⟨gb305, 0, none⟩ = some (.int .i64 t298) ∧ w'.cell? ⟨gb305, 1, none⟩ = some (.int .i64 t299) ∧ w'.cell? ⟨gb305, 2, none⟩ = some (.int .i64 t300) ∧ w'.cell? ⟨gb305, 3, none⟩ = some (.int .i64 t301) ∧ w'.cell? ⟨gb305, 4, none⟩ = some (.int .i64 t302) ∧ w'.cell? ⟨gb305, 5, none⟩ = some (.int .i64 t303) ∧ w'.cell? ⟨gb280, 0, none⟩ = some (.int .i64 a1_0) ∧ w'.cell? ⟨gb280, 1, none⟩ = some (.int .i64 a1_1)) (ds := []) (ab 31 0) (by kernel_rfl) rfl rfl ⟨(blk_cell BK297.out 0).trans rfl, (blk_cell BK297.out 1).trans rfl, (blk_cell BK297.out 2).trans rfl, (blk_cell BK297.out 3).trans rfl, (blk_cell BK297.out 4).trans rfl, (blk_cell BK297.out 5).trans rfl, (blk_cell BK279.out 0).trans rfl, (blk_cell BK279.out 1).trans rfl, (blk_cell BK279.out 2).trans rfl, (blk_cell BK279.out 3).trans rfl, (blk_cell BK279.out 4).trans rfl, (blk_cell BK279.out 5).trans rfl, (blk_cell BK322.out 0).trans rfl, (blk_cell BK322.out 1).trans rfl, (blk_cell BK305.out 0).trans rfl, (blk_cell BK305.out 1).trans rfl, (blk_cell BK305.out 2).trans rfl, (blk_cell BK305.out 3).trans rfl, (blk_cell BK305.out 4).trans rfl, (blk_cell BK305.out 5).trans rfl, (blk_cell BK280.out 0).trans rfl, (blk_cell BK280.out 1).trans rfl⟩ (fun hHeld => ?_); refine with_tabW tourlaw5_SteerTells.tab14 tourlaw5_SteerTells.bits14 (fun HT_ HW_ => ?_)
              generalize w116.drew = w117 at BK279 BK280 BK288 BK297 BK305 BK313 BK319 BK322 HB hHeld ⊢
              refine pure_ (i := 0) (N := some 104) (v := ?_) (a' := ?_) (ab 31 1) rfl rfl (any_of HT_.out (by kernel_rfl)) (fun _ _ _ h => h) (Or.inl ⟨by rfl, ?_⟩) ?_ ?_
              rotate_left
              ·intro w'
               go_simp
               with_reducible rfl
              rotate_left
              ·simp only [Act.put, zq1, zq2, zq3, i64_w, i32_w]
               rfl
              refine pure_ (i := 1) (N := some 105) (v := ?_) (a' := ?_) (ab 31 3) rfl rfl (any_of HT_.out (by kernel_rfl)) (fun _ _ _ h => h) (Or.inl ⟨by rfl, ?_⟩) ?_ ?_
              rotate_left
              ·intro w'
               go_simp
               with_reducible rfl
              rotate_left
              ·simp only [Act.put, zq1, zq2, zq3, i64_w, i32_w]
               rfl
              refine pure_ (i := 2) (N := some 106) (v := ?_) (a' := ?_) (ab 31 7) rfl rfl (any_of HT_.out (by kernel_rfl)) (fun _ _ _ h => h) (Or.inl ⟨by rfl, ?_⟩) ?_ ?_
              rotate_left
              ·intro w'
               go_simp
               with_reducible rfl
              rotate_left
              ·simp only [Act.put, zq1, zq2, zq3, i64_w, i32_w]
               rfl
              refine pure_ (i := 3) (N := some 107) (v := ?_) (a' := ?_) (ab 31 15) rfl rfl (any_of HT_.out (by kernel_rfl)) (fun _ _ _ h => h) (Or.inl ⟨by rfl, ?_⟩) ?_ ?_
              rotate_left
              ·intro w'
               go_simp
               with_reducible rfl
              rotate_left
              ·simp only [Act.put, zq1, zq2, zq3, i64_w, i32_w]
               rfl
              refine pure_ (i := 4) (N := some 108) (v := ?_) (a' := ?_) (ab 31 31) rfl rfl (any_of HT_.out (by kernel_rfl)) (fun _ _ _ h => h) (Or.inl ⟨by rfl, ?_⟩) ?_ ?_
              rotate_left
              ·intro w'
               go_simp
               with_reducible rfl
              rotate_left
              ·simp only [Act.put, zq1, zq2, zq3, i64_w, i32_w]
               rfl
              refine pure_ (i := 5) (N := some 109) (v := ?_) (a' := ?_) (ab 31 63) rfl rfl (any_of HT_.out (by kernel_rfl)) (fun _ _ _ h => h) (Or.inl ⟨by rfl, ?_⟩) ?_ ?_
              rotate_left
              ·intro w'
               go_simp
               with_reducible rfl
              rotate_left
              ·simp only [Act.put, zq1, zq2, zq3, i64_w, i32_w]
               rfl
              refine pure_ (i := 6) (N := some 110) (v := ?_) (a' := ?_) (ab 31 127) rfl rfl (any_of HT_.out (by kernel_rfl)) (fun _ _ _ h => h) (Or.inl ⟨by rfl, ?_⟩) ?_ ?_
              rotate_left
              ·intro w'
               go_simp
               with_reducible rfl
              rotate_left
              ·simp only [Act.put, zq1, zq2, zq3, i64_w, i32_w]
               rfl
              refine pure_ (i := 11) (N := some 115) (v := ?_) (a' := ?_) (ab 31 2175) rfl rfl (any_of HT_.out (by kernel_rfl)) (fun _ _ _ h => h) (Or.inl ⟨by rfl, ?_⟩) ?_ ?_
              rotate_left
              ·intro w'
               go_simp
               with_reducible rfl
              rotate_left
              ·simp only [Act.put, zq1, zq2, zq3, i64_w, i32_w]
               rfl
              refine take_ (i := 7) (N := some 111) (v := ?_) (a' := ?_) (ab 31 2303) rfl rfl (take_ofW HT_.out HW_.out (by kernel_rfl)) (fun _ _ _ h => h) (Or.inl ⟨by rfl, ?_⟩) hHeld ?_ ?_
              rotate_left
              ·rintro w' ⟨s0, s1, s2, s3, s4, s5, s6, s7, s8, s9, s10, s11, s12, s13, s14, s15, s16, s17, s18, s19, s20, s21⟩
               go_simp
               with_reducible rfl
              rotate_left
              ·simp only [Act.put, zq1, zq2, zq3, i64_w, i32_w]
               rfl
              refine take_ (i := 8) (N := some 112) (v := ?_) (a' := ?_) (ab 31 2559) rfl rfl (take_ofW HT_.out HW_.out (by kernel_rfl)) (fun _ _ _ h => h) (Or.inl ⟨by rfl, ?_⟩) hHeld ?_ ?_
              rotate_left
              ·rintro w' ⟨s0, s1, s2, s3, s4, s5, s6, s7, s8, s9, s10, s11, s12, s13, s14, s15, s16, s17, s18, s19, s20, s21⟩
               go_simp
               with_reducible rfl
              rotate_left
              ·simp only [Act.put, zq1, zq2, zq3, i64_w, i32_w]
               rfl
              refine take_ (i := 9) (N := some 113) (v := ?_) (a' := ?_) (ab 31 3071) rfl rfl (take_ofW HT_.out HW_.out (by kernel_rfl)) (fun _ _ _ h => h) (Or.inl ⟨by rfl, ?_⟩) hHeld ?_ ?_
              rotate_left
              ·rintro w' ⟨s0, s1, s2, s3, s4, s5, s6, s7, s8, s9, s10, s11, s12, s13, s14, s15, s16, s17, s18, s19, s20, s21⟩
               go_simp
               with_reducible rfl
              rotate_left
              ·simp only [Act.put, zq1, zq2, zq3, i64_w, i32_w]
               rfl
              refine take_ (i := 12) (N := some 116) (v := ?_) (a' := ?_) (ab 31 7167) rfl rfl (take_ofW HT_.out HW_.out (by kernel_rfl)) (fun _ _ _ h => h) (Or.inl ⟨by rfl, ?_⟩) hHeld ?_ ?_
              rotate_left
              ·rintro w' ⟨s0, s1, s2, s3, s4, s5, s6, s7, s8, s9, s10, s11, s12, s13, s14, s15, s16, s17, s18, s19, s20, s21⟩
               go_simp
               with_reducible rfl
              rotate_left
              ·simp only [Act.put, zq1, zq2, zq3, i64_w, i32_w]
               rfl
              refine one_ (i := 10) (N := some 114) (ab 31 8191) rfl rfl (one_of HT_.out (by kernel_rfl)) (by decide) (fun K hK => ?_)
              refine goes_ Try.func17 (by kernel_rfl) rfl #[.agg #[.int .i64 t320, .int .i64 t321]] (by rfl) rfl rfl (by (try simp only [zm1, zm2, zm3]); first | done | rfl) ?_
              with_reducible refine (vec_Unit.calls kj22 t320 t321 t323 t324 _ A103.out).mono ?_
              rintro e w118 ⟨rfl, hb⟩
              refine ⟨_, rfl, ?_⟩
              have n0_ := Aside0.mk (bb hb BK279.out)
              have n1_ := Aside0.mk (bb hb BK280.out)
              have n2_ := Aside0.mk (bb hb BK288.out)
              have n3_ := Aside0.mk (bb hb BK297.out)
              have n4_ := Aside0.mk (bb hb BK305.out)
              have n5_ := Aside0.mk (bb hb BK313.out)
              have n6_ := Aside0.mk (bb hb BK319.out)
              have n7_ := Aside0.mk (bb hb BK322.out)
              have n8_ := Aside0.mk (below_step (by repeat (first | (with_reducible first | exact HB.out | apply below_alloc | apply pw_below_drewN | apply below_drew1 | refine below_set ?_ GE279.out | refine below_set ?_ GE280.out | refine below_set ?_ GE288.out | refine below_set ?_ GE297.out | refine below_set ?_ GE305.out | refine below_set ?_ GE313.out | refine below_set ?_ GE319.out | refine below_set ?_ GE322.out) | exact HB.out)) hb)
              clear BK279
              clear BK280
              clear BK288
              clear BK297
              clear BK305
              clear BK313
              clear BK319
              clear BK322
              clear HB
              have BK279 := n0_
              have BK280 := n1_
              have BK288 := n2_
              have BK297 := n3_
              have BK305 := n4_
              have BK313 := n5_
              have BK319 := n6_
              have BK322 := n7_
              have HB := n8_
              clear n0_ n1_ n2_ n3_ n4_ n5_ n6_ n7_ n8_
              (try clear hb)
              (try clear hb2)
              (try clear hk)
              (try clear hi)
              refine hK.out _ _ ⟨(blk_cell BK297.out 0).trans rfl, (blk_cell BK297.out 1).trans rfl, (blk_cell BK297.out 2).trans rfl, (blk_cell BK297.out 3).trans rfl, (blk_cell BK297.out 4).trans rfl, (blk_cell BK297.out 5).trans rfl, (blk_cell BK279.out 0).trans rfl, (blk_cell BK279.out 1).trans rfl, (blk_cell BK279.out 2).trans rfl, (blk_cell BK279.out 3).trans rfl, (blk_cell BK279.out 4).trans rfl, (blk_cell BK279.out 5).trans rfl, (blk_cell BK322.out 0).trans rfl, (blk_cell BK322.out 1).trans rfl, (blk_cell BK305.out 0).trans rfl, (blk_cell BK305.out 1).trans rfl, (blk_cell BK305.out 2).trans rfl, (blk_cell BK305.out 3).trans rfl, (blk_cell BK305.out 4).trans rfl, (blk_cell BK305.out 5).trans rfl, (blk_cell BK280.out 0).trans rfl, (blk_cell BK280.out 1).trans rfl⟩ (fun hHeld => ?_)
              clear hK K
              refine norm_ (a' := ?_) ?_ ?_
              rotate_left
              ·show Act.put _ (some 114) _ = _
               simp only [Act.put, zq1, zq2, zq3, i64_w, i32_w]
               rfl
              refine one_ (i := 13) (N := some 117) (ab 31 16383) rfl rfl (one_of HT_.out (by kernel_rfl)) (by decide) (fun K hK => ?_)
              refine goes_ Try.func16 (by kernel_rfl) rfl #[.agg #[.int .i64 t323, .int .i64 t324], .int .i64 a0_4] (by rfl) rfl rfl (by (try simp only [zm1, zm2, zm3]); first | done | rfl) ?_
              with_reducible refine (vec_Scale.calls kj22 t323 t324 a0_4 t325 t326 _ A104.out).mono ?_
              rintro e w119 ⟨rfl, hb⟩
              refine ⟨_, rfl, ?_⟩
              have n0_ := Aside0.mk (bb hb BK279.out)
              have n1_ := Aside0.mk (bb hb BK280.out)
              have n2_ := Aside0.mk (bb hb BK288.out)
              have n3_ := Aside0.mk (bb hb BK297.out)
              have n4_ := Aside0.mk (bb hb BK305.out)
              have n5_ := Aside0.mk (bb hb BK313.out)
              have n6_ := Aside0.mk (bb hb BK319.out)
              have n7_ := Aside0.mk (bb hb BK322.out)
              have n8_ := Aside0.mk (below_step (by repeat (first | (with_reducible first | exact HB.out | apply below_alloc | apply pw_below_drewN | apply below_drew1 | refine below_set ?_ GE279.out | refine below_set ?_ GE280.out | refine below_set ?_ GE288.out | refine below_set ?_ GE297.out | refine below_set ?_ GE305.out | refine below_set ?_ GE313.out | refine below_set ?_ GE319.out | refine below_set ?_ GE322.out) | exact HB.out)) hb)
              clear BK279
              clear BK280
              clear BK288
              clear BK297
              clear BK305
              clear BK313
              clear BK319
              clear BK322
              clear HB
              have BK279 := n0_
              have BK280 := n1_
              have BK288 := n2_
              have BK297 := n3_
              have BK305 := n4_
              have BK313 := n5_
              have BK319 := n6_
              have BK322 := n7_
              have HB := n8_
              clear n0_ n1_ n2_ n3_ n4_ n5_ n6_ n7_ n8_
              (try clear hb)
              (try clear hb2)
              (try clear hk)
              (try clear hi)
              refine hK.out _ _ ⟨(blk_cell BK297.out 0).trans rfl, (blk_cell BK297.out 1).trans rfl, (blk_cell BK297.out 2).trans rfl, (blk_cell BK297.out 3).trans rfl, (blk_cell BK297.out 4).trans rfl, (blk_cell BK297.out 5).trans rfl, (blk_cell BK279.out 0).trans rfl, (blk_cell BK279.out 1).trans rfl, (blk_cell BK279.out 2).trans rfl, (blk_cell BK279.out 3).trans rfl, (blk_cell BK279.out 4).trans rfl, (blk_cell BK279.out 5).trans rfl, (blk_cell BK322.out 0).trans rfl, (blk_cell BK322.out 1).trans rfl, (blk_cell BK305.out 0).trans rfl, (blk_cell BK305.out 1).trans rfl, (blk_cell BK305.out 2).trans rfl, (blk_cell BK305.out 3).trans rfl, (blk_cell BK305.out 4).trans rfl, (blk_cell BK305.out 5).trans rfl, (blk_cell BK280.out 0).trans rfl, (blk_cell BK280.out 1).trans rfl⟩ (fun hHeld => ?_)
              clear hK K
              refine norm_ (a' := ?_) ?_ ?_
              rotate_left
              ·show Act.put _ (some 117) _ = _
               simp only [Act.put, zq1, zq2, zq3, i64_w, i32_w]
               rfl
              refine one_ (i := 14) (N := some 118) (ab 31 32767) rfl rfl (one_of HT_.out (by kernel_rfl)) (by decide) (fun K hK => ?_)
              refine goes_ Try.func19 (by kernel_rfl) rfl #[.agg #[.int .i64 a0_0, .int .i64 a0_1, .int .i64 a0_2, .int .i64 a0_3, .int .i64 a0_4, .int .i64 a0_5], .agg #[.int .i64 t325, .int .i64 t326]] (by rfl) rfl rfl (by (try simp only [zm1, zm2, zm3]); first | done | rfl) ?_
              with_reducible refine (tourref5_Steered.calls kj22 a0_0 a0_1 a0_2 a0_3 a0_4 a0_5 t325 t326 t327 t328 t329 t330 t331 t332 _ A105.out).mono ?_
              rintro e w120 ⟨rfl, hb⟩
              refine ⟨_, rfl, ?_⟩
              have n0_ := Aside0.mk (bb hb BK279.out)
              have n1_ := Aside0.mk (bb hb BK280.out)
              have n2_ := Aside0.mk (bb hb BK288.out)
              have n3_ := Aside0.mk (bb hb BK297.out)
              have n4_ := Aside0.mk (bb hb BK305.out)
              have n5_ := Aside0.mk (bb hb BK313.out)
              have n6_ := Aside0.mk (bb hb BK319.out)
              have n7_ := Aside0.mk (bb hb BK322.out)
              have n8_ := Aside0.mk (below_step (by repeat (first | (with_reducible first | exact HB.out | apply below_alloc | apply pw_below_drewN | apply below_drew1 | refine below_set ?_ GE279.out | refine below_set ?_ GE280.out | refine below_set ?_ GE288.out | refine below_set ?_ GE297.out | refine below_set ?_ GE305.out | refine below_set ?_ GE313.out | refine below_set ?_ GE319.out | refine below_set ?_ GE322.out) | exact HB.out)) hb)
              clear BK279
              clear BK280
              clear BK288
              clear BK297
              clear BK305
              clear BK313
              clear BK319
              clear BK322
              clear HB
              have BK279 := n0_
              have BK280 := n1_
              have BK288 := n2_
              have BK297 := n3_
              have BK305 := n4_
              have BK313 := n5_
              have BK319 := n6_
              have BK322 := n7_
              have HB := n8_
              clear n0_ n1_ n2_ n3_ n4_ n5_ n6_ n7_ n8_
              (try clear hb)
              (try clear hb2)
              (try clear hk)
              (try clear hi)
              refine hK.out _ _ ⟨(blk_cell BK297.out 0).trans rfl, (blk_cell BK297.out 1).trans rfl, (blk_cell BK297.out 2).trans rfl, (blk_cell BK297.out 3).trans rfl, (blk_cell BK297.out 4).trans rfl, (blk_cell BK297.out 5).trans rfl, (blk_cell BK279.out 0).trans rfl, (blk_cell BK279.out 1).trans rfl, (blk_cell BK279.out 2).trans rfl, (blk_cell BK279.out 3).trans rfl, (blk_cell BK279.out 4).trans rfl, (blk_cell BK279.out 5).trans rfl, (blk_cell BK322.out 0).trans rfl, (blk_cell BK322.out 1).trans rfl, (blk_cell BK305.out 0).trans rfl, (blk_cell BK305.out 1).trans rfl, (blk_cell BK305.out 2).trans rfl, (blk_cell BK305.out 3).trans rfl, (blk_cell BK305.out 4).trans rfl, (blk_cell BK305.out 5).trans rfl, (blk_cell BK280.out 0).trans rfl, (blk_cell BK280.out 1).trans rfl⟩ (fun hHeld => ?_)
              clear hK K
              refine norm_ (a' := ?_) ?_ ?_
              rotate_left
              ·show Act.put _ (some 118) _ = _
               simp only [Act.put, zq1, zq2, zq3, i64_w, i32_w]
               rfl
              refine pure_ (i := 15) (N := some 119) (v := ?_) (a' := ?_) (ab 31 65535) rfl rfl (any_of HT_.out (by kernel_rfl)) (fun _ _ _ h => h) (Or.inl ⟨by rfl, ?_⟩) ?_ ?_
              rotate_left
              ·intro w'
               go_simp
               with_reducible rfl
              rotate_left
              ·simp only [Act.put, zq1, zq2, zq3, i64_w, i32_w]
               rfl
              refine pure_ (i := 16) (N := some 120) (v := ?_) (a' := ?_) (ab 31 131071) rfl rfl (any_of HT_.out (by kernel_rfl)) (fun _ _ _ h => h) (Or.inl ⟨by rfl, ?_⟩) ?_ ?_
              rotate_left
              ·intro w'
               go_simp
               with_reducible rfl
              rotate_left
              ·simp only [Act.put, zq1, zq2, zq3, i64_w, i32_w]
               rfl
              refine pure_ (i := 17) (N := some 121) (v := ?_) (a' := ?_) (ab 31 262143) rfl rfl (any_of HT_.out (by kernel_rfl)) (fun _ _ _ h => h) (Or.inl ⟨by rfl, ?_⟩) ?_ ?_
              rotate_left
              ·intro w'
               go_simp
               with_reducible rfl
              rotate_left
              ·simp only [Act.put, zq1, zq2, zq3, i64_w, i32_w]
               rfl
              refine pure_ (i := 20) (N := some 124) (v := ?_) (a' := ?_) (ab 31 1310719) rfl rfl (any_of HT_.out (by kernel_rfl)) (fun _ _ _ h => h) (Or.inl ⟨by rfl, ?_⟩) ?_ ?_
              rotate_left
              ·intro w'
               go_simp
               with_reducible rfl
              rotate_left
              ·simp only [Act.put, zq1, zq2, zq3, i64_w, i32_w]
               rfl
              refine pure_ (i := 25) (N := some 129) (v := ?_) (a' := ?_) (ab 31 34865151) rfl rfl (any_of HT_.out (by kernel_rfl)) (fun _ _ _ h => h) (Or.inl ⟨by rfl, ?_⟩) ?_ ?_
              rotate_left
              ·intro w'
               go_simp
               with_reducible rfl
              rotate_left
              ·simp only [Act.put, zq1, zq2, zq3, i64_w, i32_w]
               rfl
              refine take_ (i := 18) (N := some 122) (v := ?_) (a' := ?_) (ab 31 35127295) rfl rfl (take_ofW HT_.out HW_.out (by kernel_rfl)) (fun _ _ _ h => h) (Or.inl ⟨by rfl, ?_⟩) hHeld ?_ ?_
              rotate_left
              ·rintro w' ⟨s0, s1, s2, s3, s4, s5, s6, s7, s8, s9, s10, s11, s12, s13, s14, s15, s16, s17, s18, s19, s20, s21⟩
               go_simp
               with_reducible rfl
              rotate_left
              ·simp only [Act.put, zq1, zq2, zq3, i64_w, i32_w]
               rfl
              refine take_ (i := 19) (N := some 123) (v := ?_) (a' := ?_) (ab 31 35651583) rfl rfl (take_ofW HT_.out HW_.out (by kernel_rfl)) (fun _ _ _ h => h) (Or.inl ⟨by rfl, ?_⟩) hHeld ?_ ?_
              rotate_left
              ·rintro w' ⟨s0, s1, s2, s3, s4, s5, s6, s7, s8, s9, s10, s11, s12, s13, s14, s15, s16, s17, s18, s19, s20, s21⟩
               go_simp
               with_reducible rfl
              rotate_left
              ·simp only [Act.put, zq1, zq2, zq3, i64_w, i32_w]
               rfl
              refine take_ (i := 21) (N := some 125) (v := ?_) (a' := ?_) (ab 31 37748735) rfl rfl (take_ofW HT_.out HW_.out (by kernel_rfl)) (fun _ _ _ h => h) (Or.inl ⟨by rfl, ?_⟩) hHeld ?_ ?_
              rotate_left
              ·rintro w' ⟨s0, s1, s2, s3, s4, s5, s6, s7, s8, s9, s10, s11, s12, s13, s14, s15, s16, s17, s18, s19, s20, s21⟩
               go_simp
               with_reducible rfl
              rotate_left
              ·simp only [Act.put, zq1, zq2, zq3, i64_w, i32_w]
               rfl
              refine take_ (i := 22) (N := some 126) (v := ?_) (a' := ?_) (ab 31 41943039) rfl rfl (take_ofW HT_.out HW_.out (by kernel_rfl)) (fun _ _ _ h => h) (Or.inl ⟨by rfl, ?_⟩) hHeld ?_ ?_
              rotate_left
              ·rintro w' ⟨s0, s1, s2, s3, s4, s5, s6, s7, s8, s9, s10, s11, s12, s13, s14, s15, s16, s17, s18, s19, s20, s21⟩
               go_simp
               with_reducible rfl
              rotate_left
              ·simp only [Act.put, zq1, zq2, zq3, i64_w, i32_w]
               rfl
              refine take_ (i := 26) (N := some 130) (v := ?_) (a' := ?_) (ab 31 109051903) rfl rfl (take_ofW HT_.out HW_.out (by kernel_rfl)) (fun _ _ _ h => h) (Or.inl ⟨by rfl, ?_⟩) hHeld ?_ ?_
              rotate_left
              ·rintro w' ⟨s0, s1, s2, s3, s4, s5, s6, s7, s8, s9, s10, s11, s12, s13, s14, s15, s16, s17, s18, s19, s20, s21⟩
               go_simp
               with_reducible rfl
              rotate_left
              ·simp only [Act.put, zq1, zq2, zq3, i64_w, i32_w]
               rfl
              refine one_ (i := 23) (N := some 127) (ab 31 117440511) rfl rfl (one_of HT_.out (by kernel_rfl)) (by decide) (fun K hK => ?_)
              refine goes_ Try.func13 (by kernel_rfl) rfl #[.agg #[.int .i64 a0_0, .int .i64 a0_1], .agg #[.int .i64 a1_0, .int .i64 a1_1]] (by rfl) rfl rfl (by (try simp only [zm1, zm2, zm3]); first | done | rfl) ?_
              with_reducible refine (vec_Sub.calls a0_0 a0_1 a1_0 a1_1 t333 t334 _ A112.out).mono ?_
              rintro e w121 ⟨rfl, hb⟩
              refine ⟨_, rfl, ?_⟩
              have n0_ := Aside0.mk (bb hb BK279.out)
              have n1_ := Aside0.mk (bb hb BK280.out)
              have n2_ := Aside0.mk (bb hb BK288.out)
              have n3_ := Aside0.mk (bb hb BK297.out)
              have n4_ := Aside0.mk (bb hb BK305.out)
              have n5_ := Aside0.mk (bb hb BK313.out)
              have n6_ := Aside0.mk (bb hb BK319.out)
              have n7_ := Aside0.mk (bb hb BK322.out)
              have n8_ := Aside0.mk (below_step (by repeat (first | (with_reducible first | exact HB.out | apply below_alloc | apply pw_below_drewN | apply below_drew1 | refine below_set ?_ GE279.out | refine below_set ?_ GE280.out | refine below_set ?_ GE288.out | refine below_set ?_ GE297.out | refine below_set ?_ GE305.out | refine below_set ?_ GE313.out | refine below_set ?_ GE319.out | refine below_set ?_ GE322.out) | exact HB.out)) hb)
              clear BK279
              clear BK280
              clear BK288
              clear BK297
              clear BK305
              clear BK313
              clear BK319
              clear BK322
              clear HB
              have BK279 := n0_
              have BK280 := n1_
              have BK288 := n2_
              have BK297 := n3_
              have BK305 := n4_
              have BK313 := n5_
              have BK319 := n6_
              have BK322 := n7_
              have HB := n8_
              clear n0_ n1_ n2_ n3_ n4_ n5_ n6_ n7_ n8_
              (try clear hb)
              (try clear hb2)
              (try clear hk)
              (try clear hi)
              refine hK.out _ _ ⟨(blk_cell BK297.out 0).trans rfl, (blk_cell BK297.out 1).trans rfl, (blk_cell BK297.out 2).trans rfl, (blk_cell BK297.out 3).trans rfl, (blk_cell BK297.out 4).trans rfl, (blk_cell BK297.out 5).trans rfl, (blk_cell BK279.out 0).trans rfl, (blk_cell BK279.out 1).trans rfl, (blk_cell BK279.out 2).trans rfl, (blk_cell BK279.out 3).trans rfl, (blk_cell BK279.out 4).trans rfl, (blk_cell BK279.out 5).trans rfl, (blk_cell BK322.out 0).trans rfl, (blk_cell BK322.out 1).trans rfl, (blk_cell BK305.out 0).trans rfl, (blk_cell BK305.out 1).trans rfl, (blk_cell BK305.out 2).trans rfl, (blk_cell BK305.out 3).trans rfl, (blk_cell BK305.out 4).trans rfl, (blk_cell BK305.out 5).trans rfl, (blk_cell BK280.out 0).trans rfl, (blk_cell BK280.out 1).trans rfl⟩ (fun hHeld => ?_)
              clear hK K
              refine norm_ (a' := ?_) ?_ ?_
              rotate_left
              ·show Act.put _ (some 127) _ = _
               simp only [Act.put, zq1, zq2, zq3, i64_w, i32_w]
               rfl
              refine one_ (i := 24) (N := some 128) (ab 31 134217727) rfl rfl (one_of HT_.out (by kernel_rfl)) (by decide) (fun K hK => ?_)
              refine goes_ Try.func17 (by kernel_rfl) rfl #[.agg #[.int .i64 t333, .int .i64 t334]] (by rfl) rfl rfl (by (try simp only [zm1, zm2, zm3]); first | done | rfl) ?_
              with_reducible refine (vec_Unit.calls kj22 t333 t334 t335 t336 _ A113.out).mono ?_
              rintro e w122 ⟨rfl, hb⟩
              refine ⟨_, rfl, ?_⟩
              have n0_ := Aside0.mk (bb hb BK279.out)
              have n1_ := Aside0.mk (bb hb BK280.out)
              have n2_ := Aside0.mk (bb hb BK288.out)
              have n3_ := Aside0.mk (bb hb BK297.out)
              have n4_ := Aside0.mk (bb hb BK305.out)
              have n5_ := Aside0.mk (bb hb BK313.out)
              have n6_ := Aside0.mk (bb hb BK319.out)
              have n7_ := Aside0.mk (bb hb BK322.out)
              have n8_ := Aside0.mk (below_step (by repeat (first | (with_reducible first | exact HB.out | apply below_alloc | apply pw_below_drewN | apply below_drew1 | refine below_set ?_ GE279.out | refine below_set ?_ GE280.out | refine below_set ?_ GE288.out | refine below_set ?_ GE297.out | refine below_set ?_ GE305.out | refine below_set ?_ GE313.out | refine below_set ?_ GE319.out | refine below_set ?_ GE322.out) | exact HB.out)) hb)
              clear BK279
              clear BK280
              clear BK288
              clear BK297
              clear BK305
              clear BK313
              clear BK319
              clear BK322
              clear HB
              have BK279 := n0_
              have BK280 := n1_
              have BK288 := n2_
              have BK297 := n3_
              have BK305 := n4_
              have BK313 := n5_
              have BK319 := n6_
              have BK322 := n7_
              have HB := n8_
              clear n0_ n1_ n2_ n3_ n4_ n5_ n6_ n7_ n8_
              (try clear hb)
              (try clear hb2)
              (try clear hk)
              (try clear hi)
              refine hK.out _ _ ⟨(blk_cell BK297.out 0).trans rfl, (blk_cell BK297.out 1).trans rfl, (blk_cell BK297.out 2).trans rfl, (blk_cell BK297.out 3).trans rfl, (blk_cell BK297.out 4).trans rfl, (blk_cell BK297.out 5).trans rfl, (blk_cell BK279.out 0).trans rfl, (blk_cell BK279.out 1).trans rfl, (blk_cell BK279.out 2).trans rfl, (blk_cell BK279.out 3).trans rfl, (blk_cell BK279.out 4).trans rfl, (blk_cell BK279.out 5).trans rfl, (blk_cell BK322.out 0).trans rfl, (blk_cell BK322.out 1).trans rfl, (blk_cell BK305.out 0).trans rfl, (blk_cell BK305.out 1).trans rfl, (blk_cell BK305.out 2).trans rfl, (blk_cell BK305.out 3).trans rfl, (blk_cell BK305.out 4).trans rfl, (blk_cell BK305.out 5).trans rfl, (blk_cell BK280.out 0).trans rfl, (blk_cell BK280.out 1).trans rfl⟩ (fun hHeld => ?_)
              clear hK K
              refine norm_ (a' := ?_) ?_ ?_
              rotate_left
              ·show Act.put _ (some 128) _ = _
               simp only [Act.put, zq1, zq2, zq3, i64_w, i32_w]
               rfl
              refine one_ (i := 27) (N := some 131) (ab 31 268435455) rfl rfl (one_of HT_.out (by kernel_rfl)) (by decide) (fun K hK => ?_)
              refine goes_ Try.func16 (by kernel_rfl) rfl #[.agg #[.int .i64 t335, .int .i64 t336], .int .i64 a0_4] (by rfl) rfl rfl (by (try simp only [zm1, zm2, zm3]); first | done | rfl) ?_
              with_reducible refine (vec_Scale.calls kj22 t335 t336 a0_4 t337 t338 _ A114.out).mono ?_
              rintro e w123 ⟨rfl, hb⟩
              refine ⟨_, rfl, ?_⟩
              have n0_ := Aside0.mk (bb hb BK279.out)
              have n1_ := Aside0.mk (bb hb BK280.out)
              have n2_ := Aside0.mk (bb hb BK288.out)
              have n3_ := Aside0.mk (bb hb BK297.out)
              have n4_ := Aside0.mk (bb hb BK305.out)
              have n5_ := Aside0.mk (bb hb BK313.out)
              have n6_ := Aside0.mk (bb hb BK319.out)
              have n7_ := Aside0.mk (bb hb BK322.out)
              have n8_ := Aside0.mk (below_step (by repeat (first | (with_reducible first | exact HB.out | apply below_alloc | apply pw_below_drewN | apply below_drew1 | refine below_set ?_ GE279.out | refine below_set ?_ GE280.out | refine below_set ?_ GE288.out | refine below_set ?_ GE297.out | refine below_set ?_ GE305.out | refine below_set ?_ GE313.out | refine below_set ?_ GE319.out | refine below_set ?_ GE322.out) | exact HB.out)) hb)
              clear BK279
              clear BK280
              clear BK288
              clear BK297
              clear BK305
              clear BK313
              clear BK319
              clear BK322
              clear HB
              have BK279 := n0_
              have BK280 := n1_
              have BK288 := n2_
              have BK297 := n3_
              have BK305 := n4_
              have BK313 := n5_
              have BK319 := n6_
              have BK322 := n7_
              have HB := n8_
              clear n0_ n1_ n2_ n3_ n4_ n5_ n6_ n7_ n8_
              (try clear hb)
              (try clear hb2)
              (try clear hk)
              (try clear hi)
              refine hK.out _ _ ⟨(blk_cell BK297.out 0).trans rfl, (blk_cell BK297.out 1).trans rfl, (blk_cell BK297.out 2).trans rfl, (blk_cell BK297.out 3).trans rfl, (blk_cell BK297.out 4).trans rfl, (blk_cell BK297.out 5).trans rfl, (blk_cell BK279.out 0).trans rfl, (blk_cell BK279.out 1).trans rfl, (blk_cell BK279.out 2).trans rfl, (blk_cell BK279.out 3).trans rfl, (blk_cell BK279.out 4).trans rfl, (blk_cell BK279.out 5).trans rfl, (blk_cell BK322.out 0).trans rfl, (blk_cell BK322.out 1).trans rfl, (blk_cell BK305.out 0).trans rfl, (blk_cell BK305.out 1).trans rfl, (blk_cell BK305.out 2).trans rfl, (blk_cell BK305.out 3).trans rfl, (blk_cell BK305.out 4).trans rfl, (blk_cell BK305.out 5).trans rfl, (blk_cell BK280.out 0).trans rfl, (blk_cell BK280.out 1).trans rfl⟩ (fun hHeld => ?_)
              clear hK K
              refine norm_ (a' := ?_) ?_ ?_
              rotate_left
              ·show Act.put _ (some 131) _ = _
               simp only [Act.put, zq1, zq2, zq3, i64_w, i32_w]
               rfl
              refine one_ (i := 28) (N := some 132) (ab 31 536870911) rfl rfl (one_of HT_.out (by kernel_rfl)) (by decide) (fun K hK => ?_)
              refine goes_ Try.func19 (by kernel_rfl) rfl #[.agg #[.int .i64 a0_0, .int .i64 a0_1, .int .i64 a0_2, .int .i64 a0_3, .int .i64 a0_4, .int .i64 a0_5], .agg #[.int .i64 t337, .int .i64 t338]] (by rfl) rfl rfl (by (try simp only [zm1, zm2, zm3]); first | done | rfl) ?_
              with_reducible refine (tourref5_Steered.calls kj22 a0_0 a0_1 a0_2 a0_3 a0_4 a0_5 t337 t338 t339 t340 t341 t342 t343 t344 _ A115.out).mono ?_
              rintro e w124 ⟨rfl, hb⟩
              refine ⟨_, rfl, ?_⟩
              have n0_ := Aside0.mk (bb hb BK279.out)
              have n1_ := Aside0.mk (bb hb BK280.out)
              have n2_ := Aside0.mk (bb hb BK288.out)
              have n3_ := Aside0.mk (bb hb BK297.out)
              have n4_ := Aside0.mk (bb hb BK305.out)
              have n5_ := Aside0.mk (bb hb BK313.out)
              have n6_ := Aside0.mk (bb hb BK319.out)
              have n7_ := Aside0.mk (bb hb BK322.out)
              have n8_ := Aside0.mk (below_step (by repeat (first | (with_reducible first | exact HB.out | apply below_alloc | apply pw_below_drewN | apply below_drew1 | refine below_set ?_ GE279.out | refine below_set ?_ GE280.out | refine below_set ?_ GE288.out | refine below_set ?_ GE297.out | refine below_set ?_ GE305.out | refine below_set ?_ GE313.out | refine below_set ?_ GE319.out | refine below_set ?_ GE322.out) | exact HB.out)) hb)
              clear BK279
              clear BK280
              clear BK288
              clear BK297
              clear BK305
              clear BK313
              clear BK319
              clear BK322
              clear HB
              have BK279 := n0_
              have BK280 := n1_
              have BK288 := n2_
              have BK297 := n3_
              have BK305 := n4_
              have BK313 := n5_
              have BK319 := n6_
              have BK322 := n7_
              have HB := n8_
              clear n0_ n1_ n2_ n3_ n4_ n5_ n6_ n7_ n8_
              (try clear hb)
              (try clear hb2)
              (try clear hk)
              (try clear hi)
              refine hK.out _ _ ⟨(blk_cell BK297.out 0).trans rfl, (blk_cell BK297.out 1).trans rfl, (blk_cell BK297.out 2).trans rfl, (blk_cell BK297.out 3).trans rfl, (blk_cell BK297.out 4).trans rfl, (blk_cell BK297.out 5).trans rfl, (blk_cell BK279.out 0).trans rfl, (blk_cell BK279.out 1).trans rfl, (blk_cell BK279.out 2).trans rfl, (blk_cell BK279.out 3).trans rfl, (blk_cell BK279.out 4).trans rfl, (blk_cell BK279.out 5).trans rfl, (blk_cell BK322.out 0).trans rfl, (blk_cell BK322.out 1).trans rfl, (blk_cell BK305.out 0).trans rfl, (blk_cell BK305.out 1).trans rfl, (blk_cell BK305.out 2).trans rfl, (blk_cell BK305.out 3).trans rfl, (blk_cell BK305.out 4).trans rfl, (blk_cell BK305.out 5).trans rfl, (blk_cell BK280.out 0).trans rfl, (blk_cell BK280.out 1).trans rfl⟩ (fun hHeld => ?_)
              clear hK K
              refine norm_ (a' := ?_) ?_ ?_
              rotate_left
              ·show Act.put _ (some 132) _ = _
               simp only [Act.put, zq1, zq2, zq3, i64_w, i32_w]
               rfl
              refine pure_ (i := 29) (N := some 133) (v := ?_) (a' := ?_) (ab 31 1073741823) rfl rfl (any_of HT_.out (by kernel_rfl)) (fun _ _ _ h => h) (Or.inl ⟨by rfl, ?_⟩) ?_ ?_
              rotate_left
              ·intro w'
               go_simp
               with_reducible rfl
              rotate_left
              ·simp only [Act.put, zq1, zq2, zq3, i64_w, i32_w]
               rfl
              refine pure_ (i := 30) (N := some 134) (v := ?_) (a' := ?_) (ab 31 2147483647) rfl rfl (any_of HT_.out (by kernel_rfl)) (fun _ _ _ h => h) (Or.inl ⟨by rfl, ?_⟩) ?_ ?_
              rotate_left
              ·intro w'
               go_simp
               with_reducible rfl
              rotate_left
              ·simp only [Act.put, zq1, zq2, zq3, i64_w, i32_w]
               rfl
              refine done_ (done_of HT_.out (by kernel_rfl)) ?_
              try go_wp2
              go_meet
              case rel => exact ⟨_, (((!(t298 == t339) || (!(t299 == t340))) || ((!(t300 == t341) || (!(t301 == t342))) || (!(t302 == t343) || (!(t303 == t344)))))), (by first | rfl | (simp; done) | (simp [*]; done)), H', ⟨by have := HJ5.out; have := HJ22.out; first | omega | exact Nat.le_refl _⟩, ⟨BK279.out⟩, ⟨BK280.out⟩, ⟨BK288.out⟩, ⟨BK297.out⟩, ⟨BK305.out⟩, ⟨BK313.out⟩, ⟨BK319.out⟩, ⟨BK322.out⟩, ⟨by repeat (first | (with_reducible first | exact HB.out | apply below_alloc | apply pw_below_drewN | apply below_drew1 | refine below_set ?_ GE279.out | refine below_set ?_ GE280.out | refine below_set ?_ GE288.out | refine below_set ?_ GE297.out | refine below_set ?_ GE305.out | refine below_set ?_ GE313.out | refine below_set ?_ GE319.out | refine below_set ?_ GE322.out) | exact HB.out)⟩⟩
            ·rw [if_neg c102] at H
             have c102b0 : (t304 == 0) = false := beq_eq_false_iff_ne.mpr c102
             have c102b1 : (t304 != 0) = true := bne_iff_ne.mpr c102
             have H' := Aside0.mk H
             clear H
             try go_wp2
             have n0_ : Aside0 (((w92.setCell ⟨gb322, 0, none⟩ (.int .i64 t320)).setCell ⟨gb322, 1, none⟩ (.int .i64 t321)).heap[gb279]? = some (.cells #[.int .i64 a0_0, .int .i64 a0_1, .int .i64 a0_2, .int .i64 a0_3, .int .i64 a0_4, .int .i64 a0_5] 29 (0, 0))) := ⟨by (with_reducible repeat (first | refine blk_drewN ?_ _ | refine blk_drew ?_ | refine blk_alloc ?_ _)); refine blk_far ?_ NB279_322.out _; refine blk_far ?_ NB279_322.out _; exact BK279.out⟩
             have n1_ : Aside0 (((w92.setCell ⟨gb322, 0, none⟩ (.int .i64 t320)).setCell ⟨gb322, 1, none⟩ (.int .i64 t321)).heap[gb280]? = some (.cells #[.int .i64 a1_0, .int .i64 a1_1] 27 (0, 0))) := ⟨by (with_reducible repeat (first | refine blk_drewN ?_ _ | refine blk_drew ?_ | refine blk_alloc ?_ _)); refine blk_far ?_ NB280_322.out _; refine blk_far ?_ NB280_322.out _; exact BK280.out⟩
             have n2_ : Aside0 (((w92.setCell ⟨gb322, 0, none⟩ (.int .i64 t320)).setCell ⟨gb322, 1, none⟩ (.int .i64 t321)).heap[gb288]? = some (.cells #[.int .i64 t281, .int .i64 t282, .int .i64 t283, .int .i64 t284, .int .i64 t285, .int .i64 t286] 29 (0, 0))) := ⟨by (with_reducible repeat (first | refine blk_drewN ?_ _ | refine blk_drew ?_ | refine blk_alloc ?_ _)); refine blk_far ?_ NB288_322.out _; refine blk_far ?_ NB288_322.out _; exact BK288.out⟩
             have n3_ : Aside0 (((w92.setCell ⟨gb322, 0, none⟩ (.int .i64 t320)).setCell ⟨gb322, 1, none⟩ (.int .i64 t321)).heap[gb297]? = some (.cells #[.int .i64 t290, .int .i64 t291, .int .i64 t292, .int .i64 t293, .int .i64 t294, .int .i64 t295] 29 (0, 0))) := ⟨by (with_reducible repeat (first | refine blk_drewN ?_ _ | refine blk_drew ?_ | refine blk_alloc ?_ _)); refine blk_far ?_ NB297_322.out _; refine blk_far ?_ NB297_322.out _; exact BK297.out⟩
             have n4_ : Aside0 (((w92.setCell ⟨gb322, 0, none⟩ (.int .i64 t320)).setCell ⟨gb322, 1, none⟩ (.int .i64 t321)).heap[gb305]? = some (.cells #[.int .i64 t298, .int .i64 t299, .int .i64 t300, .int .i64 t301, .int .i64 t302, .int .i64 t303] 29 (0, 0))) := ⟨by (with_reducible repeat (first | refine blk_drewN ?_ _ | refine blk_drew ?_ | refine blk_alloc ?_ _)); refine blk_far ?_ NB305_322.out _; refine blk_far ?_ NB305_322.out _; exact BK305.out⟩
             have n5_ : Aside0 (((w92.setCell ⟨gb322, 0, none⟩ (.int .i64 t320)).setCell ⟨gb322, 1, none⟩ (.int .i64 t321)).heap[gb313]? = some (.cells #[.int .i64 t306, .int .i64 t307, .int .i64 t308, .int .i64 t309, .int .i64 t310, .int .i64 t311] 29 (0, 0))) := ⟨by (with_reducible repeat (first | refine blk_drewN ?_ _ | refine blk_drew ?_ | refine blk_alloc ?_ _)); refine blk_far ?_ NB313_322.out _; refine blk_far ?_ NB313_322.out _; exact BK313.out⟩
             have n6_ : Aside0 (((w92.setCell ⟨gb322, 0, none⟩ (.int .i64 t320)).setCell ⟨gb322, 1, none⟩ (.int .i64 t321)).heap[gb319]? = some (.cells #[.int .i64 0, .int .i64 0, .int .i64 0, .int .i64 0, .int .i64 0, .int .i64 0] 29 (0, 0))) := ⟨by (with_reducible repeat (first | refine blk_drewN ?_ _ | refine blk_drew ?_ | refine blk_alloc ?_ _)); refine blk_far ?_ NB319_322.out _; refine blk_far ?_ NB319_322.out _; exact BK319.out⟩
             have n7_ : Aside0 (((w92.setCell ⟨gb322, 0, none⟩ (.int .i64 t320)).setCell ⟨gb322, 1, none⟩ (.int .i64 t321)).heap[gb322]? = some (.cells #[.int .i64 t320, .int .i64 t321] 27 (0, 0))) := ⟨by (with_reducible repeat (first | refine blk_drewN ?_ _ | refine blk_drew ?_ | refine blk_alloc ?_ _)); refine blk_put (cs := #[.int .i64 t320, .int .i64 0]) ?_ 1 _ rfl; refine blk_put (cs := #[.int .i64 0, .int .i64 0]) ?_ 0 _ rfl; exact BK322.out⟩
             have n8_ : Aside0 (Below w.heap.size w ((w92.setCell ⟨gb322, 0, none⟩ (.int .i64 t320)).setCell ⟨gb322, 1, none⟩ (.int .i64 t321))) := ⟨by repeat (first | (with_reducible first | exact HB.out | apply below_alloc | apply pw_below_drewN | apply below_drew1 | refine below_set ?_ GE279.out | refine below_set ?_ GE280.out | refine below_set ?_ GE288.out | refine below_set ?_ GE297.out | refine below_set ?_ GE305.out | refine below_set ?_ GE313.out | refine below_set ?_ GE319.out | refine below_set ?_ GE322.out) | exact HB.out)⟩
             (try clear BK279)
             (try clear BK280)
             (try clear BK288)
             (try clear BK297)
             (try clear BK305)
             (try clear BK313)
             (try clear BK319)
             (try clear BK322)
             (try clear HB)
             generalize ((w92.setCell ⟨gb322, 0, none⟩ (.int .i64 t320)).setCell ⟨gb322, 1, none⟩ (.int .i64 t321)) = w125 at n0_ n1_ n2_ n3_ n4_ n5_ n6_ n7_ n8_ ⊢
             have BK279 := n0_
             have BK280 := n1_
             have BK288 := n2_
             have BK297 := n3_
             have BK305 := n4_
             have BK313 := n5_
             have BK319 := n6_
             have BK322 := n7_
             have HB := n8_
             clear n0_ n1_ n2_ n3_ n4_ n5_ n6_ n7_ n8_
             have n0_ := Aside0.mk (blk_drew BK279.out)
             have n1_ := Aside0.mk (blk_drew BK280.out)
             have n2_ := Aside0.mk (blk_drew BK288.out)
             have n3_ := Aside0.mk (blk_drew BK297.out)
             have n4_ := Aside0.mk (blk_drew BK305.out)
             have n5_ := Aside0.mk (blk_drew BK313.out)
             have n6_ := Aside0.mk (blk_drew BK319.out)
             have n7_ := Aside0.mk (blk_drew BK322.out)
             have n8_ := Aside0.mk (below_drew1 HB.out)
             clear BK279
             clear BK280
             clear BK288
             clear BK297
             clear BK305
             clear BK313
             clear BK319
             clear BK322
             clear HB
             have BK279 := n0_
             have BK280 := n1_
             have BK288 := n2_
             have BK297 := n3_
             have BK305 := n4_
             have BK313 := n5_
             have BK319 := n6_
             have BK322 := n7_
             have HB := n8_
             clear n0_ n1_ n2_ n3_ n4_ n5_ n6_ n7_ n8_
             refine start_ (n := 31) (S := fun w' => True) (ds := []) (ab 31 0) (by kernel_rfl) rfl rfl trivial (fun hHeld => ?_); refine with_tabW tourlaw5_SteerTells.tab14 tourlaw5_SteerTells.bits14 (fun HT_ HW_ => ?_)
             generalize w125.drew = w126 at BK279 BK280 BK288 BK297 BK305 BK313 BK319 BK322 HB hHeld ⊢
             refine pure_ (i := 0) (N := some 104) (v := ?_) (a' := ?_) (ab 31 1) rfl rfl (any_of HT_.out (by kernel_rfl)) (fun _ _ _ h => h) (Or.inl ⟨by rfl, ?_⟩) ?_ ?_
             rotate_left
             ·intro w'
              go_simp
              with_reducible rfl
             rotate_left
             ·simp only [Act.put, zq1, zq2, zq3, i64_w, i32_w]
              rfl
             refine pure_ (i := 1) (N := some 105) (v := ?_) (a' := ?_) (ab 31 3) rfl rfl (any_of HT_.out (by kernel_rfl)) (fun _ _ _ h => h) (Or.inl ⟨by rfl, ?_⟩) ?_ ?_
             rotate_left
             ·intro w'
              go_simp
              with_reducible rfl
             rotate_left
             ·simp only [Act.put, zq1, zq2, zq3, i64_w, i32_w]
              rfl
             refine pure_ (i := 2) (N := some 106) (v := ?_) (a' := ?_) (ab 31 7) rfl rfl (any_of HT_.out (by kernel_rfl)) (fun _ _ _ h => h) (Or.inl ⟨by rfl, ?_⟩) ?_ ?_
             rotate_left
             ·intro w'
              go_simp
              with_reducible rfl
             rotate_left
             ·simp only [Act.put, zq1, zq2, zq3, i64_w, i32_w]
              rfl
             refine pure_ (i := 3) (N := some 107) (v := ?_) (a' := ?_) (ab 31 15) rfl rfl (any_of HT_.out (by kernel_rfl)) (fun _ _ _ h => h) (Or.inl ⟨by rfl, ?_⟩) ?_ ?_
             rotate_left
             ·intro w'
              go_simp
              with_reducible rfl
             rotate_left
             ·simp only [Act.put, zq1, zq2, zq3, i64_w, i32_w]
              rfl
             refine pure_ (i := 4) (N := some 108) (v := ?_) (a' := ?_) (ab 31 31) rfl rfl (any_of HT_.out (by kernel_rfl)) (fun _ _ _ h => h) (Or.inl ⟨by rfl, ?_⟩) ?_ ?_
             rotate_left
             ·intro w'
              go_simp
              with_reducible rfl
             rotate_left
             ·simp only [Act.put, zq1, zq2, zq3, i64_w, i32_w]
              rfl
             refine pure_ (i := 5) (N := some 109) (v := ?_) (a' := ?_) (ab 31 63) rfl rfl (any_of HT_.out (by kernel_rfl)) (fun _ _ _ h => h) (Or.inl ⟨by rfl, ?_⟩) ?_ ?_
             rotate_left
             ·intro w'
              go_simp
              with_reducible rfl
             rotate_left
             ·simp only [Act.put, zq1, zq2, zq3, i64_w, i32_w]
              rfl
             refine pure_ (i := 6) (N := some 110) (v := ?_) (a' := ?_) (ab 31 127) rfl rfl (any_of HT_.out (by kernel_rfl)) (fun _ _ _ h => h) (Or.inl ⟨by rfl, ?_⟩) ?_ ?_
             rotate_left
             ·intro w'
              go_simp
              with_reducible rfl
             rotate_left
             ·simp only [Act.put, zq1, zq2, zq3, i64_w, i32_w]
              rfl
             refine pure_ (i := 7) (N := some 111) (v := undef) (a' := ?_) (ab 31 255) rfl rfl (any_of HT_.out (by kernel_rfl)) (fun _ _ _ h => h) (Or.inr ⟨by rfl, rfl⟩) ?_ ?_
             rotate_left
             ·simp only [Act.put, zq1, zq2, zq3, i64_w, i32_w]
              rfl
             refine pure_ (i := 8) (N := some 112) (v := undef) (a' := ?_) (ab 31 511) rfl rfl (any_of HT_.out (by kernel_rfl)) (fun _ _ _ h => h) (Or.inr ⟨by rfl, rfl⟩) ?_ ?_
             rotate_left
             ·simp only [Act.put, zq1, zq2, zq3, i64_w, i32_w]
              rfl
             refine pure_ (i := 9) (N := some 113) (v := undef) (a' := ?_) (ab 31 1023) rfl rfl (any_of HT_.out (by kernel_rfl)) (fun _ _ _ h => h) (Or.inr ⟨by rfl, rfl⟩) ?_ ?_
             rotate_left
             ·simp only [Act.put, zq1, zq2, zq3, i64_w, i32_w]
              rfl
             refine pure_ (i := 10) (N := some 114) (v := undef) (a' := ?_) (ab 31 2047) rfl rfl (any_of HT_.out (by kernel_rfl)) (fun _ _ _ h => h) (Or.inr ⟨by rfl, rfl⟩) ?_ ?_
             rotate_left
             ·simp only [Act.put, zq1, zq2, zq3, i64_w, i32_w]
              rfl
             refine pure_ (i := 11) (N := some 115) (v := undef) (a' := ?_) (ab 31 4095) rfl rfl (any_of HT_.out (by kernel_rfl)) (fun _ _ _ h => h) (Or.inr ⟨by rfl, rfl⟩) ?_ ?_
             rotate_left
             ·simp only [Act.put, zq1, zq2, zq3, i64_w, i32_w]
              rfl
             refine pure_ (i := 12) (N := some 116) (v := undef) (a' := ?_) (ab 31 8191) rfl rfl (any_of HT_.out (by kernel_rfl)) (fun _ _ _ h => h) (Or.inr ⟨by rfl, rfl⟩) ?_ ?_
             rotate_left
             ·simp only [Act.put, zq1, zq2, zq3, i64_w, i32_w]
              rfl
             refine pure_ (i := 13) (N := some 117) (v := undef) (a' := ?_) (ab 31 16383) rfl rfl (any_of HT_.out (by kernel_rfl)) (fun _ _ _ h => h) (Or.inr ⟨by rfl, rfl⟩) ?_ ?_
             rotate_left
             ·simp only [Act.put, zq1, zq2, zq3, i64_w, i32_w]
              rfl
             refine pure_ (i := 14) (N := some 118) (v := undef) (a' := ?_) (ab 31 32767) rfl rfl (any_of HT_.out (by kernel_rfl)) (fun _ _ _ h => h) (Or.inr ⟨by rfl, rfl⟩) ?_ ?_
             rotate_left
             ·simp only [Act.put, zq1, zq2, zq3, i64_w, i32_w]
              rfl
             refine pure_ (i := 15) (N := some 119) (v := undef) (a' := ?_) (ab 31 65535) rfl rfl (any_of HT_.out (by kernel_rfl)) (fun _ _ _ h => h) (Or.inr ⟨by rfl, rfl⟩) ?_ ?_
             rotate_left
             ·simp only [Act.put, zq1, zq2, zq3, i64_w, i32_w]
              rfl
             refine pure_ (i := 16) (N := some 120) (v := ?_) (a' := ?_) (ab 31 131071) rfl rfl (any_of HT_.out (by kernel_rfl)) (fun _ _ _ h => h) (Or.inl ⟨by rfl, ?_⟩) ?_ ?_
             rotate_left
             ·intro w'
              go_simp
              with_reducible rfl
             rotate_left
             ·simp only [Act.put, zq1, zq2, zq3, i64_w, i32_w]
              rfl
             refine pure_ (i := 17) (N := some 121) (v := ?_) (a' := ?_) (ab 31 262143) rfl rfl (any_of HT_.out (by kernel_rfl)) (fun _ _ _ h => h) (Or.inl ⟨by rfl, ?_⟩) ?_ ?_
             rotate_left
             ·intro w'
              go_simp
              with_reducible rfl
             rotate_left
             ·simp only [Act.put, zq1, zq2, zq3, i64_w, i32_w]
              rfl
             refine pure_ (i := 18) (N := some 122) (v := undef) (a' := ?_) (ab 31 524287) rfl rfl (any_of HT_.out (by kernel_rfl)) (fun _ _ _ h => h) (Or.inr ⟨by rfl, rfl⟩) ?_ ?_
             rotate_left
             ·simp only [Act.put, zq1, zq2, zq3, i64_w, i32_w]
              rfl
             refine pure_ (i := 19) (N := some 123) (v := undef) (a' := ?_) (ab 31 1048575) rfl rfl (any_of HT_.out (by kernel_rfl)) (fun _ _ _ h => h) (Or.inr ⟨by rfl, rfl⟩) ?_ ?_
             rotate_left
             ·simp only [Act.put, zq1, zq2, zq3, i64_w, i32_w]
              rfl
             refine pure_ (i := 20) (N := some 124) (v := undef) (a' := ?_) (ab 31 2097151) rfl rfl (any_of HT_.out (by kernel_rfl)) (fun _ _ _ h => h) (Or.inr ⟨by rfl, rfl⟩) ?_ ?_
             rotate_left
             ·simp only [Act.put, zq1, zq2, zq3, i64_w, i32_w]
              rfl
             refine pure_ (i := 21) (N := some 125) (v := undef) (a' := ?_) (ab 31 4194303) rfl rfl (any_of HT_.out (by kernel_rfl)) (fun _ _ _ h => h) (Or.inr ⟨by rfl, rfl⟩) ?_ ?_
             rotate_left
             ·simp only [Act.put, zq1, zq2, zq3, i64_w, i32_w]
              rfl
             refine pure_ (i := 22) (N := some 126) (v := undef) (a' := ?_) (ab 31 8388607) rfl rfl (any_of HT_.out (by kernel_rfl)) (fun _ _ _ h => h) (Or.inr ⟨by rfl, rfl⟩) ?_ ?_
             rotate_left
             ·simp only [Act.put, zq1, zq2, zq3, i64_w, i32_w]
              rfl
             refine pure_ (i := 23) (N := some 127) (v := undef) (a' := ?_) (ab 31 16777215) rfl rfl (any_of HT_.out (by kernel_rfl)) (fun _ _ _ h => h) (Or.inr ⟨by rfl, rfl⟩) ?_ ?_
             rotate_left
             ·simp only [Act.put, zq1, zq2, zq3, i64_w, i32_w]
              rfl
             refine pure_ (i := 24) (N := some 128) (v := undef) (a' := ?_) (ab 31 33554431) rfl rfl (any_of HT_.out (by kernel_rfl)) (fun _ _ _ h => h) (Or.inr ⟨by rfl, rfl⟩) ?_ ?_
             rotate_left
             ·simp only [Act.put, zq1, zq2, zq3, i64_w, i32_w]
              rfl
             refine pure_ (i := 25) (N := some 129) (v := undef) (a' := ?_) (ab 31 67108863) rfl rfl (any_of HT_.out (by kernel_rfl)) (fun _ _ _ h => h) (Or.inr ⟨by rfl, rfl⟩) ?_ ?_
             rotate_left
             ·simp only [Act.put, zq1, zq2, zq3, i64_w, i32_w]
              rfl
             refine pure_ (i := 26) (N := some 130) (v := undef) (a' := ?_) (ab 31 134217727) rfl rfl (any_of HT_.out (by kernel_rfl)) (fun _ _ _ h => h) (Or.inr ⟨by rfl, rfl⟩) ?_ ?_
             rotate_left
             ·simp only [Act.put, zq1, zq2, zq3, i64_w, i32_w]
              rfl
             refine pure_ (i := 27) (N := some 131) (v := undef) (a' := ?_) (ab 31 268435455) rfl rfl (any_of HT_.out (by kernel_rfl)) (fun _ _ _ h => h) (Or.inr ⟨by rfl, rfl⟩) ?_ ?_
             rotate_left
             ·simp only [Act.put, zq1, zq2, zq3, i64_w, i32_w]
              rfl
             refine pure_ (i := 28) (N := some 132) (v := undef) (a' := ?_) (ab 31 536870911) rfl rfl (any_of HT_.out (by kernel_rfl)) (fun _ _ _ h => h) (Or.inr ⟨by rfl, rfl⟩) ?_ ?_
             rotate_left
             ·simp only [Act.put, zq1, zq2, zq3, i64_w, i32_w]
              rfl
             refine pure_ (i := 29) (N := some 133) (v := undef) (a' := ?_) (ab 31 1073741823) rfl rfl (any_of HT_.out (by kernel_rfl)) (fun _ _ _ h => h) (Or.inr ⟨by rfl, rfl⟩) ?_ ?_
             rotate_left
             ·simp only [Act.put, zq1, zq2, zq3, i64_w, i32_w]
              rfl
             refine pure_ (i := 30) (N := some 134) (v := ?_) (a' := ?_) (ab 31 2147483647) rfl rfl (any_of HT_.out (by kernel_rfl)) (fun _ _ _ h => h) (Or.inl ⟨by rfl, ?_⟩) ?_ ?_
             rotate_left
             ·intro w'
              go_simp
              with_reducible rfl
             rotate_left
             ·simp only [Act.put, zq1, zq2, zq3, i64_w, i32_w]
              rfl
             refine done_ (done_of HT_.out (by kernel_rfl)) ?_
             try go_wp2
             go_meet
             case rel => exact ⟨_, (true), (by first | rfl | (simp; done) | (simp [*]; done)), H', ⟨by have := HJ5.out; have := HJ22.out; first | omega | exact Nat.le_refl _⟩, ⟨BK279.out⟩, ⟨BK280.out⟩, ⟨BK288.out⟩, ⟨BK297.out⟩, ⟨BK305.out⟩, ⟨BK313.out⟩, ⟨BK319.out⟩, ⟨BK322.out⟩, ⟨by repeat (first | (with_reducible first | exact HB.out | apply below_alloc | apply pw_below_drewN | apply below_drew1 | refine below_set ?_ GE279.out | refine below_set ?_ GE280.out | refine below_set ?_ GE288.out | refine below_set ?_ GE297.out | refine below_set ?_ GE305.out | refine below_set ?_ GE313.out | refine below_set ?_ GE319.out | refine below_set ?_ GE322.out) | exact HB.out)⟩⟩
           ·rw [if_neg c101] at H
            have c101b0 : (t296 == 0) = false := beq_eq_false_iff_ne.mpr c101
            have c101b1 : (t296 != 0) = true := bne_iff_ne.mpr c101
            (first | rw [c101b0] | (simp only [i64_w, i32_w]; rw [c101b0]) | skip)
            have H' := Aside0.mk H
            clear H
            try go_wp2
            have n0_ : Aside0 (((w92.setCell ⟨gb322, 0, none⟩ (.int .i64 t320)).setCell ⟨gb322, 1, none⟩ (.int .i64 t321)).heap[gb279]? = some (.cells #[.int .i64 a0_0, .int .i64 a0_1, .int .i64 a0_2, .int .i64 a0_3, .int .i64 a0_4, .int .i64 a0_5] 29 (0, 0))) := ⟨by (with_reducible repeat (first | refine blk_drewN ?_ _ | refine blk_drew ?_ | refine blk_alloc ?_ _)); refine blk_far ?_ NB279_322.out _; refine blk_far ?_ NB279_322.out _; exact BK279.out⟩
            have n1_ : Aside0 (((w92.setCell ⟨gb322, 0, none⟩ (.int .i64 t320)).setCell ⟨gb322, 1, none⟩ (.int .i64 t321)).heap[gb280]? = some (.cells #[.int .i64 a1_0, .int .i64 a1_1] 27 (0, 0))) := ⟨by (with_reducible repeat (first | refine blk_drewN ?_ _ | refine blk_drew ?_ | refine blk_alloc ?_ _)); refine blk_far ?_ NB280_322.out _; refine blk_far ?_ NB280_322.out _; exact BK280.out⟩
            have n2_ : Aside0 (((w92.setCell ⟨gb322, 0, none⟩ (.int .i64 t320)).setCell ⟨gb322, 1, none⟩ (.int .i64 t321)).heap[gb288]? = some (.cells #[.int .i64 t281, .int .i64 t282, .int .i64 t283, .int .i64 t284, .int .i64 t285, .int .i64 t286] 29 (0, 0))) := ⟨by (with_reducible repeat (first | refine blk_drewN ?_ _ | refine blk_drew ?_ | refine blk_alloc ?_ _)); refine blk_far ?_ NB288_322.out _; refine blk_far ?_ NB288_322.out _; exact BK288.out⟩
            have n3_ : Aside0 (((w92.setCell ⟨gb322, 0, none⟩ (.int .i64 t320)).setCell ⟨gb322, 1, none⟩ (.int .i64 t321)).heap[gb297]? = some (.cells #[.int .i64 t290, .int .i64 t291, .int .i64 t292, .int .i64 t293, .int .i64 t294, .int .i64 t295] 29 (0, 0))) := ⟨by (with_reducible repeat (first | refine blk_drewN ?_ _ | refine blk_drew ?_ | refine blk_alloc ?_ _)); refine blk_far ?_ NB297_322.out _; refine blk_far ?_ NB297_322.out _; exact BK297.out⟩
            have n4_ : Aside0 (((w92.setCell ⟨gb322, 0, none⟩ (.int .i64 t320)).setCell ⟨gb322, 1, none⟩ (.int .i64 t321)).heap[gb305]? = some (.cells #[.int .i64 t298, .int .i64 t299, .int .i64 t300, .int .i64 t301, .int .i64 t302, .int .i64 t303] 29 (0, 0))) := ⟨by (with_reducible repeat (first | refine blk_drewN ?_ _ | refine blk_drew ?_ | refine blk_alloc ?_ _)); refine blk_far ?_ NB305_322.out _; refine blk_far ?_ NB305_322.out _; exact BK305.out⟩
            have n5_ : Aside0 (((w92.setCell ⟨gb322, 0, none⟩ (.int .i64 t320)).setCell ⟨gb322, 1, none⟩ (.int .i64 t321)).heap[gb313]? = some (.cells #[.int .i64 t306, .int .i64 t307, .int .i64 t308, .int .i64 t309, .int .i64 t310, .int .i64 t311] 29 (0, 0))) := ⟨by (with_reducible repeat (first | refine blk_drewN ?_ _ | refine blk_drew ?_ | refine blk_alloc ?_ _)); refine blk_far ?_ NB313_322.out _; refine blk_far ?_ NB313_322.out _; exact BK313.out⟩
            have n6_ : Aside0 (((w92.setCell ⟨gb322, 0, none⟩ (.int .i64 t320)).setCell ⟨gb322, 1, none⟩ (.int .i64 t321)).heap[gb319]? = some (.cells #[.int .i64 0, .int .i64 0, .int .i64 0, .int .i64 0, .int .i64 0, .int .i64 0] 29 (0, 0))) := ⟨by (with_reducible repeat (first | refine blk_drewN ?_ _ | refine blk_drew ?_ | refine blk_alloc ?_ _)); refine blk_far ?_ NB319_322.out _; refine blk_far ?_ NB319_322.out _; exact BK319.out⟩
            have n7_ : Aside0 (((w92.setCell ⟨gb322, 0, none⟩ (.int .i64 t320)).setCell ⟨gb322, 1, none⟩ (.int .i64 t321)).heap[gb322]? = some (.cells #[.int .i64 t320, .int .i64 t321] 27 (0, 0))) := ⟨by (with_reducible repeat (first | refine blk_drewN ?_ _ | refine blk_drew ?_ | refine blk_alloc ?_ _)); refine blk_put (cs := #[.int .i64 t320, .int .i64 0]) ?_ 1 _ rfl; refine blk_put (cs := #[.int .i64 0, .int .i64 0]) ?_ 0 _ rfl; exact BK322.out⟩
            have n8_ : Aside0 (Below w.heap.size w ((w92.setCell ⟨gb322, 0, none⟩ (.int .i64 t320)).setCell ⟨gb322, 1, none⟩ (.int .i64 t321))) := ⟨by repeat (first | (with_reducible first | exact HB.out | apply below_alloc | apply pw_below_drewN | apply below_drew1 | refine below_set ?_ GE279.out | refine below_set ?_ GE280.out | refine below_set ?_ GE288.out | refine below_set ?_ GE297.out | refine below_set ?_ GE305.out | refine below_set ?_ GE313.out | refine below_set ?_ GE319.out | refine below_set ?_ GE322.out) | exact HB.out)⟩
            (try clear BK279)
            (try clear BK280)
            (try clear BK288)
            (try clear BK297)
            (try clear BK305)
            (try clear BK313)
            (try clear BK319)
            (try clear BK322)
            (try clear HB)
            generalize ((w92.setCell ⟨gb322, 0, none⟩ (.int .i64 t320)).setCell ⟨gb322, 1, none⟩ (.int .i64 t321)) = w127 at n0_ n1_ n2_ n3_ n4_ n5_ n6_ n7_ n8_ ⊢
            have BK279 := n0_
            have BK280 := n1_
            have BK288 := n2_
            have BK297 := n3_
            have BK305 := n4_
            have BK313 := n5_
            have BK319 := n6_
            have BK322 := n7_
            have HB := n8_
            clear n0_ n1_ n2_ n3_ n4_ n5_ n6_ n7_ n8_
            have n0_ := Aside0.mk (blk_drew BK279.out)
            have n1_ := Aside0.mk (blk_drew BK280.out)
            have n2_ := Aside0.mk (blk_drew BK288.out)
            have n3_ := Aside0.mk (blk_drew BK297.out)
            have n4_ := Aside0.mk (blk_drew BK305.out)
            have n5_ := Aside0.mk (blk_drew BK313.out)
            have n6_ := Aside0.mk (blk_drew BK319.out)
            have n7_ := Aside0.mk (blk_drew BK322.out)
            have n8_ := Aside0.mk (below_drew1 HB.out)
            clear BK279
            clear BK280
            clear BK288
            clear BK297
            clear BK305
            clear BK313
            clear BK319
            clear BK322
            clear HB
            have BK279 := n0_
            have BK280 := n1_
            have BK288 := n2_
            have BK297 := n3_
            have BK305 := n4_
            have BK313 := n5_
            have BK319 := n6_
            have BK322 := n7_
            have HB := n8_
            clear n0_ n1_ n2_ n3_ n4_ n5_ n6_ n7_ n8_
            refine start_ (n := 31) (S := fun w' => True) (ds := []) (ab 31 0) (by kernel_rfl) rfl rfl trivial (fun hHeld => ?_); refine with_tabW tourlaw5_SteerTells.tab14 tourlaw5_SteerTells.bits14 (fun HT_ HW_ => ?_)
            generalize w127.drew = w128 at BK279 BK280 BK288 BK297 BK305 BK313 BK319 BK322 HB hHeld ⊢
            refine pure_ (i := 0) (N := some 104) (v := ?_) (a' := ?_) (ab 31 1) rfl rfl (any_of HT_.out (by kernel_rfl)) (fun _ _ _ h => h) (Or.inl ⟨by rfl, ?_⟩) ?_ ?_
            rotate_left
            ·intro w'
             go_simp
             with_reducible rfl
            rotate_left
            ·simp only [Act.put, zq1, zq2, zq3, i64_w, i32_w]
             rfl
            refine pure_ (i := 1) (N := some 105) (v := ?_) (a' := ?_) (ab 31 3) rfl rfl (any_of HT_.out (by kernel_rfl)) (fun _ _ _ h => h) (Or.inl ⟨by rfl, ?_⟩) ?_ ?_
            rotate_left
            ·intro w'
             go_simp
             with_reducible rfl
            rotate_left
            ·simp only [Act.put, zq1, zq2, zq3, i64_w, i32_w]
             rfl
            refine pure_ (i := 2) (N := some 106) (v := ?_) (a' := ?_) (ab 31 7) rfl rfl (any_of HT_.out (by kernel_rfl)) (fun _ _ _ h => h) (Or.inl ⟨by rfl, ?_⟩) ?_ ?_
            rotate_left
            ·intro w'
             go_simp
             with_reducible rfl
            rotate_left
            ·simp only [Act.put, zq1, zq2, zq3, i64_w, i32_w]
             rfl
            refine pure_ (i := 3) (N := some 107) (v := undef) (a' := ?_) (ab 31 15) rfl rfl (any_of HT_.out (by kernel_rfl)) (fun _ _ _ h => h) (Or.inr ⟨by rfl, rfl⟩) ?_ ?_
            rotate_left
            ·simp only [Act.put, zq1, zq2, zq3, i64_w, i32_w]
             rfl
            refine pure_ (i := 4) (N := some 108) (v := undef) (a' := ?_) (ab 31 31) rfl rfl (any_of HT_.out (by kernel_rfl)) (fun _ _ _ h => h) (Or.inr ⟨by rfl, rfl⟩) ?_ ?_
            rotate_left
            ·simp only [Act.put, zq1, zq2, zq3, i64_w, i32_w]
             rfl
            refine pure_ (i := 5) (N := some 109) (v := ?_) (a' := ?_) (ab 31 63) rfl rfl (any_of HT_.out (by kernel_rfl)) (fun _ _ _ h => h) (Or.inl ⟨by rfl, ?_⟩) ?_ ?_
            rotate_left
            ·intro w'
             go_simp
             with_reducible rfl
            rotate_left
            ·simp only [Act.put, zq1, zq2, zq3, i64_w, i32_w]
             rfl
            refine pure_ (i := 6) (N := some 110) (v := ?_) (a' := ?_) (ab 31 127) rfl rfl (any_of HT_.out (by kernel_rfl)) (fun _ _ _ h => h) (Or.inl ⟨by rfl, ?_⟩) ?_ ?_
            rotate_left
            ·intro w'
             go_simp
             with_reducible rfl
            rotate_left
            ·simp only [Act.put, zq1, zq2, zq3, i64_w, i32_w]
             rfl
            refine pure_ (i := 7) (N := some 111) (v := undef) (a' := ?_) (ab 31 255) rfl rfl (any_of HT_.out (by kernel_rfl)) (fun _ _ _ h => h) (Or.inr ⟨by rfl, rfl⟩) ?_ ?_
            rotate_left
            ·simp only [Act.put, zq1, zq2, zq3, i64_w, i32_w]
             rfl
            refine pure_ (i := 8) (N := some 112) (v := undef) (a' := ?_) (ab 31 511) rfl rfl (any_of HT_.out (by kernel_rfl)) (fun _ _ _ h => h) (Or.inr ⟨by rfl, rfl⟩) ?_ ?_
            rotate_left
            ·simp only [Act.put, zq1, zq2, zq3, i64_w, i32_w]
             rfl
            refine pure_ (i := 9) (N := some 113) (v := undef) (a' := ?_) (ab 31 1023) rfl rfl (any_of HT_.out (by kernel_rfl)) (fun _ _ _ h => h) (Or.inr ⟨by rfl, rfl⟩) ?_ ?_
            rotate_left
            ·simp only [Act.put, zq1, zq2, zq3, i64_w, i32_w]
             rfl
            refine pure_ (i := 10) (N := some 114) (v := undef) (a' := ?_) (ab 31 2047) rfl rfl (any_of HT_.out (by kernel_rfl)) (fun _ _ _ h => h) (Or.inr ⟨by rfl, rfl⟩) ?_ ?_
            rotate_left
            ·simp only [Act.put, zq1, zq2, zq3, i64_w, i32_w]
             rfl
            refine pure_ (i := 11) (N := some 115) (v := undef) (a' := ?_) (ab 31 4095) rfl rfl (any_of HT_.out (by kernel_rfl)) (fun _ _ _ h => h) (Or.inr ⟨by rfl, rfl⟩) ?_ ?_
            rotate_left
            ·simp only [Act.put, zq1, zq2, zq3, i64_w, i32_w]
             rfl
            refine pure_ (i := 12) (N := some 116) (v := undef) (a' := ?_) (ab 31 8191) rfl rfl (any_of HT_.out (by kernel_rfl)) (fun _ _ _ h => h) (Or.inr ⟨by rfl, rfl⟩) ?_ ?_
            rotate_left
            ·simp only [Act.put, zq1, zq2, zq3, i64_w, i32_w]
             rfl
            refine pure_ (i := 13) (N := some 117) (v := undef) (a' := ?_) (ab 31 16383) rfl rfl (any_of HT_.out (by kernel_rfl)) (fun _ _ _ h => h) (Or.inr ⟨by rfl, rfl⟩) ?_ ?_
            rotate_left
            ·simp only [Act.put, zq1, zq2, zq3, i64_w, i32_w]
             rfl
            refine pure_ (i := 14) (N := some 118) (v := undef) (a' := ?_) (ab 31 32767) rfl rfl (any_of HT_.out (by kernel_rfl)) (fun _ _ _ h => h) (Or.inr ⟨by rfl, rfl⟩) ?_ ?_
            rotate_left
            ·simp only [Act.put, zq1, zq2, zq3, i64_w, i32_w]
             rfl
            refine pure_ (i := 15) (N := some 119) (v := undef) (a' := ?_) (ab 31 65535) rfl rfl (any_of HT_.out (by kernel_rfl)) (fun _ _ _ h => h) (Or.inr ⟨by rfl, rfl⟩) ?_ ?_
            rotate_left
            ·simp only [Act.put, zq1, zq2, zq3, i64_w, i32_w]
             rfl
            refine pure_ (i := 16) (N := some 120) (v := ?_) (a' := ?_) (ab 31 131071) rfl rfl (any_of HT_.out (by kernel_rfl)) (fun _ _ _ h => h) (Or.inl ⟨by rfl, ?_⟩) ?_ ?_
            rotate_left
            ·intro w'
             go_simp
             with_reducible rfl
            rotate_left
            ·simp only [Act.put, zq1, zq2, zq3, i64_w, i32_w]
             rfl
            refine pure_ (i := 17) (N := some 121) (v := ?_) (a' := ?_) (ab 31 262143) rfl rfl (any_of HT_.out (by kernel_rfl)) (fun _ _ _ h => h) (Or.inl ⟨by rfl, ?_⟩) ?_ ?_
            rotate_left
            ·intro w'
             go_simp
             with_reducible rfl
            rotate_left
            ·simp only [Act.put, zq1, zq2, zq3, i64_w, i32_w]
             rfl
            refine pure_ (i := 18) (N := some 122) (v := undef) (a' := ?_) (ab 31 524287) rfl rfl (any_of HT_.out (by kernel_rfl)) (fun _ _ _ h => h) (Or.inr ⟨by rfl, rfl⟩) ?_ ?_
            rotate_left
            ·simp only [Act.put, zq1, zq2, zq3, i64_w, i32_w]
             rfl
            refine pure_ (i := 19) (N := some 123) (v := undef) (a' := ?_) (ab 31 1048575) rfl rfl (any_of HT_.out (by kernel_rfl)) (fun _ _ _ h => h) (Or.inr ⟨by rfl, rfl⟩) ?_ ?_
            rotate_left
            ·simp only [Act.put, zq1, zq2, zq3, i64_w, i32_w]
             rfl
            refine pure_ (i := 20) (N := some 124) (v := undef) (a' := ?_) (ab 31 2097151) rfl rfl (any_of HT_.out (by kernel_rfl)) (fun _ _ _ h => h) (Or.inr ⟨by rfl, rfl⟩) ?_ ?_
            rotate_left
            ·simp only [Act.put, zq1, zq2, zq3, i64_w, i32_w]
             rfl
            refine pure_ (i := 21) (N := some 125) (v := undef) (a' := ?_) (ab 31 4194303) rfl rfl (any_of HT_.out (by kernel_rfl)) (fun _ _ _ h => h) (Or.inr ⟨by rfl, rfl⟩) ?_ ?_
            rotate_left
            ·simp only [Act.put, zq1, zq2, zq3, i64_w, i32_w]
             rfl
            refine pure_ (i := 22) (N := some 126) (v := undef) (a' := ?_) (ab 31 8388607) rfl rfl (any_of HT_.out (by kernel_rfl)) (fun _ _ _ h => h) (Or.inr ⟨by rfl, rfl⟩) ?_ ?_
            rotate_left
            ·simp only [Act.put, zq1, zq2, zq3, i64_w, i32_w]
             rfl
            refine pure_ (i := 23) (N := some 127) (v := undef) (a' := ?_) (ab 31 16777215) rfl rfl (any_of HT_.out (by kernel_rfl)) (fun _ _ _ h => h) (Or.inr ⟨by rfl, rfl⟩) ?_ ?_
            rotate_left
            ·simp only [Act.put, zq1, zq2, zq3, i64_w, i32_w]
             rfl
            refine pure_ (i := 24) (N := some 128) (v := undef) (a' := ?_) (ab 31 33554431) rfl rfl (any_of HT_.out (by kernel_rfl)) (fun _ _ _ h => h) (Or.inr ⟨by rfl, rfl⟩) ?_ ?_
            rotate_left
            ·simp only [Act.put, zq1, zq2, zq3, i64_w, i32_w]
             rfl
            refine pure_ (i := 25) (N := some 129) (v := undef) (a' := ?_) (ab 31 67108863) rfl rfl (any_of HT_.out (by kernel_rfl)) (fun _ _ _ h => h) (Or.inr ⟨by rfl, rfl⟩) ?_ ?_
            rotate_left
            ·simp only [Act.put, zq1, zq2, zq3, i64_w, i32_w]
             rfl
            refine pure_ (i := 26) (N := some 130) (v := undef) (a' := ?_) (ab 31 134217727) rfl rfl (any_of HT_.out (by kernel_rfl)) (fun _ _ _ h => h) (Or.inr ⟨by rfl, rfl⟩) ?_ ?_
            rotate_left
            ·simp only [Act.put, zq1, zq2, zq3, i64_w, i32_w]
             rfl
            refine pure_ (i := 27) (N := some 131) (v := undef) (a' := ?_) (ab 31 268435455) rfl rfl (any_of HT_.out (by kernel_rfl)) (fun _ _ _ h => h) (Or.inr ⟨by rfl, rfl⟩) ?_ ?_
            rotate_left
            ·simp only [Act.put, zq1, zq2, zq3, i64_w, i32_w]
             rfl
            refine pure_ (i := 28) (N := some 132) (v := undef) (a' := ?_) (ab 31 536870911) rfl rfl (any_of HT_.out (by kernel_rfl)) (fun _ _ _ h => h) (Or.inr ⟨by rfl, rfl⟩) ?_ ?_
            rotate_left
            ·simp only [Act.put, zq1, zq2, zq3, i64_w, i32_w]
             rfl
            refine pure_ (i := 29) (N := some 133) (v := undef) (a' := ?_) (ab 31 1073741823) rfl rfl (any_of HT_.out (by kernel_rfl)) (fun _ _ _ h => h) (Or.inr ⟨by rfl, rfl⟩) ?_ ?_
            rotate_left
            ·simp only [Act.put, zq1, zq2, zq3, i64_w, i32_w]
             rfl
            refine pure_ (i := 30) (N := some 134) (v := ?_) (a' := ?_) (ab 31 2147483647) rfl rfl (any_of HT_.out (by kernel_rfl)) (fun _ _ _ h => h) (Or.inl ⟨by rfl, ?_⟩) ?_ ?_
            rotate_left
            ·intro w'
             go_simp
             with_reducible rfl
            rotate_left
            ·simp only [Act.put, zq1, zq2, zq3, i64_w, i32_w]
             rfl
            refine done_ (done_of HT_.out (by kernel_rfl)) ?_
            try go_wp2
            go_meet
            case rel => exact ⟨_, (true), (by first | rfl | (simp; done) | (simp [*]; done)), H', ⟨by have := HJ5.out; have := HJ22.out; first | omega | exact Nat.le_refl _⟩, ⟨BK279.out⟩, ⟨BK280.out⟩, ⟨BK288.out⟩, ⟨BK297.out⟩, ⟨BK305.out⟩, ⟨BK313.out⟩, ⟨BK319.out⟩, ⟨BK322.out⟩, ⟨by repeat (first | (with_reducible first | exact HB.out | apply below_alloc | apply pw_below_drewN | apply below_drew1 | refine below_set ?_ GE279.out | refine below_set ?_ GE280.out | refine below_set ?_ GE288.out | refine below_set ?_ GE297.out | refine below_set ?_ GE305.out | refine below_set ?_ GE313.out | refine below_set ?_ GE319.out | refine below_set ?_ GE322.out) | exact HB.out)⟩⟩
          case rest =>
           refine @idd ?P3 ?_
           let rec aux3 : ?P3 := by
            clear HC71
            try clear c1; try clear p2; try clear c10; try clear c16; try clear c19; try clear c101; try clear c101b0; try clear c101b1
            try clear c102; try clear c102b0; try clear c102b1
            obtain ⟨kq, x134_70, rfl, HA, HJ70, BK279, BK280, BK288, BK297, BK305, BK313, BK319, BK322, HB⟩ := hcut
            cases kq with
            | zero => exact absurd HA.out (by simp [tourlaw5_SteerTells.j2])
            | succ kj70 =>
             have H := HA.out
             clear HA
             simp only [tourlaw5_SteerTells.j2] at H
             by_cases c129 : x134_70 = true
             ·subst c129
              have H1 : (none) = some r := by rw [if_pos rfl] at H; exact H
              clear H
              have H := H1
              clear H1
              exact absurd H (by simp)
             ·replace c129 := Bool.eq_false_iff.mpr c129
              subst c129
              have H1 : (if a2 < 1 then (tourlaw5_SteerTells.j3 kj70 a2 t312 true a0_0 a0_1 a0_2 a0_3 a0_4 a0_5 t306 t307 t308 t309 t310 t311 0 0 0 0 0 0 t320 t321) else (tourlaw5_SteerTells.j3 kj70 a2 t312 (decide (a2 > 1099511627776)) a0_0 a0_1 a0_2 a0_3 a0_4 a0_5 t306 t307 t308 t309 t310 t311 0 0 0 0 0 0 t320 t321)) = some r := by rw [if_neg (show ¬ (false = true) by decide)] at H; exact H
              clear H
              have H := H1
              clear H1
              have HC130 := Aside0.mk H
              clear H
              go_upto_region 16 with (fail)
              go_cut [140] (fun v140 wc => ∃ (kq : Nat) (x140_129 : Bool), v140 = .bool x140_129 ∧ Aside0 (tourlaw5_SteerTells.j3 kq a2 t312 x140_129 a0_0 a0_1 a0_2 a0_3 a0_4 a0_5 t306 t307 t308 t309 t310 t311 0 0 0 0 0 0 t320 t321 = some r) ∧ Aside0 (kq ≤ kj70) ∧ Aside0 (wc.heap[gb279]? = some (.cells #[.int .i64 a0_0, .int .i64 a0_1, .int .i64 a0_2, .int .i64 a0_3, .int .i64 a0_4, .int .i64 a0_5] 29 (0, 0))) ∧ Aside0 (wc.heap[gb280]? = some (.cells #[.int .i64 a1_0, .int .i64 a1_1] 27 (0, 0))) ∧ Aside0 (wc.heap[gb288]? = some (.cells #[.int .i64 t281, .int .i64 t282, .int .i64 t283, .int .i64 t284, .int .i64 t285, .int .i64 t286] 29 (0, 0))) ∧ Aside0 (wc.heap[gb297]? = some (.cells #[.int .i64 t290, .int .i64 t291, .int .i64 t292, .int .i64 t293, .int .i64 t294, .int .i64 t295] 29 (0, 0))) ∧ Aside0 (wc.heap[gb305]? = some (.cells #[.int .i64 t298, .int .i64 t299, .int .i64 t300, .int .i64 t301, .int .i64 t302, .int .i64 t303] 29 (0, 0))) ∧ Aside0 (wc.heap[gb313]? = some (.cells #[.int .i64 t306, .int .i64 t307, .int .i64 t308, .int .i64 t309, .int .i64 t310, .int .i64 t311] 29 (0, 0))) ∧ Aside0 (wc.heap[gb319]? = some (.cells #[.int .i64 0, .int .i64 0, .int .i64 0, .int .i64 0, .int .i64 0, .int .i64 0] 29 (0, 0))) ∧ Aside0 (wc.heap[gb322]? = some (.cells #[.int .i64 t320, .int .i64 t321] 27 (0, 0))) ∧ Aside0 (Below w.heap.size w wc))
              case first =>
               have H := HC130.out
               clear HC130
               by_cases c131 : a2 < 1
               ·rw [if_pos c131] at H
                have c131b0 : decide (a2 < 1) = true := decide_eq_true c131
                clear c131
                (first | rw [c131b0] | (simp only [i64_w, i32_w]; rw [c131b0]) | skip)
                have H' := Aside0.mk H
                clear H
                go_wp2
                go_meet
                case rel => exact ⟨_, (true), (by first | rfl | (simp; done) | (simp [*]; done)), H', ⟨by have := HJ5.out; have := HJ22.out; have := HJ70.out; first | omega | exact Nat.le_refl _⟩, ⟨BK279.out⟩, ⟨BK280.out⟩, ⟨BK288.out⟩, ⟨BK297.out⟩, ⟨BK305.out⟩, ⟨BK313.out⟩, ⟨BK319.out⟩, ⟨BK322.out⟩, ⟨by repeat (first | (with_reducible first | exact HB.out | apply below_alloc | apply pw_below_drewN | apply below_drew1 | refine below_set ?_ GE279.out | refine below_set ?_ GE280.out | refine below_set ?_ GE288.out | refine below_set ?_ GE297.out | refine below_set ?_ GE305.out | refine below_set ?_ GE313.out | refine below_set ?_ GE319.out | refine below_set ?_ GE322.out) | exact HB.out)⟩⟩
               ·rw [if_neg c131] at H
                have c131b0 : decide (a2 < 1) = false := decide_eq_false c131
                clear c131
                (first | rw [c131b0] | (simp only [i64_w, i32_w]; rw [c131b0]) | skip)
                have H' := Aside0.mk H
                clear H
                go_wp2
                go_meet
                case rel => exact ⟨_, (decide (a2 > 1099511627776)), (by first | rfl | (simp; done) | (simp [*]; done)), H', ⟨by have := HJ5.out; have := HJ22.out; have := HJ70.out; first | omega | exact Nat.le_refl _⟩, ⟨BK279.out⟩, ⟨BK280.out⟩, ⟨BK288.out⟩, ⟨BK297.out⟩, ⟨BK305.out⟩, ⟨BK313.out⟩, ⟨BK319.out⟩, ⟨BK322.out⟩, ⟨by repeat (first | (with_reducible first | exact HB.out | apply below_alloc | apply pw_below_drewN | apply below_drew1 | refine below_set ?_ GE279.out | refine below_set ?_ GE280.out | refine below_set ?_ GE288.out | refine below_set ?_ GE297.out | refine below_set ?_ GE305.out | refine below_set ?_ GE313.out | refine below_set ?_ GE319.out | refine below_set ?_ GE322.out) | exact HB.out)⟩⟩
              case rest =>
               refine @idd ?P4 ?_
               let rec aux4 : ?P4 := by
                clear HC130
                try clear c1; try clear p2; try clear c10; try clear c12; try clear c13; try clear c16; try clear c19; try clear c101
                try clear c101b0; try clear c101b1; try clear c102; try clear c102b0; try clear c102b1; try clear c129; try clear c131; try clear c131b0
                try clear p2
                obtain ⟨kq, x140_129, rfl, HA, HJ129, BK279, BK280, BK288, BK297, BK305, BK313, BK319, BK322, HB⟩ := hcut
                cases kq with
                | zero => exact absurd HA.out (by simp [tourlaw5_SteerTells.j3])
                | succ kj129 =>
                 have H := HA.out
                 clear HA
                 simp only [tourlaw5_SteerTells.j3] at H
                 by_cases c132 : x140_129 = true
                 ·subst c132
                  have H1 : (if t312 = 1 then (some ((t306 == 0 && (t307 == 0)) && ((t308 == 0 && (t309 == 0)) && (t310 == 0 && (t311 == 0))))) else (none)) = some r := by rw [if_pos rfl] at H; exact H
                  clear H
                  have H := H1
                  clear H1
                  by_cases c133 : t312 = 1
                  ·rw [if_pos c133] at H
                   have c133b0 : (t312 == 1) = true := beq_iff_eq.mpr c133
                   have c133b1 : (t312 != 1) = false := bne_eq_false_iff_eq.mpr c133
                   clear c133
                   obtain rfl := Option.some.inj H
                   have hnb134 := NB313_279.out
                   have hnc134 := NB279_313.out
                   have hnb135 := NB313_280.out
                   have hnc135 := NB280_313.out
                   have hnb136 := NB313_288.out
                   have hnc136 := NB288_313.out
                   have hnb137 := NB313_297.out
                   have hnc137 := NB297_313.out
                   have hnb138 := NB313_305.out
                   have hnc138 := NB305_313.out
                   have hnb139 := NB313_319.out
                   have hnc139 := NB319_313.out
                   have hnb140 := NB313_322.out
                   have hnc140 := NB322_313.out
                   obtain ⟨hcz141_0, hcz141_1, hcz141_2, hcz141_3, hcz141_4, hcz141_5⟩ := blk6 BK313.out
                   obtain ⟨hfz141_0, hfz141_1, hfz141_2, hfz141_3, hfz141_4, hfz141_5⟩ := frz6 BK313.out
                   have hnb142 := NB319_279.out
                   have hnc142 := NB279_319.out
                   have hnb143 := NB319_280.out
                   have hnc143 := NB280_319.out
                   have hnb144 := NB319_288.out
                   have hnc144 := NB288_319.out
                   have hnb145 := NB319_297.out
                   have hnc145 := NB297_319.out
                   have hnb146 := NB319_305.out
                   have hnc146 := NB305_319.out
                   have hnb147 := NB319_322.out
                   have hnc147 := NB322_319.out
                   obtain ⟨hcz148_0, hcz148_1, hcz148_2, hcz148_3, hcz148_4, hcz148_5⟩ := blk6 BK319.out
                   obtain ⟨hfz148_0, hfz148_1, hfz148_2, hfz148_3, hfz148_4, hfz148_5⟩ := frz6 BK319.out
                   go_wp2
                   go_ret
                   exact ⟨by first | rfl | (simp [errW_none, errW_some] <;> rfl) | (simp [*, errW_none, errW_some] <;> rfl), by repeat (first | (with_reducible first | exact HB.out | apply below_alloc | apply pw_below_drewN | apply below_drew1 | refine below_set ?_ GE279.out | refine below_set ?_ GE280.out | refine below_set ?_ GE288.out | refine below_set ?_ GE297.out | refine below_set ?_ GE305.out | refine below_set ?_ GE313.out | refine below_set ?_ GE319.out | refine below_set ?_ GE322.out) | exact HB.out)⟩
                  ·rw [if_neg c133] at H
                   exact absurd H (by simp)
                 ·replace c132 := Bool.eq_false_iff.mpr c132
                  subst c132
                  have H1 : ((vec_Len.f kj129 t320 t321).bind fun t345 => (if t345 < a2 then ((vec_Len.f kj129 t320 t321).bind fun t346 => ((fix_MulDiv.f kj129 a0_4 t346 a2).bind fun t347 => (if t312 = 0 then ((vec_Unit.f kj129 t320 t321).bind fun bt348 => ((vec_Scale.f kj129 bt348.1 bt348.2 t347).bind fun bt350 => ((tourref5_Steered.f kj129 a0_0 a0_1 a0_2 a0_3 a0_4 a0_5 bt350.1 bt350.2).bind fun bt352 => (some ((t306 == bt352.1 && (t307 == bt352.2.1)) && ((t308 == bt352.2.2.1 && (t309 == bt352.2.2.2.1)) && (t310 == bt352.2.2.2.2.1 && (t311 == bt352.2.2.2.2.2)))))))) else (none)))) else (if t312 = 0 then ((vec_Unit.f kj129 t320 t321).bind fun bt358 => ((vec_Scale.f kj129 bt358.1 bt358.2 a0_4).bind fun bt360 => ((tourref5_Steered.f kj129 a0_0 a0_1 a0_2 a0_3 a0_4 a0_5 bt360.1 bt360.2).bind fun bt362 => (some ((t306 == bt362.1 && (t307 == bt362.2.1)) && ((t308 == bt362.2.2.1 && (t309 == bt362.2.2.2.1)) && (t310 == bt362.2.2.2.2.1 && (t311 == bt362.2.2.2.2.2)))))))) else (none)))) = some r := by rw [if_neg (show ¬ (false = true) by decide)] at H; exact H
                  clear H
                  have H := H1
                  clear H1
                  replace H := Option.bind_eq_some_iff.mp H
                  obtain ⟨t345, A1490, H⟩ := H
                  replace H : (if t345 < a2 then ((vec_Len.f kj129 t320 t321).bind fun t346 => ((fix_MulDiv.f kj129 a0_4 t346 a2).bind fun t347 => (if t312 = 0 then ((vec_Unit.f kj129 t320 t321).bind fun bt348 => ((vec_Scale.f kj129 bt348.1 bt348.2 t347).bind fun bt350 => ((tourref5_Steered.f kj129 a0_0 a0_1 a0_2 a0_3 a0_4 a0_5 bt350.1 bt350.2).bind fun bt352 => (some ((t306 == bt352.1 && (t307 == bt352.2.1)) && ((t308 == bt352.2.2.1 && (t309 == bt352.2.2.2.1)) && (t310 == bt352.2.2.2.2.1 && (t311 == bt352.2.2.2.2.2)))))))) else (none)))) else (if t312 = 0 then ((vec_Unit.f kj129 t320 t321).bind fun bt358 => ((vec_Scale.f kj129 bt358.1 bt358.2 a0_4).bind fun bt360 => ((tourref5_Steered.f kj129 a0_0 a0_1 a0_2 a0_3 a0_4 a0_5 bt360.1 bt360.2).bind fun bt362 => (some ((t306 == bt362.1 && (t307 == bt362.2.1)) && ((t308 == bt362.2.2.1 && (t309 == bt362.2.2.2.1)) && (t310 == bt362.2.2.2.2.1 && (t311 == bt362.2.2.2.2.2)))))))) else (none))) = some r := H
                  have A149 := Aside0.mk A1490
                  clear A1490
                  by_cases c150 : t345 < a2
                  ·rw [if_pos c150] at H
                   have c150b0 : decide (t345 < a2) = true := decide_eq_true c150
                   clear c150
                   replace H := Option.bind_eq_some_iff.mp H
                   obtain ⟨t346, A1510, H⟩ := H
                   replace H : ((fix_MulDiv.f kj129 a0_4 t346 a2).bind fun t347 => (if t312 = 0 then ((vec_Unit.f kj129 t320 t321).bind fun bt348 => ((vec_Scale.f kj129 bt348.1 bt348.2 t347).bind fun bt350 => ((tourref5_Steered.f kj129 a0_0 a0_1 a0_2 a0_3 a0_4 a0_5 bt350.1 bt350.2).bind fun bt352 => (some ((t306 == bt352.1 && (t307 == bt352.2.1)) && ((t308 == bt352.2.2.1 && (t309 == bt352.2.2.2.1)) && (t310 == bt352.2.2.2.2.1 && (t311 == bt352.2.2.2.2.2)))))))) else (none))) = some r := H
                   have A151 := Aside0.mk A1510
                   clear A1510
                   replace H := Option.bind_eq_some_iff.mp H
                   obtain ⟨t347, A1520, H⟩ := H
                   replace H : (if t312 = 0 then ((vec_Unit.f kj129 t320 t321).bind fun bt348 => ((vec_Scale.f kj129 bt348.1 bt348.2 t347).bind fun bt350 => ((tourref5_Steered.f kj129 a0_0 a0_1 a0_2 a0_3 a0_4 a0_5 bt350.1 bt350.2).bind fun bt352 => (some ((t306 == bt352.1 && (t307 == bt352.2.1)) && ((t308 == bt352.2.2.1 && (t309 == bt352.2.2.2.1)) && (t310 == bt352.2.2.2.2.1 && (t311 == bt352.2.2.2.2.2)))))))) else (none)) = some r := H
                   have A152 := Aside0.mk A1520
                   clear A1520
                   by_cases c153 : t312 = 0
                   ·rw [if_pos c153] at H
                    have c153b0 : (t312 == 0) = true := beq_iff_eq.mpr c153
                    have c153b1 : (t312 != 0) = false := bne_eq_false_iff_eq.mpr c153
                    clear c153
                    replace H := Option.bind_eq_some_iff.mp H
                    obtain ⟨⟨t348, t349⟩, A1540, H⟩ := H
                    replace H : ((vec_Scale.f kj129 t348 t349 t347).bind fun bt350 => ((tourref5_Steered.f kj129 a0_0 a0_1 a0_2 a0_3 a0_4 a0_5 bt350.1 bt350.2).bind fun bt352 => (some ((t306 == bt352.1 && (t307 == bt352.2.1)) && ((t308 == bt352.2.2.1 && (t309 == bt352.2.2.2.1)) && (t310 == bt352.2.2.2.2.1 && (t311 == bt352.2.2.2.2.2))))))) = some r := H
                    have A154 := Aside0.mk A1540
                    clear A1540
                    replace H := Option.bind_eq_some_iff.mp H
                    obtain ⟨⟨t350, t351⟩, A1550, H⟩ := H
                    replace H : ((tourref5_Steered.f kj129 a0_0 a0_1 a0_2 a0_3 a0_4 a0_5 t350 t351).bind fun bt352 => (some ((t306 == bt352.1 && (t307 == bt352.2.1)) && ((t308 == bt352.2.2.1 && (t309 == bt352.2.2.2.1)) && (t310 == bt352.2.2.2.2.1 && (t311 == bt352.2.2.2.2.2)))))) = some r := H
                    have A155 := Aside0.mk A1550
                    clear A1550
                    replace H := Option.bind_eq_some_iff.mp H
                    obtain ⟨⟨t352, t353, t354, t355, t356, t357⟩, A1560, H⟩ := H
                    replace H : (some ((t306 == t352 && (t307 == t353)) && ((t308 == t354 && (t309 == t355)) && (t310 == t356 && (t311 == t357))))) = some r := H
                    have A156 := Aside0.mk A1560
                    clear A1560
                    obtain rfl := Option.some.inj H
                    have hnb157 := NB279_280.out
                    have hnc157 := NB280_279.out
                    have hnb158 := NB279_288.out
                    have hnc158 := NB288_279.out
                    have hnb159 := NB279_297.out
                    have hnc159 := NB297_279.out
                    have hnb160 := NB279_305.out
                    have hnc160 := NB305_279.out
                    have hnb161 := NB279_313.out
                    have hnc161 := NB313_279.out
                    have hnb162 := NB279_319.out
                    have hnc162 := NB319_279.out
                    have hnb163 := NB279_322.out
                    have hnc163 := NB322_279.out
                    obtain ⟨hcz164_0, hcz164_1, hcz164_2, hcz164_3, hcz164_4, hcz164_5⟩ := blk6 BK279.out
                    obtain ⟨hfz164_0, hfz164_1, hfz164_2, hfz164_3, hfz164_4, hfz164_5⟩ := frz6 BK279.out
                    have hnb165 := NB322_280.out
                    have hnc165 := NB280_322.out
                    have hnb166 := NB322_288.out
                    have hnc166 := NB288_322.out
                    have hnb167 := NB322_297.out
                    have hnc167 := NB297_322.out
                    have hnb168 := NB322_305.out
                    have hnc168 := NB305_322.out
                    have hnb169 := NB322_313.out
                    have hnc169 := NB313_322.out
                    have hnb170 := NB322_319.out
                    have hnc170 := NB319_322.out
                    obtain ⟨hcz171_0, hcz171_1⟩ := blk2 BK322.out
                    obtain ⟨hfz171_0, hfz171_1⟩ := frz2 BK322.out
                    try go_wp2_with (first | ((with_reducible refine gate_callee (f := 14) rfl ?_); refine goesL_ (some 151) rfl rfl Try.func14 (by kernel_rfl) rfl #[.agg #[.int .i64 t320, .int .i64 t321]] rfl (by (try simp only [zm1, zm2, zm3]); first | done | rfl) ?_; (with_reducible refine (vec_Len.calls kj129 t320 t321 t345 _ A149.out).mono ?_); rintro e w172 ⟨rfl, hb⟩; refine ⟨_, rfl, ?_⟩; have n0_ := Aside0.mk (bb hb BK279.out); have n1_ := Aside0.mk (bb hb BK280.out); have n2_ := Aside0.mk (bb hb BK288.out); have n3_ := Aside0.mk (bb hb BK297.out); have n4_ := Aside0.mk (bb hb BK305.out); have n5_ := Aside0.mk (bb hb BK313.out); have n6_ := Aside0.mk (bb hb BK319.out); have n7_ := Aside0.mk (bb hb BK322.out); have n8_ := Aside0.mk (below_step (by repeat (first | (with_reducible first | exact HB.out | apply below_alloc | apply pw_below_drewN | apply below_drew1 | refine below_set ?_ GE279.out | refine below_set ?_ GE280.out | refine below_set ?_ GE288.out | refine below_set ?_ GE297.out | refine below_set ?_ GE305.out | refine below_set ?_ GE313.out | refine below_set ?_ GE319.out | refine below_set ?_ GE322.out) | exact HB.out)) hb); clear BK279; clear BK280; clear BK288; clear BK297; clear BK305; clear BK313; clear BK319; clear BK322; clear HB; have BK279 := n0_; have BK280 := n1_; have BK288 := n2_; have BK297 := n3_; have BK305 := n4_; have BK313 := n5_; have BK319 := n6_; have BK322 := n7_; have HB := n8_; clear n0_ n1_ n2_ n3_ n4_ n5_ n6_ n7_ n8_; (try clear hb); (try clear hb2); (try clear hk); (try clear hi); obtain ⟨hcz173_0, hcz173_1⟩ := blk2 BK322.out; obtain ⟨hfz173_0, hfz173_1⟩ := frz2 BK322.out) | ((with_reducible refine gate_callee (f := 14) rfl ?_); refine goesL_ (some 156) rfl rfl Try.func14 (by kernel_rfl) rfl #[.agg #[.int .i64 t320, .int .i64 t321]] rfl (by (try simp only [zm1, zm2, zm3]); first | done | rfl) ?_; (with_reducible refine (vec_Len.calls kj129 t320 t321 t346 _ A151.out).mono ?_); rintro e w174 ⟨rfl, hb⟩; refine ⟨_, rfl, ?_⟩; have n0_ := Aside0.mk (bb hb BK279.out); have n1_ := Aside0.mk (bb hb BK280.out); have n2_ := Aside0.mk (bb hb BK288.out); have n3_ := Aside0.mk (bb hb BK297.out); have n4_ := Aside0.mk (bb hb BK305.out); have n5_ := Aside0.mk (bb hb BK313.out); have n6_ := Aside0.mk (bb hb BK319.out); have n7_ := Aside0.mk (bb hb BK322.out); have n8_ := Aside0.mk (below_step (by repeat (first | (with_reducible first | exact HB.out | apply below_alloc | apply pw_below_drewN | apply below_drew1 | refine below_set ?_ GE279.out | refine below_set ?_ GE280.out | refine below_set ?_ GE288.out | refine below_set ?_ GE297.out | refine below_set ?_ GE305.out | refine below_set ?_ GE313.out | refine below_set ?_ GE319.out | refine below_set ?_ GE322.out) | exact HB.out)) hb); clear BK279; clear BK280; clear BK288; clear BK297; clear BK305; clear BK313; clear BK319; clear BK322; clear HB; have BK279 := n0_; have BK280 := n1_; have BK288 := n2_; have BK297 := n3_; have BK305 := n4_; have BK313 := n5_; have BK319 := n6_; have BK322 := n7_; have HB := n8_; clear n0_ n1_ n2_ n3_ n4_ n5_ n6_ n7_ n8_; (try clear hb); (try clear hb2); (try clear hk); (try clear hi)) | ((with_reducible refine gate_callee (f := 18) rfl ?_); refine goesL_ (some 158) rfl rfl Try.func18 (by kernel_rfl) rfl #[.int .i64 a0_4, .int .i64 t346, .int .i64 a2] rfl (by (try simp only [zm1, zm2, zm3]); first | done | rfl) ?_; (with_reducible refine (fix_MulDiv.calls kj129 a0_4 t346 a2 t347 _ A152.out).mono ?_); rintro e w175 ⟨rfl, hb⟩; refine ⟨_, rfl, ?_⟩; have n0_ := Aside0.mk (bb hb BK279.out); have n1_ := Aside0.mk (bb hb BK280.out); have n2_ := Aside0.mk (bb hb BK288.out); have n3_ := Aside0.mk (bb hb BK297.out); have n4_ := Aside0.mk (bb hb BK305.out); have n5_ := Aside0.mk (bb hb BK313.out); have n6_ := Aside0.mk (bb hb BK319.out); have n7_ := Aside0.mk (bb hb BK322.out); have n8_ := Aside0.mk (below_step (by repeat (first | (with_reducible first | exact HB.out | apply below_alloc | apply pw_below_drewN | apply below_drew1 | refine below_set ?_ GE279.out | refine below_set ?_ GE280.out | refine below_set ?_ GE288.out | refine below_set ?_ GE297.out | refine below_set ?_ GE305.out | refine below_set ?_ GE313.out | refine below_set ?_ GE319.out | refine below_set ?_ GE322.out) | exact HB.out)) hb); clear BK279; clear BK280; clear BK288; clear BK297; clear BK305; clear BK313; clear BK319; clear BK322; clear HB; have BK279 := n0_; have BK280 := n1_; have BK288 := n2_; have BK297 := n3_; have BK305 := n4_; have BK313 := n5_; have BK319 := n6_; have BK322 := n7_; have HB := n8_; clear n0_ n1_ n2_ n3_ n4_ n5_ n6_ n7_ n8_; (try clear hb); (try clear hb2); (try clear hk); (try clear hi)))
                    have n0_ := Aside0.mk (blk_drew BK279.out)
                    have n1_ := Aside0.mk (blk_drew BK280.out)
                    have n2_ := Aside0.mk (blk_drew BK288.out)
                    have n3_ := Aside0.mk (blk_drew BK297.out)
                    have n4_ := Aside0.mk (blk_drew BK305.out)
                    have n5_ := Aside0.mk (blk_drew BK313.out)
                    have n6_ := Aside0.mk (blk_drew BK319.out)
                    have n7_ := Aside0.mk (blk_drew BK322.out)
                    have n8_ := Aside0.mk (below_drew1 HB.out)
                    clear BK279
                    clear BK280
                    clear BK288
                    clear BK297
                    clear BK305
                    clear BK313
                    clear BK319
                    clear BK322
                    clear HB
                    have BK279 := n0_
                    have BK280 := n1_
                    have BK288 := n2_
                    have BK297 := n3_
                    have BK305 := n4_
                    have BK313 := n5_
                    have BK319 := n6_
                    have BK322 := n7_
                    have HB := n8_
                    clear n0_ n1_ n2_ n3_ n4_ n5_ n6_ n7_ n8_
                    refine start_ (n := 13) (S := fun w' => w'.cell? ⟨gb313, 0, none⟩ = some (.int .i64 t306) ∧ w'.cell? ⟨gb313, 1, none⟩ = some (.int .i64 t307) ∧ w'.cell? ⟨gb313, 2, none⟩ = some (.int .i64 t308) ∧ w'.cell? ⟨gb313, 3, none⟩ = some (.int .i64 t309) ∧ w'.cell? ⟨gb313, 4, none⟩ = some (.int .i64 t310) ∧ w'.cell? ⟨gb313, 5, none⟩ = some (.int .i64 t311) ∧ w'.cell? ⟨gb279, 0, none⟩ = some (.int .i64 a0_0) ∧ w'.cell? ⟨gb279, 1, none⟩ = some (.int .i64 a0_1) ∧ w'.cell? ⟨gb279, 2, none⟩ = some (.int .i64 a0_2) ∧ w'.cell? ⟨gb279, 3, none⟩ = some (.int .i64 a0_3) ∧ w'.cell? ⟨gb279, 4, none⟩ = some (.int .i64 a0_4) ∧ w'.cell? ⟨gb279, 5, none⟩ = some (.int .i64 a0_5) ∧ w'.cell? ⟨gb322, 0, none⟩ = some (.int .i64 t320) ∧ w'.cell? ⟨gb322, 1, none⟩ = some (.int .i64 t321)) (ds := []) (ab 13 0) (by kernel_rfl) rfl rfl ⟨(blk_cell BK313.out 0).trans rfl, (blk_cell BK313.out 1).trans rfl, (blk_cell BK313.out 2).trans rfl, (blk_cell BK313.out 3).trans rfl, (blk_cell BK313.out 4).trans rfl, (blk_cell BK313.out 5).trans rfl, (blk_cell BK279.out 0).trans rfl, (blk_cell BK279.out 1).trans rfl, (blk_cell BK279.out 2).trans rfl, (blk_cell BK279.out 3).trans rfl, (blk_cell BK279.out 4).trans rfl, (blk_cell BK279.out 5).trans rfl, (blk_cell BK322.out 0).trans rfl, (blk_cell BK322.out 1).trans rfl⟩ (fun hHeld => ?_); refine with_tabW tourlaw5_SteerTells.tab21 tourlaw5_SteerTells.bits21 (fun HT_ HW_ => ?_)
                    generalize w175.drew = w176 at BK279 BK280 BK288 BK297 BK305 BK313 BK319 BK322 HB hHeld ⊢
                    refine pure_ (i := 0) (N := some 159) (v := ?_) (a' := ?_) (ab 13 1) rfl rfl (any_of HT_.out (by kernel_rfl)) (fun _ _ _ h => h) (Or.inl ⟨by rfl, ?_⟩) ?_ ?_
                    rotate_left
                    ·intro w'
                     go_simp
                     with_reducible rfl
                    rotate_left
                    ·simp only [Act.put, zq1, zq2, zq3, i64_w, i32_w]
                     rfl
                    refine pure_ (i := 1) (N := some 160) (v := ?_) (a' := ?_) (ab 13 3) rfl rfl (any_of HT_.out (by kernel_rfl)) (fun _ _ _ h => h) (Or.inl ⟨by rfl, ?_⟩) ?_ ?_
                    rotate_left
                    ·intro w'
                     go_simp
                     with_reducible rfl
                    rotate_left
                    ·simp only [Act.put, zq1, zq2, zq3, i64_w, i32_w]
                     rfl
                    refine pure_ (i := 2) (N := some 161) (v := ?_) (a' := ?_) (ab 13 7) rfl rfl (any_of HT_.out (by kernel_rfl)) (fun _ _ _ h => h) (Or.inl ⟨by rfl, ?_⟩) ?_ ?_
                    rotate_left
                    ·intro w'
                     go_simp
                     with_reducible rfl
                    rotate_left
                    ·simp only [Act.put, zq1, zq2, zq3, i64_w, i32_w]
                     rfl
                    refine pure_ (i := 7) (N := some 166) (v := ?_) (a' := ?_) (ab 13 135) rfl rfl (any_of HT_.out (by kernel_rfl)) (fun _ _ _ h => h) (Or.inl ⟨by rfl, ?_⟩) ?_ ?_
                    rotate_left
                    ·intro w'
                     go_simp
                     with_reducible rfl
                    rotate_left
                    ·simp only [Act.put, zq1, zq2, zq3, i64_w, i32_w]
                     rfl
                    refine take_ (i := 3) (N := some 162) (v := ?_) (a' := ?_) (ab 13 143) rfl rfl (take_ofW HT_.out HW_.out (by kernel_rfl)) (fun _ _ _ h => h) (Or.inl ⟨by rfl, ?_⟩) hHeld ?_ ?_
                    rotate_left
                    ·rintro w' ⟨s0, s1, s2, s3, s4, s5, s6, s7, s8, s9, s10, s11, s12, s13⟩
                     go_simp
                     with_reducible rfl
                    rotate_left
                    ·simp only [Act.put, zq1, zq2, zq3, i64_w, i32_w]
                     rfl
                    refine take_ (i := 4) (N := some 163) (v := ?_) (a' := ?_) (ab 13 159) rfl rfl (take_ofW HT_.out HW_.out (by kernel_rfl)) (fun _ _ _ h => h) (Or.inl ⟨by rfl, ?_⟩) hHeld ?_ ?_
                    rotate_left
                    ·rintro w' ⟨s0, s1, s2, s3, s4, s5, s6, s7, s8, s9, s10, s11, s12, s13⟩
                     go_simp
                     with_reducible rfl
                    rotate_left
                    ·simp only [Act.put, zq1, zq2, zq3, i64_w, i32_w]
                     rfl
                    refine take_ (i := 5) (N := some 164) (v := ?_) (a' := ?_) (ab 13 191) rfl rfl (take_ofW HT_.out HW_.out (by kernel_rfl)) (fun _ _ _ h => h) (Or.inl ⟨by rfl, ?_⟩) hHeld ?_ ?_
                    rotate_left
                    ·rintro w' ⟨s0, s1, s2, s3, s4, s5, s6, s7, s8, s9, s10, s11, s12, s13⟩
                     go_simp
                     with_reducible rfl
                    rotate_left
                    ·simp only [Act.put, zq1, zq2, zq3, i64_w, i32_w]
                     rfl
                    refine one_ (i := 6) (N := some 165) (ab 13 255) rfl rfl (one_of HT_.out (by kernel_rfl)) (by decide) (fun K hK => ?_)
                    refine goes_ Try.func17 (by kernel_rfl) rfl #[.agg #[.int .i64 t320, .int .i64 t321]] (by rfl) rfl rfl (by (try simp only [zm1, zm2, zm3]); first | done | rfl) ?_
                    with_reducible refine (vec_Unit.calls kj129 t320 t321 t348 t349 _ A154.out).mono ?_
                    rintro e w177 ⟨rfl, hb⟩
                    refine ⟨_, rfl, ?_⟩
                    have n0_ := Aside0.mk (bb hb BK279.out)
                    have n1_ := Aside0.mk (bb hb BK280.out)
                    have n2_ := Aside0.mk (bb hb BK288.out)
                    have n3_ := Aside0.mk (bb hb BK297.out)
                    have n4_ := Aside0.mk (bb hb BK305.out)
                    have n5_ := Aside0.mk (bb hb BK313.out)
                    have n6_ := Aside0.mk (bb hb BK319.out)
                    have n7_ := Aside0.mk (bb hb BK322.out)
                    have n8_ := Aside0.mk (below_step (by repeat (first | (with_reducible first | exact HB.out | apply below_alloc | apply pw_below_drewN | apply below_drew1 | refine below_set ?_ GE279.out | refine below_set ?_ GE280.out | refine below_set ?_ GE288.out | refine below_set ?_ GE297.out | refine below_set ?_ GE305.out | refine below_set ?_ GE313.out | refine below_set ?_ GE319.out | refine below_set ?_ GE322.out) | exact HB.out)) hb)
                    clear BK279
                    clear BK280
                    clear BK288
                    clear BK297
                    clear BK305
                    clear BK313
                    clear BK319
                    clear BK322
                    clear HB
                    have BK279 := n0_
                    have BK280 := n1_
                    have BK288 := n2_
                    have BK297 := n3_
                    have BK305 := n4_
                    have BK313 := n5_
                    have BK319 := n6_
                    have BK322 := n7_
                    have HB := n8_
                    clear n0_ n1_ n2_ n3_ n4_ n5_ n6_ n7_ n8_
                    (try clear hb)
                    (try clear hb2)
                    (try clear hk)
                    (try clear hi)
                    refine hK.out _ _ ⟨(blk_cell BK313.out 0).trans rfl, (blk_cell BK313.out 1).trans rfl, (blk_cell BK313.out 2).trans rfl, (blk_cell BK313.out 3).trans rfl, (blk_cell BK313.out 4).trans rfl, (blk_cell BK313.out 5).trans rfl, (blk_cell BK279.out 0).trans rfl, (blk_cell BK279.out 1).trans rfl, (blk_cell BK279.out 2).trans rfl, (blk_cell BK279.out 3).trans rfl, (blk_cell BK279.out 4).trans rfl, (blk_cell BK279.out 5).trans rfl, (blk_cell BK322.out 0).trans rfl, (blk_cell BK322.out 1).trans rfl⟩ (fun hHeld => ?_)
                    clear hK K
                    refine norm_ (a' := ?_) ?_ ?_
                    rotate_left
                    ·show Act.put _ (some 165) _ = _
                     simp only [Act.put, zq1, zq2, zq3, i64_w, i32_w]
                     rfl
                    refine one_ (i := 8) (N := some 167) (ab 13 511) rfl rfl (one_of HT_.out (by kernel_rfl)) (by decide) (fun K hK => ?_)
                    refine goes_ Try.func16 (by kernel_rfl) rfl #[.agg #[.int .i64 t348, .int .i64 t349], .int .i64 t347] (by rfl) rfl rfl (by (try simp only [zm1, zm2, zm3]); first | done | rfl) ?_
                    with_reducible refine (vec_Scale.calls kj129 t348 t349 t347 t350 t351 _ A155.out).mono ?_
                    rintro e w178 ⟨rfl, hb⟩
                    refine ⟨_, rfl, ?_⟩
                    have n0_ := Aside0.mk (bb hb BK279.out)
                    have n1_ := Aside0.mk (bb hb BK280.out)
                    have n2_ := Aside0.mk (bb hb BK288.out)
                    have n3_ := Aside0.mk (bb hb BK297.out)
                    have n4_ := Aside0.mk (bb hb BK305.out)
                    have n5_ := Aside0.mk (bb hb BK313.out)
                    have n6_ := Aside0.mk (bb hb BK319.out)
                    have n7_ := Aside0.mk (bb hb BK322.out)
                    have n8_ := Aside0.mk (below_step (by repeat (first | (with_reducible first | exact HB.out | apply below_alloc | apply pw_below_drewN | apply below_drew1 | refine below_set ?_ GE279.out | refine below_set ?_ GE280.out | refine below_set ?_ GE288.out | refine below_set ?_ GE297.out | refine below_set ?_ GE305.out | refine below_set ?_ GE313.out | refine below_set ?_ GE319.out | refine below_set ?_ GE322.out) | exact HB.out)) hb)
                    clear BK279
                    clear BK280
                    clear BK288
                    clear BK297
                    clear BK305
                    clear BK313
                    clear BK319
                    clear BK322
                    clear HB
                    have BK279 := n0_
                    have BK280 := n1_
                    have BK288 := n2_
                    have BK297 := n3_
                    have BK305 := n4_
                    have BK313 := n5_
                    have BK319 := n6_
                    have BK322 := n7_
                    have HB := n8_
                    clear n0_ n1_ n2_ n3_ n4_ n5_ n6_ n7_ n8_
                    (try clear hb)
                    (try clear hb2)
                    (try clear hk)
                    (try clear hi)
                    refine hK.out _ _ ⟨(blk_cell BK313.out 0).trans rfl, (blk_cell BK313.out 1).trans rfl, (blk_cell BK313.out 2).trans rfl, (blk_cell BK313.out 3).trans rfl, (blk_cell BK313.out 4).trans rfl, (blk_cell BK313.out 5).trans rfl, (blk_cell BK279.out 0).trans rfl, (blk_cell BK279.out 1).trans rfl, (blk_cell BK279.out 2).trans rfl, (blk_cell BK279.out 3).trans rfl, (blk_cell BK279.out 4).trans rfl, (blk_cell BK279.out 5).trans rfl, (blk_cell BK322.out 0).trans rfl, (blk_cell BK322.out 1).trans rfl⟩ (fun hHeld => ?_)
                    clear hK K
                    refine norm_ (a' := ?_) ?_ ?_
                    rotate_left
                    ·show Act.put _ (some 167) _ = _
                     simp only [Act.put, zq1, zq2, zq3, i64_w, i32_w]
                     rfl
                    refine one_ (i := 9) (N := some 168) (ab 13 1023) rfl rfl (one_of HT_.out (by kernel_rfl)) (by decide) (fun K hK => ?_)
                    refine goes_ Try.func19 (by kernel_rfl) rfl #[.agg #[.int .i64 a0_0, .int .i64 a0_1, .int .i64 a0_2, .int .i64 a0_3, .int .i64 a0_4, .int .i64 a0_5], .agg #[.int .i64 t350, .int .i64 t351]] (by rfl) rfl rfl (by (try simp only [zm1, zm2, zm3]); first | done | rfl) ?_
                    with_reducible refine (tourref5_Steered.calls kj129 a0_0 a0_1 a0_2 a0_3 a0_4 a0_5 t350 t351 t352 t353 t354 t355 t356 t357 _ A156.out).mono ?_
                    rintro e w179 ⟨rfl, hb⟩
                    refine ⟨_, rfl, ?_⟩
                    have n0_ := Aside0.mk (bb hb BK279.out)
                    have n1_ := Aside0.mk (bb hb BK280.out)
                    have n2_ := Aside0.mk (bb hb BK288.out)
                    have n3_ := Aside0.mk (bb hb BK297.out)
                    have n4_ := Aside0.mk (bb hb BK305.out)
                    have n5_ := Aside0.mk (bb hb BK313.out)
                    have n6_ := Aside0.mk (bb hb BK319.out)
                    have n7_ := Aside0.mk (bb hb BK322.out)
                    have n8_ := Aside0.mk (below_step (by repeat (first | (with_reducible first | exact HB.out | apply below_alloc | apply pw_below_drewN | apply below_drew1 | refine below_set ?_ GE279.out | refine below_set ?_ GE280.out | refine below_set ?_ GE288.out | refine below_set ?_ GE297.out | refine below_set ?_ GE305.out | refine below_set ?_ GE313.out | refine below_set ?_ GE319.out | refine below_set ?_ GE322.out) | exact HB.out)) hb)
                    clear BK279
                    clear BK280
                    clear BK288
                    clear BK297
                    clear BK305
                    clear BK313
                    clear BK319
                    clear BK322
                    clear HB
                    have BK279 := n0_
                    have BK280 := n1_
                    have BK288 := n2_
                    have BK297 := n3_
                    have BK305 := n4_
                    have BK313 := n5_
                    have BK319 := n6_
                    have BK322 := n7_
                    have HB := n8_
                    clear n0_ n1_ n2_ n3_ n4_ n5_ n6_ n7_ n8_
                    (try clear hb)
                    (try clear hb2)
                    (try clear hk)
                    (try clear hi)
                    refine hK.out _ _ ⟨(blk_cell BK313.out 0).trans rfl, (blk_cell BK313.out 1).trans rfl, (blk_cell BK313.out 2).trans rfl, (blk_cell BK313.out 3).trans rfl, (blk_cell BK313.out 4).trans rfl, (blk_cell BK313.out 5).trans rfl, (blk_cell BK279.out 0).trans rfl, (blk_cell BK279.out 1).trans rfl, (blk_cell BK279.out 2).trans rfl, (blk_cell BK279.out 3).trans rfl, (blk_cell BK279.out 4).trans rfl, (blk_cell BK279.out 5).trans rfl, (blk_cell BK322.out 0).trans rfl, (blk_cell BK322.out 1).trans rfl⟩ (fun hHeld => ?_)
                    clear hK K
                    refine norm_ (a' := ?_) ?_ ?_
                    rotate_left
                    ·show Act.put _ (some 168) _ = _
                     simp only [Act.put, zq1, zq2, zq3, i64_w, i32_w]
                     rfl
                    refine pure_ (i := 10) (N := some 169) (v := ?_) (a' := ?_) (ab 13 2047) rfl rfl (any_of HT_.out (by kernel_rfl)) (fun _ _ _ h => h) (Or.inl ⟨by rfl, ?_⟩) ?_ ?_
                    rotate_left
                    ·intro w'
                     go_simp
                     with_reducible rfl
                    rotate_left
                    ·simp only [Act.put, zq1, zq2, zq3, i64_w, i32_w]
                     rfl
                    refine pure_ (i := 11) (N := some 170) (v := ?_) (a' := ?_) (ab 13 4095) rfl rfl (any_of HT_.out (by kernel_rfl)) (fun _ _ _ h => h) (Or.inl ⟨by rfl, ?_⟩) ?_ ?_
                    rotate_left
                    ·intro w'
                     go_simp
                     with_reducible rfl
                    rotate_left
                    ·simp only [Act.put, zq1, zq2, zq3, i64_w, i32_w]
                     rfl
                    refine pure_ (i := 12) (N := some 8) (v := ?_) (a' := ?_) (ab 13 8191) rfl rfl (any_of HT_.out (by kernel_rfl)) (fun _ _ _ h => h) (Or.inl ⟨by rfl, ?_⟩) ?_ ?_
                    rotate_left
                    ·intro w'
                     go_simp
                     with_reducible rfl
                    rotate_left
                    ·simp only [Act.put, zq1, zq2, zq3, i64_w, i32_w]
                     rfl
                    refine done_ (done_of HT_.out (by kernel_rfl)) ?_
                    try go_wp2
                    go_ret
                    exact ⟨by first | rfl | (simp [errW_none, errW_some] <;> rfl) | (simp [*, errW_none, errW_some] <;> rfl), by repeat (first | (with_reducible first | exact HB.out | apply below_alloc | apply pw_below_drewN | apply below_drew1 | refine below_set ?_ GE279.out | refine below_set ?_ GE280.out | refine below_set ?_ GE288.out | refine below_set ?_ GE297.out | refine below_set ?_ GE305.out | refine below_set ?_ GE313.out | refine below_set ?_ GE319.out | refine below_set ?_ GE322.out) | exact HB.out)⟩
                   ·rw [if_neg c153] at H
                    have c153b0 : (t312 == 0) = false := beq_eq_false_iff_ne.mpr c153
                    have c153b1 : (t312 != 0) = true := bne_iff_ne.mpr c153
                    exact absurd H (by simp)
                  ·rw [if_neg c150] at H
                   have c150b0 : decide (t345 < a2) = false := decide_eq_false c150
                   clear c150
                   by_cases c180 : t312 = 0
                   ·rw [if_pos c180] at H
                    have c180b0 : (t312 == 0) = true := beq_iff_eq.mpr c180
                    have c180b1 : (t312 != 0) = false := bne_eq_false_iff_eq.mpr c180
                    clear c180
                    replace H := Option.bind_eq_some_iff.mp H
                    obtain ⟨⟨t358, t359⟩, A1810, H⟩ := H
                    replace H : ((vec_Scale.f kj129 t358 t359 a0_4).bind fun bt360 => ((tourref5_Steered.f kj129 a0_0 a0_1 a0_2 a0_3 a0_4 a0_5 bt360.1 bt360.2).bind fun bt362 => (some ((t306 == bt362.1 && (t307 == bt362.2.1)) && ((t308 == bt362.2.2.1 && (t309 == bt362.2.2.2.1)) && (t310 == bt362.2.2.2.2.1 && (t311 == bt362.2.2.2.2.2))))))) = some r := H
                    have A181 := Aside0.mk A1810
                    clear A1810
                    replace H := Option.bind_eq_some_iff.mp H
                    obtain ⟨⟨t360, t361⟩, A1820, H⟩ := H
                    replace H : ((tourref5_Steered.f kj129 a0_0 a0_1 a0_2 a0_3 a0_4 a0_5 t360 t361).bind fun bt362 => (some ((t306 == bt362.1 && (t307 == bt362.2.1)) && ((t308 == bt362.2.2.1 && (t309 == bt362.2.2.2.1)) && (t310 == bt362.2.2.2.2.1 && (t311 == bt362.2.2.2.2.2)))))) = some r := H
                    have A182 := Aside0.mk A1820
                    clear A1820
                    replace H := Option.bind_eq_some_iff.mp H
                    obtain ⟨⟨t362, t363, t364, t365, t366, t367⟩, A1830, H⟩ := H
                    replace H : (some ((t306 == t362 && (t307 == t363)) && ((t308 == t364 && (t309 == t365)) && (t310 == t366 && (t311 == t367))))) = some r := H
                    have A183 := Aside0.mk A1830
                    clear A1830
                    obtain rfl := Option.some.inj H
                    have hnb184 := NB279_280.out
                    have hnc184 := NB280_279.out
                    have hnb185 := NB279_288.out
                    have hnc185 := NB288_279.out
                    have hnb186 := NB279_297.out
                    have hnc186 := NB297_279.out
                    have hnb187 := NB279_305.out
                    have hnc187 := NB305_279.out
                    have hnb188 := NB279_313.out
                    have hnc188 := NB313_279.out
                    have hnb189 := NB279_319.out
                    have hnc189 := NB319_279.out
                    have hnb190 := NB279_322.out
                    have hnc190 := NB322_279.out
                    obtain ⟨hcz191_0, hcz191_1, hcz191_2, hcz191_3, hcz191_4, hcz191_5⟩ := blk6 BK279.out
                    obtain ⟨hfz191_0, hfz191_1, hfz191_2, hfz191_3, hfz191_4, hfz191_5⟩ := frz6 BK279.out
                    have hnb192 := NB322_280.out
                    have hnc192 := NB280_322.out
                    have hnb193 := NB322_288.out
                    have hnc193 := NB288_322.out
                    have hnb194 := NB322_297.out
                    have hnc194 := NB297_322.out
                    have hnb195 := NB322_305.out
                    have hnc195 := NB305_322.out
                    have hnb196 := NB322_313.out
                    have hnc196 := NB313_322.out
                    have hnb197 := NB322_319.out
                    have hnc197 := NB319_322.out
                    obtain ⟨hcz198_0, hcz198_1⟩ := blk2 BK322.out
                    obtain ⟨hfz198_0, hfz198_1⟩ := frz2 BK322.out
                    try go_wp2_with (first | ((with_reducible refine gate_callee (f := 14) rfl ?_); refine goesL_ (some 151) rfl rfl Try.func14 (by kernel_rfl) rfl #[.agg #[.int .i64 t320, .int .i64 t321]] rfl (by (try simp only [zm1, zm2, zm3]); first | done | rfl) ?_; (with_reducible refine (vec_Len.calls kj129 t320 t321 t345 _ A149.out).mono ?_); rintro e w199 ⟨rfl, hb⟩; refine ⟨_, rfl, ?_⟩; have n0_ := Aside0.mk (bb hb BK279.out); have n1_ := Aside0.mk (bb hb BK280.out); have n2_ := Aside0.mk (bb hb BK288.out); have n3_ := Aside0.mk (bb hb BK297.out); have n4_ := Aside0.mk (bb hb BK305.out); have n5_ := Aside0.mk (bb hb BK313.out); have n6_ := Aside0.mk (bb hb BK319.out); have n7_ := Aside0.mk (bb hb BK322.out); have n8_ := Aside0.mk (below_step (by repeat (first | (with_reducible first | exact HB.out | apply below_alloc | apply pw_below_drewN | apply below_drew1 | refine below_set ?_ GE279.out | refine below_set ?_ GE280.out | refine below_set ?_ GE288.out | refine below_set ?_ GE297.out | refine below_set ?_ GE305.out | refine below_set ?_ GE313.out | refine below_set ?_ GE319.out | refine below_set ?_ GE322.out) | exact HB.out)) hb); clear BK279; clear BK280; clear BK288; clear BK297; clear BK305; clear BK313; clear BK319; clear BK322; clear HB; have BK279 := n0_; have BK280 := n1_; have BK288 := n2_; have BK297 := n3_; have BK305 := n4_; have BK313 := n5_; have BK319 := n6_; have BK322 := n7_; have HB := n8_; clear n0_ n1_ n2_ n3_ n4_ n5_ n6_ n7_ n8_; (try clear hb); (try clear hb2); (try clear hk); (try clear hi)))
                    have n0_ := Aside0.mk (blk_drew BK279.out)
                    have n1_ := Aside0.mk (blk_drew BK280.out)
                    have n2_ := Aside0.mk (blk_drew BK288.out)
                    have n3_ := Aside0.mk (blk_drew BK297.out)
                    have n4_ := Aside0.mk (blk_drew BK305.out)
                    have n5_ := Aside0.mk (blk_drew BK313.out)
                    have n6_ := Aside0.mk (blk_drew BK319.out)
                    have n7_ := Aside0.mk (blk_drew BK322.out)
                    have n8_ := Aside0.mk (below_drew1 HB.out)
                    clear BK279
                    clear BK280
                    clear BK288
                    clear BK297
                    clear BK305
                    clear BK313
                    clear BK319
                    clear BK322
                    clear HB
                    have BK279 := n0_
                    have BK280 := n1_
                    have BK288 := n2_
                    have BK297 := n3_
                    have BK305 := n4_
                    have BK313 := n5_
                    have BK319 := n6_
                    have BK322 := n7_
                    have HB := n8_
                    clear n0_ n1_ n2_ n3_ n4_ n5_ n6_ n7_ n8_
                    refine start_ (n := 13) (S := fun w' => w'.cell? ⟨gb313, 0, none⟩ = some (.int .i64 t306) ∧ w'.cell? ⟨gb313, 1, none⟩ = some (.int .i64 t307) ∧ w'.cell? ⟨gb313, 2, none⟩ = some (.int .i64 t308) ∧ w'.cell? ⟨gb313, 3, none⟩ = some (.int .i64 t309) ∧ w'.cell? ⟨gb313, 4, none⟩ = some (.int .i64 t310) ∧ w'.cell? ⟨gb313, 5, none⟩ = some (.int .i64 t311) ∧ w'.cell? ⟨gb279, 0, none⟩ = some (.int .i64 a0_0) ∧ w'.cell? ⟨gb279, 1, none⟩ = some (.int .i64 a0_1) ∧ w'.cell? ⟨gb279, 2, none⟩ = some (.int .i64 a0_2) ∧ w'.cell? ⟨gb279, 3, none⟩ = some (.int .i64 a0_3) ∧ w'.cell? ⟨gb279, 4, none⟩ = some (.int .i64 a0_4) ∧ w'.cell? ⟨gb279, 5, none⟩ = some (.int .i64 a0_5) ∧ w'.cell? ⟨gb322, 0, none⟩ = some (.int .i64 t320) ∧ w'.cell? ⟨gb322, 1, none⟩ = some (.int .i64 t321)) (ds := []) (ab 13 0) (by kernel_rfl) rfl rfl ⟨(blk_cell BK313.out 0).trans rfl, (blk_cell BK313.out 1).trans rfl, (blk_cell BK313.out 2).trans rfl, (blk_cell BK313.out 3).trans rfl, (blk_cell BK313.out 4).trans rfl, (blk_cell BK313.out 5).trans rfl, (blk_cell BK279.out 0).trans rfl, (blk_cell BK279.out 1).trans rfl, (blk_cell BK279.out 2).trans rfl, (blk_cell BK279.out 3).trans rfl, (blk_cell BK279.out 4).trans rfl, (blk_cell BK279.out 5).trans rfl, (blk_cell BK322.out 0).trans rfl, (blk_cell BK322.out 1).trans rfl⟩ (fun hHeld => ?_); refine with_tabW tourlaw5_SteerTells.tab21 tourlaw5_SteerTells.bits21 (fun HT_ HW_ => ?_)
                    generalize w199.drew = w200 at BK279 BK280 BK288 BK297 BK305 BK313 BK319 BK322 HB hHeld ⊢
                    refine pure_ (i := 0) (N := some 159) (v := ?_) (a' := ?_) (ab 13 1) rfl rfl (any_of HT_.out (by kernel_rfl)) (fun _ _ _ h => h) (Or.inl ⟨by rfl, ?_⟩) ?_ ?_
                    rotate_left
                    ·intro w'
                     go_simp
                     with_reducible rfl
                    rotate_left
                    ·simp only [Act.put, zq1, zq2, zq3, i64_w, i32_w]
                     rfl
                    refine pure_ (i := 1) (N := some 160) (v := ?_) (a' := ?_) (ab 13 3) rfl rfl (any_of HT_.out (by kernel_rfl)) (fun _ _ _ h => h) (Or.inl ⟨by rfl, ?_⟩) ?_ ?_
                    rotate_left
                    ·intro w'
                     go_simp
                     with_reducible rfl
                    rotate_left
                    ·simp only [Act.put, zq1, zq2, zq3, i64_w, i32_w]
                     rfl
                    refine pure_ (i := 2) (N := some 161) (v := ?_) (a' := ?_) (ab 13 7) rfl rfl (any_of HT_.out (by kernel_rfl)) (fun _ _ _ h => h) (Or.inl ⟨by rfl, ?_⟩) ?_ ?_
                    rotate_left
                    ·intro w'
                     go_simp
                     with_reducible rfl
                    rotate_left
                    ·simp only [Act.put, zq1, zq2, zq3, i64_w, i32_w]
                     rfl
                    refine pure_ (i := 7) (N := some 166) (v := ?_) (a' := ?_) (ab 13 135) rfl rfl (any_of HT_.out (by kernel_rfl)) (fun _ _ _ h => h) (Or.inl ⟨by rfl, ?_⟩) ?_ ?_
                    rotate_left
                    ·intro w'
                     go_simp
                     with_reducible rfl
                    rotate_left
                    ·simp only [Act.put, zq1, zq2, zq3, i64_w, i32_w]
                     rfl
                    refine take_ (i := 3) (N := some 162) (v := ?_) (a' := ?_) (ab 13 143) rfl rfl (take_ofW HT_.out HW_.out (by kernel_rfl)) (fun _ _ _ h => h) (Or.inl ⟨by rfl, ?_⟩) hHeld ?_ ?_
                    rotate_left
                    ·rintro w' ⟨s0, s1, s2, s3, s4, s5, s6, s7, s8, s9, s10, s11, s12, s13⟩
                     go_simp
                     with_reducible rfl
                    rotate_left
                    ·simp only [Act.put, zq1, zq2, zq3, i64_w, i32_w]
                     rfl
                    refine take_ (i := 4) (N := some 163) (v := ?_) (a' := ?_) (ab 13 159) rfl rfl (take_ofW HT_.out HW_.out (by kernel_rfl)) (fun _ _ _ h => h) (Or.inl ⟨by rfl, ?_⟩) hHeld ?_ ?_
                    rotate_left
                    ·rintro w' ⟨s0, s1, s2, s3, s4, s5, s6, s7, s8, s9, s10, s11, s12, s13⟩
                     go_simp
                     with_reducible rfl
                    rotate_left
                    ·simp only [Act.put, zq1, zq2, zq3, i64_w, i32_w]
                     rfl
                    refine take_ (i := 5) (N := some 164) (v := ?_) (a' := ?_) (ab 13 191) rfl rfl (take_ofW HT_.out HW_.out (by kernel_rfl)) (fun _ _ _ h => h) (Or.inl ⟨by rfl, ?_⟩) hHeld ?_ ?_
                    rotate_left
                    ·rintro w' ⟨s0, s1, s2, s3, s4, s5, s6, s7, s8, s9, s10, s11, s12, s13⟩
                     go_simp
                     with_reducible rfl
                    rotate_left
                    ·simp only [Act.put, zq1, zq2, zq3, i64_w, i32_w]
                     rfl
                    refine one_ (i := 6) (N := some 165) (ab 13 255) rfl rfl (one_of HT_.out (by kernel_rfl)) (by decide) (fun K hK => ?_)
                    refine goes_ Try.func17 (by kernel_rfl) rfl #[.agg #[.int .i64 t320, .int .i64 t321]] (by rfl) rfl rfl (by (try simp only [zm1, zm2, zm3]); first | done | rfl) ?_
                    with_reducible refine (vec_Unit.calls kj129 t320 t321 t358 t359 _ A181.out).mono ?_
                    rintro e w201 ⟨rfl, hb⟩
                    refine ⟨_, rfl, ?_⟩
                    have n0_ := Aside0.mk (bb hb BK279.out)
                    have n1_ := Aside0.mk (bb hb BK280.out)
                    have n2_ := Aside0.mk (bb hb BK288.out)
                    have n3_ := Aside0.mk (bb hb BK297.out)
                    have n4_ := Aside0.mk (bb hb BK305.out)
                    have n5_ := Aside0.mk (bb hb BK313.out)
                    have n6_ := Aside0.mk (bb hb BK319.out)
                    have n7_ := Aside0.mk (bb hb BK322.out)
                    have n8_ := Aside0.mk (below_step (by repeat (first | (with_reducible first | exact HB.out | apply below_alloc | apply pw_below_drewN | apply below_drew1 | refine below_set ?_ GE279.out | refine below_set ?_ GE280.out | refine below_set ?_ GE288.out | refine below_set ?_ GE297.out | refine below_set ?_ GE305.out | refine below_set ?_ GE313.out | refine below_set ?_ GE319.out | refine below_set ?_ GE322.out) | exact HB.out)) hb)
                    clear BK279
                    clear BK280
                    clear BK288
                    clear BK297
                    clear BK305
                    clear BK313
                    clear BK319
                    clear BK322
                    clear HB
                    have BK279 := n0_
                    have BK280 := n1_
                    have BK288 := n2_
                    have BK297 := n3_
                    have BK305 := n4_
                    have BK313 := n5_
                    have BK319 := n6_
                    have BK322 := n7_
                    have HB := n8_
                    clear n0_ n1_ n2_ n3_ n4_ n5_ n6_ n7_ n8_
                    (try clear hb)
                    (try clear hb2)
                    (try clear hk)
                    (try clear hi)
                    refine hK.out _ _ ⟨(blk_cell BK313.out 0).trans rfl, (blk_cell BK313.out 1).trans rfl, (blk_cell BK313.out 2).trans rfl, (blk_cell BK313.out 3).trans rfl, (blk_cell BK313.out 4).trans rfl, (blk_cell BK313.out 5).trans rfl, (blk_cell BK279.out 0).trans rfl, (blk_cell BK279.out 1).trans rfl, (blk_cell BK279.out 2).trans rfl, (blk_cell BK279.out 3).trans rfl, (blk_cell BK279.out 4).trans rfl, (blk_cell BK279.out 5).trans rfl, (blk_cell BK322.out 0).trans rfl, (blk_cell BK322.out 1).trans rfl⟩ (fun hHeld => ?_)
                    clear hK K
                    refine norm_ (a' := ?_) ?_ ?_
                    rotate_left
                    ·show Act.put _ (some 165) _ = _
                     simp only [Act.put, zq1, zq2, zq3, i64_w, i32_w]
                     rfl
                    refine one_ (i := 8) (N := some 167) (ab 13 511) rfl rfl (one_of HT_.out (by kernel_rfl)) (by decide) (fun K hK => ?_)
                    refine goes_ Try.func16 (by kernel_rfl) rfl #[.agg #[.int .i64 t358, .int .i64 t359], .int .i64 a0_4] (by rfl) rfl rfl (by (try simp only [zm1, zm2, zm3]); first | done | rfl) ?_
                    with_reducible refine (vec_Scale.calls kj129 t358 t359 a0_4 t360 t361 _ A182.out).mono ?_
                    rintro e w202 ⟨rfl, hb⟩
                    refine ⟨_, rfl, ?_⟩
                    have n0_ := Aside0.mk (bb hb BK279.out)
                    have n1_ := Aside0.mk (bb hb BK280.out)
                    have n2_ := Aside0.mk (bb hb BK288.out)
                    have n3_ := Aside0.mk (bb hb BK297.out)
                    have n4_ := Aside0.mk (bb hb BK305.out)
                    have n5_ := Aside0.mk (bb hb BK313.out)
                    have n6_ := Aside0.mk (bb hb BK319.out)
                    have n7_ := Aside0.mk (bb hb BK322.out)
                    have n8_ := Aside0.mk (below_step (by repeat (first | (with_reducible first | exact HB.out | apply below_alloc | apply pw_below_drewN | apply below_drew1 | refine below_set ?_ GE279.out | refine below_set ?_ GE280.out | refine below_set ?_ GE288.out | refine below_set ?_ GE297.out | refine below_set ?_ GE305.out | refine below_set ?_ GE313.out | refine below_set ?_ GE319.out | refine below_set ?_ GE322.out) | exact HB.out)) hb)
                    clear BK279
                    clear BK280
                    clear BK288
                    clear BK297
                    clear BK305
                    clear BK313
                    clear BK319
                    clear BK322
                    clear HB
                    have BK279 := n0_
                    have BK280 := n1_
                    have BK288 := n2_
                    have BK297 := n3_
                    have BK305 := n4_
                    have BK313 := n5_
                    have BK319 := n6_
                    have BK322 := n7_
                    have HB := n8_
                    clear n0_ n1_ n2_ n3_ n4_ n5_ n6_ n7_ n8_
                    (try clear hb)
                    (try clear hb2)
                    (try clear hk)
                    (try clear hi)
                    refine hK.out _ _ ⟨(blk_cell BK313.out 0).trans rfl, (blk_cell BK313.out 1).trans rfl, (blk_cell BK313.out 2).trans rfl, (blk_cell BK313.out 3).trans rfl, (blk_cell BK313.out 4).trans rfl, (blk_cell BK313.out 5).trans rfl, (blk_cell BK279.out 0).trans rfl, (blk_cell BK279.out 1).trans rfl, (blk_cell BK279.out 2).trans rfl, (blk_cell BK279.out 3).trans rfl, (blk_cell BK279.out 4).trans rfl, (blk_cell BK279.out 5).trans rfl, (blk_cell BK322.out 0).trans rfl, (blk_cell BK322.out 1).trans rfl⟩ (fun hHeld => ?_)
                    clear hK K
                    refine norm_ (a' := ?_) ?_ ?_
                    rotate_left
                    ·show Act.put _ (some 167) _ = _
                     simp only [Act.put, zq1, zq2, zq3, i64_w, i32_w]
                     rfl
                    refine one_ (i := 9) (N := some 168) (ab 13 1023) rfl rfl (one_of HT_.out (by kernel_rfl)) (by decide) (fun K hK => ?_)
                    refine goes_ Try.func19 (by kernel_rfl) rfl #[.agg #[.int .i64 a0_0, .int .i64 a0_1, .int .i64 a0_2, .int .i64 a0_3, .int .i64 a0_4, .int .i64 a0_5], .agg #[.int .i64 t360, .int .i64 t361]] (by rfl) rfl rfl (by (try simp only [zm1, zm2, zm3]); first | done | rfl) ?_
                    with_reducible refine (tourref5_Steered.calls kj129 a0_0 a0_1 a0_2 a0_3 a0_4 a0_5 t360 t361 t362 t363 t364 t365 t366 t367 _ A183.out).mono ?_
                    rintro e w203 ⟨rfl, hb⟩
                    refine ⟨_, rfl, ?_⟩
                    have n0_ := Aside0.mk (bb hb BK279.out)
                    have n1_ := Aside0.mk (bb hb BK280.out)
                    have n2_ := Aside0.mk (bb hb BK288.out)
                    have n3_ := Aside0.mk (bb hb BK297.out)
                    have n4_ := Aside0.mk (bb hb BK305.out)
                    have n5_ := Aside0.mk (bb hb BK313.out)
                    have n6_ := Aside0.mk (bb hb BK319.out)
                    have n7_ := Aside0.mk (bb hb BK322.out)
                    have n8_ := Aside0.mk (below_step (by repeat (first | (with_reducible first | exact HB.out | apply below_alloc | apply pw_below_drewN | apply below_drew1 | refine below_set ?_ GE279.out | refine below_set ?_ GE280.out | refine below_set ?_ GE288.out | refine below_set ?_ GE297.out | refine below_set ?_ GE305.out | refine below_set ?_ GE313.out | refine below_set ?_ GE319.out | refine below_set ?_ GE322.out) | exact HB.out)) hb)
                    clear BK279
                    clear BK280
                    clear BK288
                    clear BK297
                    clear BK305
                    clear BK313
                    clear BK319
                    clear BK322
                    clear HB
                    have BK279 := n0_
                    have BK280 := n1_
                    have BK288 := n2_
                    have BK297 := n3_
                    have BK305 := n4_
                    have BK313 := n5_
                    have BK319 := n6_
                    have BK322 := n7_
                    have HB := n8_
                    clear n0_ n1_ n2_ n3_ n4_ n5_ n6_ n7_ n8_
                    (try clear hb)
                    (try clear hb2)
                    (try clear hk)
                    (try clear hi)
                    refine hK.out _ _ ⟨(blk_cell BK313.out 0).trans rfl, (blk_cell BK313.out 1).trans rfl, (blk_cell BK313.out 2).trans rfl, (blk_cell BK313.out 3).trans rfl, (blk_cell BK313.out 4).trans rfl, (blk_cell BK313.out 5).trans rfl, (blk_cell BK279.out 0).trans rfl, (blk_cell BK279.out 1).trans rfl, (blk_cell BK279.out 2).trans rfl, (blk_cell BK279.out 3).trans rfl, (blk_cell BK279.out 4).trans rfl, (blk_cell BK279.out 5).trans rfl, (blk_cell BK322.out 0).trans rfl, (blk_cell BK322.out 1).trans rfl⟩ (fun hHeld => ?_)
                    clear hK K
                    refine norm_ (a' := ?_) ?_ ?_
                    rotate_left
                    ·show Act.put _ (some 168) _ = _
                     simp only [Act.put, zq1, zq2, zq3, i64_w, i32_w]
                     rfl
                    refine pure_ (i := 10) (N := some 169) (v := ?_) (a' := ?_) (ab 13 2047) rfl rfl (any_of HT_.out (by kernel_rfl)) (fun _ _ _ h => h) (Or.inl ⟨by rfl, ?_⟩) ?_ ?_
                    rotate_left
                    ·intro w'
                     go_simp
                     with_reducible rfl
                    rotate_left
                    ·simp only [Act.put, zq1, zq2, zq3, i64_w, i32_w]
                     rfl
                    refine pure_ (i := 11) (N := some 170) (v := ?_) (a' := ?_) (ab 13 4095) rfl rfl (any_of HT_.out (by kernel_rfl)) (fun _ _ _ h => h) (Or.inl ⟨by rfl, ?_⟩) ?_ ?_
                    rotate_left
                    ·intro w'
                     go_simp
                     with_reducible rfl
                    rotate_left
                    ·simp only [Act.put, zq1, zq2, zq3, i64_w, i32_w]
                     rfl
                    refine pure_ (i := 12) (N := some 8) (v := ?_) (a' := ?_) (ab 13 8191) rfl rfl (any_of HT_.out (by kernel_rfl)) (fun _ _ _ h => h) (Or.inl ⟨by rfl, ?_⟩) ?_ ?_
                    rotate_left
                    ·intro w'
                     go_simp
                     with_reducible rfl
                    rotate_left
                    ·simp only [Act.put, zq1, zq2, zq3, i64_w, i32_w]
                     rfl
                    refine done_ (done_of HT_.out (by kernel_rfl)) ?_
                    try go_wp2
                    go_ret
                    exact ⟨by first | rfl | (simp [errW_none, errW_some] <;> rfl) | (simp [*, errW_none, errW_some] <;> rfl), by repeat (first | (with_reducible first | exact HB.out | apply below_alloc | apply pw_below_drewN | apply below_drew1 | refine below_set ?_ GE279.out | refine below_set ?_ GE280.out | refine below_set ?_ GE288.out | refine below_set ?_ GE297.out | refine below_set ?_ GE305.out | refine below_set ?_ GE313.out | refine below_set ?_ GE319.out | refine below_set ?_ GE322.out) | exact HB.out)⟩
                   ·rw [if_neg c180] at H
                    have c180b0 : (t312 == 0) = false := beq_eq_false_iff_ne.mpr c180
                    have c180b1 : (t312 != 0) = true := bne_iff_ne.mpr c180
                    exact absurd H (by simp)
               exact aux4
           exact aux3
         ·rw [if_neg c69] at H
          have c69b0 : (t289 == 0) = false := beq_eq_false_iff_ne.mpr c69
          have c69b1 : (t289 != 0) = true := bne_iff_ne.mpr c69
          by_cases c204 : t296 = t289
          ·rw [if_pos c204] at H
           have c204b0 : (t296 == t289) = true := beq_iff_eq.mpr c204
           have c204b1 : (t296 != t289) = false := bne_eq_false_iff_eq.mpr c204
           clear c204
           by_cases c205 : t304 = t289
           ·rw [if_pos c205] at H
            have c205b0 : (t304 == t289) = true := beq_iff_eq.mpr c205
            have c205b1 : (t304 != t289) = false := bne_eq_false_iff_eq.mpr c205
            clear c205
            by_cases c206 : t312 = t289
            ·rw [if_pos c206] at H
             have c206b0 : (t312 == t289) = true := beq_iff_eq.mpr c206
             have c206b1 : (t312 != t289) = false := bne_eq_false_iff_eq.mpr c206
             clear c206
             by_cases c207 : ((t290 == 0 && (t291 == 0)) && ((t292 == 0 && (t293 == 0)) && (t294 == 0 && (t295 == 0)))) = true
             ·rw [if_pos c207] at H
              have c207b0 : ((t290 == 0 && (t291 == 0)) && ((t292 == 0 && (t293 == 0)) && (t294 == 0 && (t295 == 0)))) = true := c207
              clear c207
              by_cases c208 : ((t298 == 0 && (t299 == 0)) && ((t300 == 0 && (t301 == 0)) && (t302 == 0 && (t303 == 0)))) = true
              ·rw [if_pos c208] at H
               have c208b0 : ((t298 == 0 && (t299 == 0)) && ((t300 == 0 && (t301 == 0)) && (t302 == 0 && (t303 == 0)))) = true := c208
               clear c208
               obtain rfl := Option.some.inj H
               go_wp2_with (first | ((with_reducible refine gate_dst (N := 18) rfl ?_); refine box_event ?hg (N := 18) ?hd (cs := #[.int .i64 0, .int .i64 0, .int .i64 0, .int .i64 0, .int .i64 0, .int .i64 0]) (t := 29) ?hr ?_; (case hd => rfl); (case hg => rfl); (case hr => first | (go_simp; done) | (go_simp; rfl)); intro gb319 hg w209 hbox hb; have n0_ := Aside0.mk (bb hb BK279.out); have n1_ := Aside0.mk (bb hb BK280.out); have n2_ := Aside0.mk (bb hb BK288.out); have n3_ := Aside0.mk (bb hb BK297.out); have n4_ := Aside0.mk (bb hb BK305.out); have n5_ := Aside0.mk (bb hb BK313.out); have n6_ := Aside0.mk (below_step (by repeat (first | (with_reducible first | exact HB.out | apply below_alloc | apply pw_below_drewN | apply below_drew1 | refine below_set ?_ GE279.out | refine below_set ?_ GE280.out | refine below_set ?_ GE288.out | refine below_set ?_ GE297.out | refine below_set ?_ GE305.out | refine below_set ?_ GE313.out) | exact HB.out)) hb); have n7_ := Aside0.mk (hbox); have n8_ := Aside0.mk ((by rw [hg]; exact (below_size (by repeat (first | (with_reducible first | exact HB.out | apply below_alloc | apply pw_below_drewN | apply below_drew1 | refine below_set ?_ GE279.out | refine below_set ?_ GE280.out | refine below_set ?_ GE288.out | refine below_set ?_ GE297.out | refine below_set ?_ GE305.out | refine below_set ?_ GE313.out) | exact HB.out))) : w.heap.size ≤ gb319)); have n9_ := Aside0.mk ((by rw [hg]; exact (below_size (by repeat (first | (with_reducible first | exact HB.out | apply below_alloc | apply pw_below_drewN | apply below_drew1 | refine below_set ?_ GE279.out | refine below_set ?_ GE280.out | refine below_set ?_ GE288.out | refine below_set ?_ GE297.out | refine below_set ?_ GE305.out | refine below_set ?_ GE313.out) | exact HB.out))) : w.heap.size ≤ gb319)); have n10_ := Aside0.mk (nl hg BK279.out); have n11_ := Aside0.mk (ng hg BK279.out); have n12_ := Aside0.mk (nl hg BK280.out); have n13_ := Aside0.mk (ng hg BK280.out); have n14_ := Aside0.mk (nl hg BK288.out); have n15_ := Aside0.mk (ng hg BK288.out); have n16_ := Aside0.mk (nl hg BK297.out); have n17_ := Aside0.mk (ng hg BK297.out); have n18_ := Aside0.mk (nl hg BK305.out); have n19_ := Aside0.mk (ng hg BK305.out); have n20_ := Aside0.mk (nl hg BK313.out); have n21_ := Aside0.mk (ng hg BK313.out); clear BK279; clear BK280; clear BK288; clear BK297; clear BK305; clear BK313; clear HB; have BK279 := n0_; have BK280 := n1_; have BK288 := n2_; have BK297 := n3_; have BK305 := n4_; have BK313 := n5_; have HB := n6_; have BK319 := n7_; have GW319 := n8_; have GE319 := n9_; have NB279_319 := n10_; have NB319_279 := n11_; have NB280_319 := n12_; have NB319_280 := n13_; have NB288_319 := n14_; have NB319_288 := n15_; have NB297_319 := n16_; have NB319_297 := n17_; have NB305_319 := n18_; have NB319_305 := n19_; have NB313_319 := n20_; have NB319_313 := n21_; clear n0_ n1_ n2_ n3_ n4_ n5_ n6_ n7_ n8_ n9_ n10_ n11_ n12_ n13_ n14_ n15_ n16_ n17_ n18_ n19_ n20_ n21_; clear hb hbox hg; have hnb210 := NB319_279.out; have hnc210 := NB279_319.out; have hnb211 := NB319_280.out; have hnc211 := NB280_319.out; have hnb212 := NB319_288.out; have hnc212 := NB288_319.out; have hnb213 := NB319_297.out; have hnc213 := NB297_319.out; have hnb214 := NB319_305.out; have hnc214 := NB305_319.out; have hnb215 := NB319_313.out; have hnc215 := NB313_319.out; obtain ⟨hcz216_0, hcz216_1, hcz216_2, hcz216_3, hcz216_4, hcz216_5⟩ := blk6 BK319.out; obtain ⟨hfz216_0, hfz216_1, hfz216_2, hfz216_3, hfz216_4, hfz216_5⟩ := frz6 BK319.out; have hnb217 := NB297_279.out; have hnc217 := NB279_297.out; have hnb218 := NB297_280.out; have hnc218 := NB280_297.out; have hnb219 := NB297_288.out; have hnc219 := NB288_297.out; have hnb220 := NB297_305.out; have hnc220 := NB305_297.out; have hnb221 := NB297_313.out; have hnc221 := NB313_297.out; obtain ⟨hcz222_0, hcz222_1, hcz222_2, hcz222_3, hcz222_4, hcz222_5⟩ := blk6 BK297.out; obtain ⟨hfz222_0, hfz222_1, hfz222_2, hfz222_3, hfz222_4, hfz222_5⟩ := frz6 BK297.out; have hnb223 := NB305_279.out; have hnc223 := NB279_305.out; have hnb224 := NB305_280.out; have hnc224 := NB280_305.out; have hnb225 := NB305_288.out; have hnc225 := NB288_305.out; have hnb226 := NB305_313.out; have hnc226 := NB313_305.out; obtain ⟨hcz227_0, hcz227_1, hcz227_2, hcz227_3, hcz227_4, hcz227_5⟩ := blk6 BK305.out; obtain ⟨hfz227_0, hfz227_1, hfz227_2, hfz227_3, hfz227_4, hfz227_5⟩ := frz6 BK305.out; have hnb228 := NB313_279.out; have hnc228 := NB279_313.out; have hnb229 := NB313_280.out; have hnc229 := NB280_313.out; have hnb230 := NB313_288.out; have hnc230 := NB288_313.out; obtain ⟨hcz231_0, hcz231_1, hcz231_2, hcz231_3, hcz231_4, hcz231_5⟩ := blk6 BK313.out; obtain ⟨hfz231_0, hfz231_1, hfz231_2, hfz231_3, hfz231_4, hfz231_5⟩ := frz6 BK313.out))
               go_ret
               exact ⟨by first | rfl | (simp [errW_none, errW_some] <;> rfl) | (simp [*, errW_none, errW_some] <;> rfl), by repeat (first | (with_reducible first | exact HB.out | apply below_alloc | apply pw_below_drewN | apply below_drew1 | refine below_set ?_ GE279.out | refine below_set ?_ GE280.out | refine below_set ?_ GE288.out | refine below_set ?_ GE297.out | refine below_set ?_ GE305.out | refine below_set ?_ GE313.out | refine below_set ?_ GE319.out) | exact HB.out)⟩
              ·rw [if_neg c208] at H
               exact absurd H (by simp)
             ·rw [if_neg c207] at H
              exact absurd H (by simp)
            ·rw [if_neg c206] at H
             exact absurd H (by simp)
           ·rw [if_neg c205] at H
            exact absurd H (by simp)
          ·rw [if_neg c204] at H
           exact absurd H (by simp)
      exact aux2
  exact aux1

end Go.Proofs.Ytdopeneehminaaa.PSteerTells
