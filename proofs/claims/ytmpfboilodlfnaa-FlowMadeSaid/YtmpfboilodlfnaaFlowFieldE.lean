/- flow.Field where it refuses: a wrong grid, a goal that is none. Under the conditions that stand at each. -/
import Derived.Test.YtmpfboilodlfnaaFlowField
namespace Go.Proofs.Ytmpfboilodlfnaa.FlowFieldE
open Go Go.RowKit Go.Proofs.Ytmpfboilodlfnaa.Fnv Go.Proofs.YtmpfboilodlfnaaW.PrintWords Go.Proofs.YtmpfboilodlfnaaW.PrintLast Go.Proofs.YtmpfboilodlfnaaW.PrintMore Go.Proofs.Ytmpfboilodlfnaa.FlowHeap Go.Proofs.Ytmpfboilodlfnaa.FlowMem Go.Proofs.Ytmpfboilodlfnaa.FlowUp Go.Proofs.Ytmpfboilodlfnaa.FlowSol Go.Proofs.Ytmpfboilodlfnaa.FlowField
set_option linter.unusedVariables false
set_option linter.unusedSimpArgs false
set_option maxHeartbeats 4000000 in
set_option maxRecDepth 100000 in
theorem field_bad {W H : Int} (N : Nat) (A : Option Addr) (c : Nat) (v1 : Value) (chk : Int) (hne : chk ≠ 0) {w : World}
    (hCheck : ∀ w', Below w.heap.size w w' → Calls Try.prog 17 #[.agg #[.int .i64 W, .int .i64 H, .slice A N c]] w' fun e w2 => e = .returned (.int .i64 chk) ∧ Below w'.heap.size w' w2) :
    Calls Try.prog 10 #[.agg #[.int .i64 W, .int .i64 H, .slice A N c], v1] w fun e w' => e = .returned (.tuple #[.slice none 0 0, .int .i64 chk]) ∧ Below w.heap.size w w' := by
  have HC := Aside0.mk hCheck
  have hb1 : (chk != 0) = true := bne_iff_ne.mpr hne
  have q0 : (chk = 0) = False := eq_false hne
  have HB := Aside0.mk (Below.refl w.heap.size w)
  clear hCheck hne
  go_enter Try.func10, Try.ntmps10
  go_wp2_with (first | ((with_reducible refine gate_dst (N := 2) rfl ?_); refine box_event ?hg (N := 2) ?hd (cs := #[.int .i64 W, .int .i64 H, .slice A N c]) (t := 25) ?hr ?_; (case hd => rfl); (case hg => rfl); (case hr => first | (go_simp; done) | (go_simp; rfl)); intro gb hg w2 hbox hb; have BK := Aside0.mk hbox; have HB := Aside0.mk hb; have cb0 := (blk_cell BK.out 0).trans rfl; have cb1 := (blk_cell BK.out 1).trans rfl; have cb2 := (blk_cell BK.out 2).trans rfl; clear hg hbox hb) | ((with_reducible refine gate_callee (f := 17) rfl ?_); refine goesL_ (some 18) rfl rfl Try.func17 (by kernel_rfl) rfl #[.agg #[.int .i64 W, .int .i64 H, .slice A N c]] rfl (by (simp only [List.map_toArray, List.map_cons, List.map_nil]); first | done | rfl) ?_; (refine (HC.out _ HB.out).mono ?_); rintro e w3 ⟨rfl, hb⟩; refine ⟨_, rfl, ?_⟩; have HB := Aside0.mk (HB.out.trans (hb.mono HB.out.size)); clear hb cb0 cb1 cb2))
  refine bodyPost_ret (v := .tuple #[.slice none 0 0, .int .i64 chk]) (by simp [results, Try.results10, go_sem]) rfl ?_
  exact ⟨rfl, HB.out⟩
theorem first_bad {goals : List Int} {M : Int} (h : ∃ i ∈ goals, ¬ (0 ≤ i ∧ i < M)) : ∃ m : Nat, m < goals.length ∧ ¬ (0 ≤ rd goals (m : Int) ∧ rd goals (m : Int) < M) ∧ ∀ j, j < m → 0 ≤ rd goals (j : Int) ∧ rd goals (j : Int) < M := by
  induction goals with
  | nil => obtain ⟨i, hi, _⟩ := h; simp at hi
  | cons x l ih =>
    by_cases hx : 0 ≤ x ∧ x < M
    · obtain ⟨m, h1, h2, h3⟩ := ih (by
        obtain ⟨i, hi, hb⟩ := h
        rcases List.mem_cons.1 hi with rfl | hi
        · exact absurd hx hb
        · exact ⟨i, hi, hb⟩)
      refine ⟨m + 1, by simp; omega, ?_, ?_⟩
      · have e : rd (x :: l) ((m + 1 : Nat) : Int) = rd l (m : Int) := by unfold rd; rw [Int.toNat_natCast, Int.toNat_natCast]; rfl
        rw [e]; exact h2
      · intro j hj
        cases j with
        | zero => exact hx
        | succ j =>
          have e : rd (x :: l) ((j + 1 : Nat) : Int) = rd l (j : Int) := by unfold rd; rw [Int.toNat_natCast, Int.toNat_natCast]; rfl
          rw [e]; exact h3 j (by omega)
    · exact ⟨0, by simp, hx, fun j hj => by omega⟩
set_option maxHeartbeats 8000000 in
set_option maxRecDepth 100000 in
theorem field_goal {W H : Int} {cost goals : List Int} (g : Grid W H cost) (A : Option Addr) (c : Nat) (A1 : Option Addr) (c1 : Nat) {w : World} (hc : Kd.C (Kd.int .i64) w A cost.length cost) (hg : Kd.C (Kd.int .i64) w A1 goals.length goals) (hin : ∃ i ∈ goals, ¬ (0 ≤ i ∧ i < W * H)) (hgl : goals.length ≤ 140737488355328)
    (hCheck : ∀ w', Below w.heap.size w w' → Calls Try.prog 17 #[.agg #[.int .i64 W, .int .i64 H, .slice A cost.length c]] w' fun e w2 => e = .returned (.int .i64 0) ∧ Below w'.heap.size w' w2)
    :
    Calls Try.prog 10 #[.agg #[.int .i64 W, .int .i64 H, .slice A cost.length c], .slice A1 goals.length c1] w fun e w' => e = .returned (.tuple #[.slice none 0 0, .int .i64 1]) ∧ Below w.heap.size w w' := by
  obtain ⟨N, hN⟩ : ∃ N, cost.length = N := ⟨_, rfl⟩
  have hbig := g.big
  have hlen := g.len
  have HG := Aside0.mk g
  have HNL := Aside0.mk hN
  have HC := Aside0.mk hCheck
  obtain ⟨ad, rfl, hcost⟩ := C_at hc (by omega)
  have HCO := Aside0.mk hcost
  have HGC := Aside0.mk hg
  have HGL := Aside0.mk hgl
  have HIN := Aside0.mk hin
  have HB := Aside0.mk (Below.refl w.heap.size w)
  rw [hN] at hlen hbig
  have HW1 := Aside0.mk (show wrap64 (W * H) = (N : Int) from by rw [← hlen, wrap_in (by omega) (by omega)])
  have HN := Aside0.mk hbig
  have HWH := Aside0.mk hlen
  clear g hCheck hc hg hin hgl hcost hlen hbig
  rw [hN]
  rw [hN] at HC
  clear hN
  go_enter Try.func10, Try.ntmps10
  go_upto_region 1 with (first | ((with_reducible refine gate_dst (N := 2) rfl ?_); refine box_event ?hg (N := 2) ?hd (cs := #[.int .i64 W, .int .i64 H, .slice (some ad) N c]) (t := 25) ?hr ?_; (case hd => rfl); (case hg => rfl); (case hr => first | (go_simp; done) | (go_simp; rfl)); intro gb hg w2 hbox hb; have HGB := Aside0.mk (Nat.le_of_eq hg.symm); have BK := Aside0.mk hbox; have HB := Aside0.mk hb; have cb0 := (blk_cell BK.out 0).trans rfl; have cb1 := (blk_cell BK.out 1).trans rfl; have cb2 := (blk_cell BK.out 2).trans rfl; clear hg hbox hb))
  go_upto_region 4 with (first | ((with_reducible refine gate_callee (f := 17) rfl ?_); refine goesL_ (some 18) rfl rfl Try.func17 (by kernel_rfl) rfl #[.agg #[.int .i64 W, .int .i64 H, .slice (some ad) N c]] rfl (by (simp only [List.map_toArray, List.map_cons, List.map_nil]); first | done | rfl) ?_; (refine (HC.out _ HB.out).mono ?_); rintro e w3 ⟨rfl, hb⟩; refine ⟨_, rfl, ?_⟩; have GLT := Aside0.mk (blk_lt BK.out); have BK := Aside0.mk (blk_below BK.out hb); have GSZ := Aside0.mk hb.size; have HB := Aside0.mk (HB.out.trans (hb.mono HB.out.size)); clear hb cb0 cb1 cb2; have cb0 := (blk_cell BK.out 0).trans rfl; have cb1 := (blk_cell BK.out 1).trans rfl; have cb2 := (blk_cell BK.out 2).trans rfl))
  go_upto_region 5 with (first | ((with_reducible refine gate_dst (N := 27) rfl ?_); refine make_event rfl rfl 22 3 (.tmp 26) (.tmp 26) rfl N _ HW1.out rfl rfl Try.underlying22 (by kernel_rfl) (by have := HN.out; omega) ?_; intro go hgo w4 hrow hb; have HGO := Aside0.mk (show w.heap.size ≤ go ∧ gb < go from by have h1 := GLT.out; have h2 := GSZ.out; have h3 := HGB.out; omega); have HR := Aside0.mk (show RowI w4 go (List.replicate N 0) from hrow); have BK := Aside0.mk (blk_below BK.out hb); have HB := Aside0.mk (HB.out.trans (hb.mono HB.out.size)); clear hgo hrow hb cb0 cb1 cb2))
  go_wp2
  go_loopg [30, 8] N (fun kq v30 v8 wr => ∃ (i : Nat) (out : List Int), v30 = .int .i64 (i : Int) ∧ Aside0 (i + kq = N ∧ out.length = N ∧ ∀ j, j < i → out[j]? = some (-1)) ∧ Aside0 (Below w.heap.size w wr) ∧ Aside0 (wr.heap[gb]? = some (.cells #[.int .i64 W, .int .i64 H, .slice (some ad) N c] 25 (0, 0))) ∧ Aside0 (RowI wr go out))
  case atStart => exact ⟨0, _, rfl, ⟨by omega, by simp, fun j h => by omega⟩, HB, BK, HR⟩
  case round =>
    clear HB BK HR
    obtain ⟨i, out, rfl, HI, HB, BK, HR⟩ := hrel
    cases gk with
    | succ kz =>
      have q0 : (i < N) = True := eq_true (by have := HI.out; omega)
      have hil : (i : Int) < out.length := by have := HI.out; omega
      have co := HR.out.at (i := (i : Int)) (by omega) hil
      rw [Int.toNat_natCast] at co
      have fo := blk_frozen HR.out i
      have hb0 : (i : Int) ≤ 5000 := by have h1 := HI.out; have h2 := HN.out; omega
      have ti : ((i : Int)).toNat = i := Int.toNat_natCast i
      clear hil
      go_wp2
      go_roundg kz
      case measure => omega
      case rel =>
        exact ⟨i + 1, _, rfl, ⟨by have := HI.out; omega, by rw [List.length_set]; exact HI.out.2.1, fun j hj => by
          rw [List.getElem?_set]
          have h1 := HI.out
          by_cases e : i = j
          · rw [if_pos e, if_pos (by omega)]
          · rw [if_neg e]; exact h1.2.2 j (by omega)⟩, ⟨HB.out.setCell (show w.heap.size ≤ go from HGO.out.1) _⟩, ⟨blk_far BK.out (by have := HGO.out; have := HGB.out; show gb ≠ go; omega) _⟩, ⟨HR.out.set i (-1)⟩⟩
    | zero =>
      have q0 : (i < N) = False := eq_false (by have := HI.out; omega)
      have HOUT := Aside0.mk (show out = List.replicate N (-1) from by
        apply List.ext_getElem?
        intro j
        have h1 := HI.out
        rw [List.getElem?_replicate]
        by_cases hj : j < N
        · rw [if_pos hj]; exact h1.2.2 j (by omega)
        · rw [if_neg hj, List.getElem?_eq_none (by omega)])
      go_upto_region 10 with (fail)
      obtain ⟨L, hL⟩ : ∃ L, goals.length = L := ⟨_, rfl⟩
      have HLN := Aside0.mk hL
      obtain ⟨m, hm, hmb, hmg⟩ := first_bad HIN.out
      rw [hL] at hm
      have HM := Aside0.mk (show m < L from hm)
      have HW2 := HWH.out
      rw [← HW2] at hmb hmg
      have HINN := Aside0.mk (show ∀ i, i < L → ∃ ad1 x, A1 = some ad1 ∧ x = rd goals (i : Int) ∧ ∀ w', Below w.heap.size w w' → w'.cell? (ad1.add i) = some (.int .i64 x) from by
        intro i hi
        obtain ⟨ad1, e, hg⟩ := C_at HGC.out (by omega)
        refine ⟨ad1, _, e, rfl, fun w' hb => ?_⟩
        have h1 := hg (i : Int) (by omega) (by omega)
        rw [Int.toNat_natCast] at h1
        exact pw_cell_below hb h1)
      have HMB := Aside0.mk hmb
      have HMG := Aside0.mk hmg
      rw [hL]
      clear hL HGC HIN hm hmb hmg HW2
      go_wp2
      go_loopg [39, 10] m (fun kq v39 v10 ws => ∃ i : Nat, v39 = .int .i64 (i : Int) ∧ wr = ws ∧ Aside0 (i + kq = m))
      case atStart => exact ⟨0, rfl, rfl, ⟨by omega⟩⟩
      case round =>
        obtain ⟨i, rfl, rfl, HI2⟩ := hrel
        have hil : i < L := by have h1 := HI2.out; have h2 := HM.out; omega
        obtain ⟨ad1, x, rfl, hx, hcell⟩ := HINN.out i hil
        have q0 : (i < L) = True := eq_true hil
        have cg := hcell _ HB.out
        have hib : (i : Int) ≤ 140737488355328 := by have h1 := HGL.out; have h2 := HLN.out; omega
        have ti : ((i : Int)).toNat = i := Int.toNat_natCast i
        cases gk with
        | succ kz =>
          obtain ⟨hx0, hx1⟩ := HMG.out i (by have := HI2.out; omega)
          rw [← hx] at hx0 hx1
          have q1 : (x < 0) = False := eq_false (by omega)
          have q2 : ((N : Int) ≤ x) = False := eq_false (by omega)
          clear hx hx0 hx1 hcell hil
          go_wp2
          go_roundg kz
          case measure => omega
          case rel => exact ⟨i + 1, by first | rfl | (go_num; done), rfl, ⟨by have := HI2.out; omega⟩⟩
        | zero =>
          have e : i = m := by have := HI2.out; omega
          have hb := HMB.out
          rw [← e, ← hx] at hb
          by_cases hx0 : x < 0
          · have q1 : (x < 0) = True := eq_true hx0
            clear hx hx0 hcell hil e hb
            go_wp2
            refine bodyPost_ret (v := .tuple #[.slice none 0 0, .int .i64 1]) (by simp [results, Try.results10, go_sem]) rfl ?_
            exact ⟨rfl, HB.out⟩
          · have q1 : (x < 0) = False := eq_false hx0
            have q2 : ((N : Int) ≤ x) = True := eq_true (by omega)
            clear hx hx0 hcell hil e hb
            go_wp2
            refine bodyPost_ret (v := .tuple #[.slice none 0 0, .int .i64 1]) (by simp [results, Try.results10, go_sem]) rfl ?_
            exact ⟨rfl, HB.out⟩
end Go.Proofs.Ytmpfboilodlfnaa.FlowFieldE
