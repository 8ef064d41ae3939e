/- container/heap's up, down, Push and Pop over flow.fars. Under the conditions that stand at each. -/
import Derived.Test.YtmpfboilodlfnaaFlowMem
namespace Go.Proofs.Ytmpfboilodlfnaa.FlowUp
open Go Go.RowKit Go.Proofs.Ytmpfboilodlfnaa.Fnv Go.Proofs.YtmpfboilodlfnaaW.PrintWords Go.Proofs.YtmpfboilodlfnaaW.PrintLast Go.Proofs.YtmpfboilodlfnaaW.PrintMore Go.Proofs.Ytmpfboilodlfnaa.FlowHeap Go.Proofs.Ytmpfboilodlfnaa.FlowMem
set_option linter.unusedVariables false
set_option linter.unusedSimpArgs false
/-- What it hands back is a bool. -/
def RetB (e : Ending) : Prop := ∃ b, e = .returned (.bool b)
theorem upF_fuel : ∀ (k : Nat) (l : List Far) (j : Nat), j < k → upF k l j = upF (j + 1) l j
  | 0, _, _, h => by omega
  | k + 1, l, j, h => by
    unfold upF
    split
    · rfl
    · rename_i h0
      split
      · rfl
      · rw [upF_fuel k _ _ (by omega), ← upF_fuel j _ _ (by omega)]
theorem down_step (l : List Far) (i n p q j k : Nat) (hp : 2 * i + 1 = p) (hpn : p < n) (hq : p + 1 = q) (hj : (if q < n ∧ lt (at_ l q) (at_ l p) = true then q else p) = j) : downF (k + 1) l i n = if lt (at_ l j) (at_ l i) = false then l else downF k (swap l i j) j n := by
  rw [downF, if_neg (by omega)]
  dsimp only
  rw [show 2 * i + 2 = q by omega, hp, hj]
theorem up_step (l : List Far) (m : Nat) : upF (m + 1 + 1) l (m + 1) = if lt (at_ l (m + 1)) (at_ l (m / 2)) = false then l else upF (m / 2 + 1) (swap l (m / 2) (m + 1)) (m / 2) := by
  rw [upF, if_neg (by omega), show (m + 1 - 1) / 2 = m / 2 by omega]
  split
  · rfl
  · exact upF_fuel _ _ _ (by omega)
section
variable {w w' : World} {gh B : Nat} {l : List Far} {v : Value}
theorem FA.cz (h : FA w gh B l v) : w.cell? ⟨gh, 0, none⟩ = some v := (blk_cell h.box 0).trans rfl
theorem FA.val (h : FA w gh B l v) : v.cells = #[v] := by
  obtain ⟨_, ⟨rfl, _⟩ | ⟨_, _, _, rfl, _⟩⟩ := h.row <;> rfl
/-- Less and Swap, of the heap in memory. -/
theorem fa_less (h : FA w gh B l v) (hl : l.length ≤ 1000000000000) (i j : Nat) (hi : i < l.length) (hj : j < l.length) : Calls Try.prog 55 #[v, .int .i64 i, .int .i64 j] w fun e w' => e = .returned (.bool (lt (at_ l i) (at_ l j))) ∧ Below w.heap.size w w' := by
  obtain ⟨g, cap, tl, rfl, _, _, hr, _⟩ := h.open_ (by omega)
  exact less_any hr i j hi hj cap (by omega)
theorem fa_swap (h : FA w gh B l v) (hl : l.length ≤ 1000000000000) (i j : Nat) (hi : i < l.length) (hj : j < l.length) : Calls Try.prog 58 #[v, .int .i64 i, .int .i64 j] w fun e w' => e = .returned (.tuple #[]) ∧ FA w' gh B (swap l i j) v ∧ Ch B gh v v w w' := by
  obtain ⟨g, cap, tl, rfl, hB, hne, hr, hc, hm, hs⟩ := h.open_ (by omega)
  refine (swap_any hr i j hi hj cap (by omega)).mono ?_
  rintro e w' ⟨he, hr', hk⟩
  refine ⟨he, ⟨hk.blk h.box (fun e => hne e.symm), ?_, h.le, h.ne⟩, ⟨hk.bel.mono hB, ⟨hk.size, fun b hb h1 h2 => hk.block b hb (fun e => h2 (by simp [Value.ownBlock, e]))⟩, .inl rfl⟩⟩
  have e1 := swap_length l i j
  have e2 := own_of (n := l.length) hr' hB (by omega) (by omega) hm (by rw [List.length_append, flat_length, e1]; rw [List.length_append, flat_length] at hs; exact hs)
  rw [List.take_of_length_le (by omega)] at e2
  rw [e1]
  exact e2
end
set_option maxHeartbeats 4000000 in
set_option maxRecDepth 100000 in
theorem up_any {w : World} {gh B : Nat} {l : List Far} {v : Value} (hf : FA w gh B l v) (j : Nat) (hj : j < l.length) (hl : l.length ≤ 1000000000000) :
    Calls Try.prog 34 #[.iface tP (.pointer (some ⟨gh, 0, none⟩)), .int .i64 (j : Int)] w fun e w' => e = .returned (.tuple #[]) ∧ ∃ v', FA w' gh B (upF (j + 1) l j) v' ∧ Ch B gh v v' w w' := by
  obtain ⟨R, hR⟩ : ∃ R, upF (j + 1) l j = R := ⟨_, rfl⟩
  have HF := Aside0.mk hf
  have HC := Aside0.mk (Ch.refl (B := B) (gh := gh) v w)
  have HL := Aside0.mk hl
  have HJ := Aside0.mk hj
  rw [hR]
  have HR := Aside0.mk hR
  clear hf hl hj hR
  go_enter Try.func34, Try.ntmps34
  go_wp2
  go_loopg [1] j (fun kq v1 wr => ∃ (lr : List Far) (v' : Value), v1 = .int .i64 (kq : Int) ∧ Aside0 (kq < lr.length) ∧ Aside0 (lr.length ≤ 1000000000000) ∧ Aside0 (FA wr gh B lr v') ∧ Aside0 (Ch B gh v v' w wr) ∧ Aside0 (upF (kq + 1) lr kq = R))
  case atStart => exact ⟨l, v, rfl, HJ, HL, HF, HC, HR⟩
  case round =>
    clear HF HC HL HJ HR
    obtain ⟨lr, v', rfl, HJ, HL, HF, HC, HR⟩ := hrel
    cases gk with
    | zero =>
      have hw0 : wrap64 (((0 : Nat) : Int) - 1) = -1 := wrap_in (by omega) (by omega)
      go_wp2
      go_end0
      have h1 := HR.out
      rw [upF, if_pos rfl] at h1
      exact ⟨rfl, v', by rw [← h1]; exact HF.out, HC.out⟩
    | succ m =>
      obtain ⟨p, hp⟩ : ∃ p, m / 2 = p := ⟨_, rfl⟩
      have HP := Aside0.mk (show p < m + 1 from by omega)
      have hb1 : ((p : Int) == (m : Int) + 1) = false := by simp; omega
      have hb2 : ((p : Int) = (m : Int) + 1) = False := eq_false (by omega)
      have hm : wrap64 (m : Int) = m := wrap_in (by omega) (by have := HJ.out; have := HL.out; omega)
      have HM2 := Aside0.mk (show wrap64 ((m : Int) / 2) = (p : Int) from by rw [wrap_in (by omega) (by have := HJ.out; have := HL.out; omega)]; omega)
      have h1 := HR.out
      rw [up_step, hp] at h1
      clear hp
      obtain ⟨b, hb⟩ : ∃ b, lt (at_ lr (m + 1)) (at_ lr p) = b := ⟨_, rfl⟩
      have HLT := Aside0.mk hb
      rw [hb] at h1
      have HR := Aside0.mk h1
      clear h1 hb
      go_upto_region 1 with (fail)
      rw [HM2.out, show ((m + 1 : Nat) : Int) = (m : Int) + 1 from rfl]
      cases b with
      | false =>
        go_wp2_with (first | ((with_reducible refine gate_inv (name := "Less") rfl ?_); refine goesI_ (some 15) rfl (by rfl) Try.func55 (by kernel_rfl) rfl #[.int .i64 ((m : Int) + 1), .int .i64 (p : Int)] rfl rfl (meth_val "Less" _ find_less (FA.cz HF.out) (FA.val HF.out)) (by (simp only [List.map_toArray, List.map_cons, List.map_nil]); first | done | rfl) #[v', .int .i64 ((m : Int) + 1), .int .i64 (p : Int)] rfl ?_; (refine (show Calls Try.prog 55 #[v', .int .i64 ((m : Int) + 1), .int .i64 (p : Int)] _ _ from fa_less HF.out HL.out (m + 1) p HJ.out (by have h1 := HJ.out; have h2 := HP.out; omega)).mono ?_); rintro e w1 ⟨rfl, hb⟩; refine ⟨_, rfl, ?_⟩; have HC := Aside0.mk (HC.out.trans (Ch.of HF.out.lt hb)); have HF := Aside0.mk (HF.out.below hb); clear hb; rw [HLT.out]))
        go_end0
        have h1 := HR.out
        simp only [if_true] at h1
        exact ⟨rfl, v', by rw [← h1]; exact HF.out, HC.out⟩
      | true =>
        go_wp2_with (first | ((with_reducible refine gate_inv (name := "Less") rfl ?_); refine goesI_ (some 15) rfl (by rfl) Try.func55 (by kernel_rfl) rfl #[.int .i64 ((m : Int) + 1), .int .i64 (p : Int)] rfl rfl (meth_val "Less" _ find_less (FA.cz HF.out) (FA.val HF.out)) (by (simp only [List.map_toArray, List.map_cons, List.map_nil]); first | done | rfl) #[v', .int .i64 ((m : Int) + 1), .int .i64 (p : Int)] rfl ?_; (refine (show Calls Try.prog 55 #[v', .int .i64 ((m : Int) + 1), .int .i64 (p : Int)] _ _ from fa_less HF.out HL.out (m + 1) p HJ.out (by have h1 := HJ.out; have h2 := HP.out; omega)).mono ?_); rintro e w1 ⟨rfl, hb⟩; refine ⟨_, rfl, ?_⟩; have HC := Aside0.mk (HC.out.trans (Ch.of HF.out.lt hb)); have HF := Aside0.mk (HF.out.below hb); clear hb; rw [HLT.out]) | ((with_reducible refine gate_inv (name := "Swap") rfl ?_); refine goesI_ (some 21) rfl (by rfl) Try.func58 (by kernel_rfl) rfl #[.int .i64 (p : Int), .int .i64 ((m : Int) + 1)] rfl rfl (meth_val "Swap" _ find_swap (FA.cz HF.out) (FA.val HF.out)) (by (simp only [List.map_toArray, List.map_cons, List.map_nil]); first | done | rfl) #[v', .int .i64 (p : Int), .int .i64 ((m : Int) + 1)] rfl ?_; (refine (show Calls Try.prog 58 #[v', .int .i64 (p : Int), .int .i64 ((m : Int) + 1)] _ _ from fa_swap HF.out HL.out p (m + 1) (by have h1 := HJ.out; have h2 := HP.out; omega) HJ.out).mono ?_); rintro e w2 ⟨rfl, hf, hc⟩; refine ⟨_, rfl, ?_⟩; have HC := Aside0.mk (HC.out.trans hc); have HF := Aside0.mk hf; clear hf hc))
        go_roundg p
        case measure => have := HP.out; omega
        case rel =>
          have h1 := HR.out
          simp only [Bool.true_eq_false, if_false] at h1
          exact ⟨_, _, rfl, ⟨by rw [swap_length]; have h2 := HJ.out; have h3 := HP.out; omega⟩, ⟨by rw [swap_length]; exact HL.out⟩, HF, HC, ⟨h1⟩⟩
set_option maxHeartbeats 4000000 in
set_option maxRecDepth 100000 in
theorem down_any {w : World} {gh B : Nat} {l : List Far} {v : Value} (hf : FA w gh B l v) (n : Nat) (hn : n ≤ l.length) (hl : l.length ≤ 1000000000000) (K : Nat) (hK : n ≤ K) :
    Calls Try.prog 35 #[.iface tP (.pointer (some ⟨gh, 0, none⟩)), .int .i64 0, .int .i64 (n : Int)] w fun e w' => RetB e ∧ ∃ v', FA w' gh B (downF K l 0 n) v' ∧ Ch B gh v v' w w' := by
  obtain ⟨R, hR⟩ : ∃ R, downF K l 0 n = R := ⟨_, rfl⟩
  have HF := Aside0.mk hf
  have HC := Aside0.mk (Ch.refl (B := B) (gh := gh) v w)
  have HL := Aside0.mk hl
  have HNL := Aside0.mk hn
  have HK := Aside0.mk hK
  rw [hR]
  have HR := Aside0.mk hR
  clear hf hl hn hR hK
  go_enter Try.func35, Try.ntmps35
  go_wp2
  go_loopg [7] K (fun kq v7 wr => ∃ (i : Nat) (lr : List Far) (v' : Value), v7 = .int .i64 (i : Int) ∧ Aside0 (n ≤ i + kq ∧ i ≤ n) ∧ Aside0 (n ≤ lr.length) ∧ Aside0 (lr.length ≤ 1000000000000) ∧ Aside0 (FA wr gh B lr v') ∧ Aside0 (Ch B gh v v' w wr) ∧ Aside0 (downF kq lr i n = R))
  case atStart => exact ⟨0, l, v, rfl, ⟨by have := HK.out; omega, Nat.zero_le _⟩, HNL, HL, HF, HC, HR⟩
  case round =>
    clear HF HC HL HNL HR HK
    obtain ⟨i, lr, v', rfl, HK, HNL, HL, HF, HC, HR⟩ := hrel
    obtain ⟨p, hp⟩ : ∃ p, 2 * i + 1 = p := ⟨_, rfl⟩
    have HP := Aside0.mk hp
    have hi0 : (i : Int) ≤ 1000000000000 := by have h1 := HK.out; have h2 := HNL.out; have h3 := HL.out; omega
    have HJ1 := Aside0.mk (show 2 * (i : Int) + 1 = (p : Int) from by omega)
    clear hp
    go_upto_region 3 with (fail)
    rw [HJ1.out]
    clear hi0
    by_cases hpn : p < n
    · have HP2 := Aside0.mk hpn
      obtain ⟨q, hq⟩ : ∃ q, p + 1 = q := ⟨_, rfl⟩
      have HQ0 := Aside0.mk hq
      have HJ2 := Aside0.mk (show (p : Int) + 1 = (q : Int) from by omega)
      have q1 : (n ≤ p) = False := eq_false (by omega)
      have hp0 : (p : Int) ≤ 1000000000000 := by have h1 := HK.out; have h2 := HNL.out; have h3 := HL.out; omega
      obtain ⟨kz, hkz⟩ : ∃ kz, gk = kz + 1 := ⟨gk - 1, by have h1 := HK.out; have h2 := HP.out; omega⟩
      subst hkz
      clear hpn hq
      go_upto_region 6 with (fail)
      rw [HJ2.out]
      clear hp0 q1
      by_cases hqn : q < n
      · have HQ := Aside0.mk hqn
        have q0 : (q < n) = True := eq_true hqn
        obtain ⟨b2, hb⟩ : ∃ b2, lt (at_ lr q) (at_ lr p) = b2 := ⟨_, rfl⟩
        have HLQ := Aside0.mk hb
        clear hb
        cases b2 with
        | false =>
          have h1 := HR.out
          rw [down_step lr i n p q p kz HP.out HP2.out HQ0.out (by rw [HLQ.out, if_neg (by simp)])] at h1
          clear hqn
          obtain ⟨b, hb⟩ : ∃ b, lt (at_ lr p) (at_ lr i) = b := ⟨_, rfl⟩
          have HLT := Aside0.mk hb
          rw [hb] at h1
          have HR := Aside0.mk h1
          clear h1 hb
          cases b with
          | false =>
            go_wp2_with (first | ((with_reducible refine gate_inv (name := "Less") rfl ?_); refine goesI_ (some 32) rfl (by rfl) Try.func55 (by kernel_rfl) rfl #[.int .i64 (q : Int), .int .i64 (p : Int)] rfl rfl (meth_val "Less" _ find_less (FA.cz HF.out) (FA.val HF.out)) (by (simp only [List.map_toArray, List.map_cons, List.map_nil]); first | done | rfl) #[v', .int .i64 (q : Int), .int .i64 (p : Int)] rfl ?_; (refine (fa_less HF.out HL.out q p (by have h1 := HQ.out; have h2 := HNL.out; omega) (by have h1 := HP2.out; have h2 := HNL.out; omega)).mono ?_); rintro e w32 ⟨rfl, hb⟩; refine ⟨_, rfl, ?_⟩; have HC := Aside0.mk (HC.out.trans (Ch.of HF.out.lt hb)); have HF := Aside0.mk (HF.out.below hb); clear hb; rw [HLQ.out]) | ((with_reducible refine gate_inv (name := "Less") rfl ?_); refine goesI_ (some 38) rfl (by rfl) Try.func55 (by kernel_rfl) rfl #[.int .i64 (p : Int), .int .i64 (i : Int)] rfl rfl (meth_val "Less" _ find_less (FA.cz HF.out) (FA.val HF.out)) (by (simp only [List.map_toArray, List.map_cons, List.map_nil]); first | done | rfl) #[v', .int .i64 (p : Int), .int .i64 (i : Int)] rfl ?_; (refine (fa_less HF.out HL.out p i (by have h1 := HP2.out; have h2 := HNL.out; omega) (by have h1 := HP.out; have h2 := HP2.out; have h3 := HNL.out; omega)).mono ?_); rintro e w38 ⟨rfl, hb⟩; refine ⟨_, rfl, ?_⟩; have HC := Aside0.mk (HC.out.trans (Ch.of HF.out.lt hb)); have HF := Aside0.mk (HF.out.below hb); clear hb; rw [HLT.out]))
            refine bodyPost_ret (v := .bool (decide (0 < i))) (by simp [results, Try.results35, go_sem]) rfl ?_
            have h1 := HR.out
            simp only [if_true] at h1
            have HF := Aside0.mk (show FA w38 gh B R v' from by rw [← h1]; exact HF.out)
            exact ⟨⟨_, rfl⟩, v', HF.out, HC.out⟩
          | true =>
            go_wp2_with (first | ((with_reducible refine gate_inv (name := "Less") rfl ?_); refine goesI_ (some 32) rfl (by rfl) Try.func55 (by kernel_rfl) rfl #[.int .i64 (q : Int), .int .i64 (p : Int)] rfl rfl (meth_val "Less" _ find_less (FA.cz HF.out) (FA.val HF.out)) (by (simp only [List.map_toArray, List.map_cons, List.map_nil]); first | done | rfl) #[v', .int .i64 (q : Int), .int .i64 (p : Int)] rfl ?_; (refine (fa_less HF.out HL.out q p (by have h1 := HQ.out; have h2 := HNL.out; omega) (by have h1 := HP2.out; have h2 := HNL.out; omega)).mono ?_); rintro e w32 ⟨rfl, hb⟩; refine ⟨_, rfl, ?_⟩; have HC := Aside0.mk (HC.out.trans (Ch.of HF.out.lt hb)); have HF := Aside0.mk (HF.out.below hb); clear hb; rw [HLQ.out]) | ((with_reducible refine gate_inv (name := "Less") rfl ?_); refine goesI_ (some 38) rfl (by rfl) Try.func55 (by kernel_rfl) rfl #[.int .i64 (p : Int), .int .i64 (i : Int)] rfl rfl (meth_val "Less" _ find_less (FA.cz HF.out) (FA.val HF.out)) (by (simp only [List.map_toArray, List.map_cons, List.map_nil]); first | done | rfl) #[v', .int .i64 (p : Int), .int .i64 (i : Int)] rfl ?_; (refine (fa_less HF.out HL.out p i (by have h1 := HP2.out; have h2 := HNL.out; omega) (by have h1 := HP.out; have h2 := HP2.out; have h3 := HNL.out; omega)).mono ?_); rintro e w38 ⟨rfl, hb⟩; refine ⟨_, rfl, ?_⟩; have HC := Aside0.mk (HC.out.trans (Ch.of HF.out.lt hb)); have HF := Aside0.mk (HF.out.below hb); clear hb; rw [HLT.out]) | ((with_reducible refine gate_inv (name := "Swap") rfl ?_); refine goesI_ (some 43) rfl (by rfl) Try.func58 (by kernel_rfl) rfl #[.int .i64 (i : Int), .int .i64 (p : Int)] rfl rfl (meth_val "Swap" _ find_swap (FA.cz HF.out) (FA.val HF.out)) (by (simp only [List.map_toArray, List.map_cons, List.map_nil]); first | done | rfl) #[v', .int .i64 (i : Int), .int .i64 (p : Int)] rfl ?_; (refine (fa_swap HF.out HL.out i p (by have h1 := HP.out; have h2 := HP2.out; have h3 := HNL.out; omega) (by have h1 := HP2.out; have h2 := HNL.out; omega)).mono ?_); rintro e w43 ⟨rfl, hf, hc⟩; refine ⟨_, rfl, ?_⟩; have HC := Aside0.mk (HC.out.trans hc); have HF := Aside0.mk hf; clear hf hc))
            go_roundg kz
            case measure => omega
            case rel =>
              have h1 := HR.out
              simp only [Bool.true_eq_false, if_false] at h1
              have h2 := HP.out; have h3 := HP2.out; have h4 := HK.out; have h5 := HQ0.out
              exact ⟨p, _, _, rfl, ⟨by omega, by omega⟩, ⟨by rw [swap_length]; exact HNL.out⟩, ⟨by rw [swap_length]; exact HL.out⟩, HF, HC, ⟨h1⟩⟩
        | true =>
          have h1 := HR.out
          rw [down_step lr i n p q q kz HP.out HP2.out HQ0.out (by rw [HLQ.out, if_pos ⟨hqn, rfl⟩])] at h1
          clear hqn
          obtain ⟨b, hb⟩ : ∃ b, lt (at_ lr q) (at_ lr i) = b := ⟨_, rfl⟩
          have HLT := Aside0.mk hb
          rw [hb] at h1
          have HR := Aside0.mk h1
          clear h1 hb
          cases b with
          | false =>
            go_wp2_with (first | ((with_reducible refine gate_inv (name := "Less") rfl ?_); refine goesI_ (some 32) rfl (by rfl) Try.func55 (by kernel_rfl) rfl #[.int .i64 (q : Int), .int .i64 (p : Int)] rfl rfl (meth_val "Less" _ find_less (FA.cz HF.out) (FA.val HF.out)) (by (simp only [List.map_toArray, List.map_cons, List.map_nil]); first | done | rfl) #[v', .int .i64 (q : Int), .int .i64 (p : Int)] rfl ?_; (refine (fa_less HF.out HL.out q p (by have h1 := HQ.out; have h2 := HNL.out; omega) (by have h1 := HP2.out; have h2 := HNL.out; omega)).mono ?_); rintro e w32 ⟨rfl, hb⟩; refine ⟨_, rfl, ?_⟩; have HC := Aside0.mk (HC.out.trans (Ch.of HF.out.lt hb)); have HF := Aside0.mk (HF.out.below hb); clear hb; rw [HLQ.out]) | ((with_reducible refine gate_inv (name := "Less") rfl ?_); refine goesI_ (some 38) rfl (by rfl) Try.func55 (by kernel_rfl) rfl #[.int .i64 (q : Int), .int .i64 (i : Int)] rfl rfl (meth_val "Less" _ find_less (FA.cz HF.out) (FA.val HF.out)) (by (simp only [List.map_toArray, List.map_cons, List.map_nil]); first | done | rfl) #[v', .int .i64 (q : Int), .int .i64 (i : Int)] rfl ?_; (refine (fa_less HF.out HL.out q i (by have h1 := HQ.out; have h2 := HNL.out; omega) (by have h1 := HP.out; have h2 := HP2.out; have h3 := HNL.out; omega)).mono ?_); rintro e w38 ⟨rfl, hb⟩; refine ⟨_, rfl, ?_⟩; have HC := Aside0.mk (HC.out.trans (Ch.of HF.out.lt hb)); have HF := Aside0.mk (HF.out.below hb); clear hb; rw [HLT.out]))
            refine bodyPost_ret (v := .bool (decide (0 < i))) (by simp [results, Try.results35, go_sem]) rfl ?_
            have h1 := HR.out
            simp only [if_true] at h1
            have HF := Aside0.mk (show FA w38 gh B R v' from by rw [← h1]; exact HF.out)
            exact ⟨⟨_, rfl⟩, v', HF.out, HC.out⟩
          | true =>
            go_wp2_with (first | ((with_reducible refine gate_inv (name := "Less") rfl ?_); refine goesI_ (some 32) rfl (by rfl) Try.func55 (by kernel_rfl) rfl #[.int .i64 (q : Int), .int .i64 (p : Int)] rfl rfl (meth_val "Less" _ find_less (FA.cz HF.out) (FA.val HF.out)) (by (simp only [List.map_toArray, List.map_cons, List.map_nil]); first | done | rfl) #[v', .int .i64 (q : Int), .int .i64 (p : Int)] rfl ?_; (refine (fa_less HF.out HL.out q p (by have h1 := HQ.out; have h2 := HNL.out; omega) (by have h1 := HP2.out; have h2 := HNL.out; omega)).mono ?_); rintro e w32 ⟨rfl, hb⟩; refine ⟨_, rfl, ?_⟩; have HC := Aside0.mk (HC.out.trans (Ch.of HF.out.lt hb)); have HF := Aside0.mk (HF.out.below hb); clear hb; rw [HLQ.out]) | ((with_reducible refine gate_inv (name := "Less") rfl ?_); refine goesI_ (some 38) rfl (by rfl) Try.func55 (by kernel_rfl) rfl #[.int .i64 (q : Int), .int .i64 (i : Int)] rfl rfl (meth_val "Less" _ find_less (FA.cz HF.out) (FA.val HF.out)) (by (simp only [List.map_toArray, List.map_cons, List.map_nil]); first | done | rfl) #[v', .int .i64 (q : Int), .int .i64 (i : Int)] rfl ?_; (refine (fa_less HF.out HL.out q i (by have h1 := HQ.out; have h2 := HNL.out; omega) (by have h1 := HP.out; have h2 := HP2.out; have h3 := HNL.out; omega)).mono ?_); rintro e w38 ⟨rfl, hb⟩; refine ⟨_, rfl, ?_⟩; have HC := Aside0.mk (HC.out.trans (Ch.of HF.out.lt hb)); have HF := Aside0.mk (HF.out.below hb); clear hb; rw [HLT.out]) | ((with_reducible refine gate_inv (name := "Swap") rfl ?_); refine goesI_ (some 43) rfl (by rfl) Try.func58 (by kernel_rfl) rfl #[.int .i64 (i : Int), .int .i64 (q : Int)] rfl rfl (meth_val "Swap" _ find_swap (FA.cz HF.out) (FA.val HF.out)) (by (simp only [List.map_toArray, List.map_cons, List.map_nil]); first | done | rfl) #[v', .int .i64 (i : Int), .int .i64 (q : Int)] rfl ?_; (refine (fa_swap HF.out HL.out i q (by have h1 := HP.out; have h2 := HP2.out; have h3 := HNL.out; omega) (by have h1 := HQ.out; have h2 := HNL.out; omega)).mono ?_); rintro e w43 ⟨rfl, hf, hc⟩; refine ⟨_, rfl, ?_⟩; have HC := Aside0.mk (HC.out.trans hc); have HF := Aside0.mk hf; clear hf hc))
            go_roundg kz
            case measure => omega
            case rel =>
              have h1 := HR.out
              simp only [Bool.true_eq_false, if_false] at h1
              have h2 := HP.out; have h3 := HP2.out; have h4 := HK.out; have h5 := HQ0.out
              exact ⟨q, _, _, rfl, ⟨by omega, by omega⟩, ⟨by rw [swap_length]; exact HNL.out⟩, ⟨by rw [swap_length]; exact HL.out⟩, HF, HC, ⟨h1⟩⟩
      · have hb1 : decide ((q : Int) < (n : Int)) = false := decide_eq_false (by omega)
        have h1 := HR.out
        rw [down_step lr i n p q p kz HP.out HP2.out HQ0.out (by rw [if_neg (fun h => hqn h.1)])] at h1
        have q0 : (q < n) = False := eq_false hqn
        clear hqn
        obtain ⟨b, hb⟩ : ∃ b, lt (at_ lr p) (at_ lr i) = b := ⟨_, rfl⟩
        have HLT := Aside0.mk hb
        rw [hb] at h1
        have HR := Aside0.mk h1
        clear h1 hb
        cases b with
        | false =>
          go_wp2_with (first | ((with_reducible refine gate_inv (name := "Less") rfl ?_); refine goesI_ (some 38) rfl (by rfl) Try.func55 (by kernel_rfl) rfl #[.int .i64 (p : Int), .int .i64 (i : Int)] rfl rfl (meth_val "Less" _ find_less (FA.cz HF.out) (FA.val HF.out)) (by (simp only [List.map_toArray, List.map_cons, List.map_nil]); first | done | rfl) #[v', .int .i64 (p : Int), .int .i64 (i : Int)] rfl ?_; (refine (fa_less HF.out HL.out p i (by have h1 := HP2.out; have h2 := HNL.out; omega) (by have h1 := HP.out; have h2 := HP2.out; have h3 := HNL.out; omega)).mono ?_); rintro e w38 ⟨rfl, hb⟩; refine ⟨_, rfl, ?_⟩; have HC := Aside0.mk (HC.out.trans (Ch.of HF.out.lt hb)); have HF := Aside0.mk (HF.out.below hb); clear hb; rw [HLT.out]))
          refine bodyPost_ret (v := .bool (decide (0 < i))) (by simp [results, Try.results35, go_sem]) rfl ?_
          have h1 := HR.out
          simp only [if_true] at h1
          have HF := Aside0.mk (show FA w38 gh B R v' from by rw [← h1]; exact HF.out)
          exact ⟨⟨_, rfl⟩, v', HF.out, HC.out⟩
        | true =>
          go_wp2_with (first | ((with_reducible refine gate_inv (name := "Less") rfl ?_); refine goesI_ (some 38) rfl (by rfl) Try.func55 (by kernel_rfl) rfl #[.int .i64 (p : Int), .int .i64 (i : Int)] rfl rfl (meth_val "Less" _ find_less (FA.cz HF.out) (FA.val HF.out)) (by (simp only [List.map_toArray, List.map_cons, List.map_nil]); first | done | rfl) #[v', .int .i64 (p : Int), .int .i64 (i : Int)] rfl ?_; (refine (fa_less HF.out HL.out p i (by have h1 := HP2.out; have h2 := HNL.out; omega) (by have h1 := HP.out; have h2 := HP2.out; have h3 := HNL.out; omega)).mono ?_); rintro e w38 ⟨rfl, hb⟩; refine ⟨_, rfl, ?_⟩; have HC := Aside0.mk (HC.out.trans (Ch.of HF.out.lt hb)); have HF := Aside0.mk (HF.out.below hb); clear hb; rw [HLT.out]) | ((with_reducible refine gate_inv (name := "Swap") rfl ?_); refine goesI_ (some 43) rfl (by rfl) Try.func58 (by kernel_rfl) rfl #[.int .i64 (i : Int), .int .i64 (p : Int)] rfl rfl (meth_val "Swap" _ find_swap (FA.cz HF.out) (FA.val HF.out)) (by (simp only [List.map_toArray, List.map_cons, List.map_nil]); first | done | rfl) #[v', .int .i64 (i : Int), .int .i64 (p : Int)] rfl ?_; (refine (fa_swap HF.out HL.out i p (by have h1 := HP.out; have h2 := HP2.out; have h3 := HNL.out; omega) (by have h1 := HP2.out; have h2 := HNL.out; omega)).mono ?_); rintro e w43 ⟨rfl, hf, hc⟩; refine ⟨_, rfl, ?_⟩; have HC := Aside0.mk (HC.out.trans hc); have HF := Aside0.mk hf; clear hf hc))
          go_roundg kz
          case measure => omega
          case rel =>
            have h1 := HR.out
            simp only [Bool.true_eq_false, if_false] at h1
            have h2 := HP.out; have h3 := HP2.out; have h4 := HK.out; have h5 := HQ0.out
            exact ⟨p, _, _, rfl, ⟨by omega, by omega⟩, ⟨by rw [swap_length]; exact HNL.out⟩, ⟨by rw [swap_length]; exact HL.out⟩, HF, HC, ⟨h1⟩⟩
    · have h1 := HR.out
      have hdone : lr = R := by
        cases gk with
        | zero => exact h1
        | succ kz => rw [downF, if_pos (by have h2 := HP.out; omega)] at h1; exact h1
      have q0 : (n ≤ p) = True := eq_true (by omega)
      clear h1 hpn
      go_wp2
      refine bodyPost_ret (v := .bool (decide (0 < i))) (by simp [results, Try.results35, go_sem]) rfl ?_
      exact ⟨⟨_, rfl⟩, v', by rw [← hdone]; exact HF.out, HC.out⟩
set_option maxHeartbeats 4000000 in
set_option maxRecDepth 100000 in
theorem heap_push {w : World} {gh B : Nat} {l : List Far} {v : Value} (hf : FA w gh B l v) (c k : Int) (hl : l.length < 1000000000000) :
    Calls Try.prog 27 #[.iface tP (.pointer (some ⟨gh, 0, none⟩)), .iface 52 (.agg #[.int .i64 c, .int .i64 k])] w fun e w' => e = .returned (.tuple #[]) ∧ ∃ v', FA w' gh B (pushF l (c, k)) v' ∧ Ch B gh v v' w w' := by
  have HF := Aside0.mk hf
  have HL := Aside0.mk hl
  clear hf hl
  go_enter Try.func27, Try.ntmps27
  go_upto_region 1 with (first | ((with_reducible refine gate_inv (name := "Push") rfl ?_); refine goesI_ (some 6) rfl (by rfl) Try.func57 (by kernel_rfl) rfl #[.iface 52 (.agg #[.int .i64 c, .int .i64 k])] rfl rfl (meth_ptr "Push" _ find_push _) (by (simp only [List.map_toArray, List.map_cons, List.map_nil]); first | done | rfl) #[.pointer (some ⟨gh, 0, none⟩), .iface 52 (.agg #[.int .i64 c, .int .i64 k])] rfl ?_; (refine (push_m HF.out c k (Nat.le_of_lt HL.out)).mono ?_); rintro e w6 ⟨rfl, v1, hf, hc⟩; refine ⟨_, rfl, ?_⟩; have HC := Aside0.mk hc; have HF := Aside0.mk hf; clear hf hc))
  obtain ⟨n, hn⟩ : ∃ n, l.length = n := ⟨_, rfl⟩
  have HN := Aside0.mk hn
  have hlen : (l ++ [(c, k)]).length = n + 1 := by simp [hn]
  have hw : wrap64 (n : Int) = (n : Int) := wrap_in (by omega) (by have := HL.out; omega)
  have HU := Aside0.mk (show Calls Try.prog 34 #[.iface tP (.pointer (some ⟨gh, 0, none⟩)), .int .i64 (wrap64 (n : Int))] w6 _ from by rw [hw]; exact up_any HF.out n (by rw [hlen]; omega) (by rw [hlen]; have := HL.out; omega))
  clear hw
  have HLEN := Aside0.mk hlen
  obtain ⟨A, cc, rfl⟩ := own_slice HF.out.row
  clear hn hlen
  go_wp2_with (first | ((with_reducible refine gate_inv (name := "Len") rfl ?_); refine goesI_ (some 9) rfl (by rfl) Try.func28 (by kernel_rfl) rfl #[] rfl rfl (meth_val "Len" _ find_len (FA.cz HF.out) (FA.val HF.out)) (by (simp only [List.map_toArray, List.map_cons, List.map_nil]); first | done | rfl) #[.slice A (l ++ [(c, k)]).length cc] rfl ?_; (refine (len_any A _ cc _).mono ?_); rintro e w9 ⟨rfl, rfl⟩; refine ⟨_, rfl, ?_⟩; rw [HLEN.out]) | ((with_reducible refine gate_callee (f := 34) rfl ?_); refine goesL_ (some 11) rfl rfl Try.func34 (by kernel_rfl) rfl #[.iface tP (.pointer (some ⟨gh, 0, none⟩)), .int .i64 (wrap64 (n : Int))] rfl (by (simp only [List.map_toArray, List.map_cons, List.map_nil]); first | done | rfl) ?_; (refine (HU.out).mono ?_); rintro e w11 ⟨rfl, v2, hf, hc⟩; refine ⟨_, rfl, ?_⟩; have HC := Aside0.mk (HC.out.trans hc); have HF := Aside0.mk hf; clear hf hc))
  go_end0
  refine ⟨rfl, v2, ?_, HC.out⟩
  have h := HF.out
  rw [← HN.out] at h
  exact h
set_option maxHeartbeats 4000000 in
set_option maxRecDepth 100000 in
theorem heap_pop {w : World} {gh B : Nat} {l : List Far} {v : Value} (hf : FA w gh B l v) (h0 : 0 < l.length) (hp : Heap l l.length) (hl : l.length ≤ 1000000000000) :
    Calls Try.prog 29 #[.iface tP (.pointer (some ⟨gh, 0, none⟩))] w fun e w' => e = .returned (.iface 52 (.agg #[.int .i64 (at_ l 0).1, .int .i64 (at_ l 0).2])) ∧ ∃ v', FA w' gh B (popF l) v' ∧ Ch B gh v v' w w' := by
  have HF := Aside0.mk hf
  have HL := Aside0.mk hl
  obtain ⟨n, hn⟩ : ∃ n, l.length = n + 1 := ⟨l.length - 1, by omega⟩
  have HN := Aside0.mk hn
  have HT := Aside0.mk (pop_tells l h0 hp).1
  obtain ⟨A, cc, rfl⟩ := own_slice hf.row
  have hw : wrap64 (n : Int) = (n : Int) := wrap_in (by omega) (by omega)
  have HW := Aside0.mk hw
  clear hf hl h0 hp hn hw
  go_enter Try.func29, Try.ntmps29
  go_upto_region 2 with (first | ((with_reducible refine gate_inv (name := "Len") rfl ?_); refine goesI_ (some 5) rfl (by rfl) Try.func28 (by kernel_rfl) rfl #[] rfl rfl (meth_val "Len" _ find_len (FA.cz HF.out) (FA.val HF.out)) (by (simp only [List.map_toArray, List.map_cons, List.map_nil]); first | done | rfl) #[.slice A l.length cc] rfl ?_; (refine (len_any A _ cc _).mono ?_); rintro e w5 ⟨rfl, rfl⟩; refine ⟨_, rfl, ?_⟩; rw [HN.out]))
  rw [HW.out]
  go_upto_region 3 with (first | ((with_reducible refine gate_inv (name := "Swap") rfl ?_); refine goesI_ (some 9) rfl (by rfl) Try.func58 (by kernel_rfl) rfl #[.int .i64 0, .int .i64 (n : Int)] rfl rfl (meth_val "Swap" _ find_swap (FA.cz HF.out) (FA.val HF.out)) (by (simp only [List.map_toArray, List.map_cons, List.map_nil]); first | done | rfl) #[.slice A l.length cc, .int .i64 0, .int .i64 (n : Int)] rfl ?_; (refine (show Calls Try.prog 58 #[.slice A l.length cc, .int .i64 0, .int .i64 (n : Int)] _ _ from fa_swap HF.out HL.out 0 n (by have := HN.out; omega) (by have := HN.out; omega)).mono ?_); rintro e w9 ⟨rfl, hf, hc⟩; refine ⟨_, rfl, ?_⟩; have HC := Aside0.mk hc; have HF := Aside0.mk hf; clear hf hc))
  have HD := Aside0.mk (down_any HF.out n (by rw [swap_length, HN.out]; omega) (by rw [swap_length]; exact HL.out) (n + 1) (by omega))
  go_upto_region 4 with (first | ((with_reducible refine gate_callee (f := 35) rfl ?_); refine goesL_ (some 12) rfl rfl Try.func35 (by kernel_rfl) rfl #[.iface tP (.pointer (some ⟨gh, 0, none⟩)), .int .i64 0, .int .i64 (n : Int)] rfl (by (simp only [List.map_toArray, List.map_cons, List.map_nil]); first | done | rfl) ?_; (refine (HD.out).mono ?_); rintro e w12 ⟨⟨b, rfl⟩, v3, hf, hc⟩; refine ⟨_, rfl, ?_⟩; have HC := Aside0.mk (HC.out.trans hc); have HF := Aside0.mk hf; clear hf hc))
  have hlen : (downF (n + 1) (swap l 0 n) 0 n).length = n + 1 := by rw [downF_length, swap_length, HN.out]
  have HP := Aside0.mk (pop_m HF.out (by rw [hlen]; omega) (by rw [hlen]; have h1 := HN.out; have h2 := HL.out; omega))
  have ht := HT.out
  rw [HN.out, Nat.add_sub_cancel] at ht
  rw [hlen, Nat.add_sub_cancel, ht] at HP
  have HPF := Aside0.mk (show (downF (n + 1) (swap l 0 n) 0 n).take n = popF l from by unfold popF; rw [HN.out, Nat.add_sub_cancel])
  rw [HPF.out] at HP
  clear hlen ht
  go_wp2_with (first | ((with_reducible refine gate_inv (name := "Pop") rfl ?_); refine goesI_ (some 14) rfl (by rfl) Try.func56 (by kernel_rfl) rfl #[] rfl rfl (meth_ptr "Pop" _ find_pop _) (by (simp only [List.map_toArray, List.map_cons, List.map_nil]); first | done | rfl) #[.pointer (some ⟨gh, 0, none⟩)] rfl ?_; (refine (HP.out).mono ?_); rintro e w14 ⟨rfl, v4, hf, hc⟩; refine ⟨_, rfl, ?_⟩; have HC := Aside0.mk (HC.out.trans hc); have HF := Aside0.mk hf; clear hf hc))
  go_ret
  exact ⟨rfl, v4, HF.out, HC.out⟩
end Go.Proofs.Ytmpfboilodlfnaa.FlowUp
