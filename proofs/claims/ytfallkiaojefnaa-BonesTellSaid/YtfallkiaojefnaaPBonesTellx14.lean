-- Printed by a program: the print with changes of this session (wip/printpatch.py).
import Derived.Test.YtfallkiaojefnaaPBonesTellx0
namespace Go.Proofs.Ytfallkiaojefnaa.PBonesTell
open Go.Proofs.Ytfallkiaojefnaa.Fnv Go.Proofs.Ytfallkiaojefnaa.Ary Go.Proofs.Ytfallkiaojefnaa.Ext
open Go.RowKit Go.Proofs.YtfallkiaojefnaaW.PrintWords Go.Proofs.YtfallkiaojefnaaW.PrintLast Go.Proofs.YtfallkiaojefnaaW.PrintMore
attribute [local go_sem] max2_int min2_int max_two min_two max_three min_three max_four min_four   -- for this text's walks alone
set_option linter.unusedVariables false
set_option linter.unusedSimpArgs false

/-! ### bones_Rest: function 11 -/
def bones_Rest.l0 : Nat → List (S37) → Int → Int → Option ((List (S37)))
 | 0, _, _, _ => none
 | k + 1, x3, x9, x10 => if x10 < x9 then (if 0 ≤ x10 then (if x10 < (x3.length : Int) then (bones_Rest.l0 k (x3.set (x10 : Int).toNat (⟨65536, (rd_T37 x3 x10).f1, (rd_T37 x3 x10).f2, (rd_T37 x3 x10).f3⟩ : S37)) x9 (wrap64 (x10 + 1))) else (none)) else (none)) else (some x3)
def bones_Rest.f (k : Nat) (l0 : List (S35)) : Option ((List (S37))) := if 0 ≤ (l0.length : Int) then (if ((l0.length : Int) : Int).toNat ≤ 8796093022208 then ((some (List.replicate ((l0.length : Int) : Int).toNat z37 : List (S37))).bind fun y252 => (bones_Rest.l0 k y252 (y252.length : Int) 0)) else (none)) else (none)
theorem bones_Rest.mono_l : ∀ k, (∀ y0 y1 y2, LeO (bones_Rest.l0 k y0 y1 y2) (bones_Rest.l0 (k + 1) y0 y1 y2))
 | 0 => fun _ _ _ r h => by simp [bones_Rest.l0] at h
 | k + 1 => by
  have ih0 := bones_Rest.mono_l k
  ·intro y0 y1 y2
   unfold bones_Rest.l0
   repeat' first
   | (with_reducible exact ih0 _ _ _)
   | (with_reducible exact LeO.refl _)
   | (with_reducible exact LeO.none _)
   | (with_reducible refine LeO.ite ?_ ?_)
   | (with_reducible refine LeO.bind ?_ (fun _ => ?_))
   | exact ih0 _ _ _
   | exact LeO.none _
   | refine LeO.ite ?_ ?_
   | refine LeO.bind ?_ (fun _ => ?_)
theorem bones_Rest.mono : ∀ a0 k, LeO (bones_Rest.f k a0) (bones_Rest.f (k + 1) a0) := by
 intro a0 k
 have ih0 := bones_Rest.mono_l k
 unfold bones_Rest.f
 repeat' first
   | (with_reducible exact ih0 _ _ _)
   | (with_reducible exact LeO.refl _)
   | (with_reducible exact LeO.none _)
   | (with_reducible refine LeO.ite ?_ ?_)
   | (with_reducible refine LeO.bind ?_ (fun _ => ?_))
   | exact ih0 _ _ _
   | exact LeO.none _
   | refine LeO.ite ?_ ?_
   | refine LeO.bind ?_ (fun _ => ?_)
set_option maxHeartbeats 8000000 in
set_option maxRecDepth 100000 in
theorem bones_Rest.calls (k : Nat) (A0 : Option Addr) (c0 : Nat) (l0 : List (S35)) (r : List (S37)) (w : World) (hr0 : Kd.C k35 w A0 l0.length l0) (hc0 : l0.length ≤ c0) (h : bones_Rest.f k l0 = some r) :
  Calls Try.prog 11 #[.slice A0 l0.length c0] w fun e w' => ∃ v0_ : Value, e = .returned (v0_) ∧ Kd.R k37 37 w' w.heap.size (fun _ => True) v0_ r ∧ Below w.heap.size w w' := by
 have HR0 := Aside0.mk hr0
 have HC0 := Aside0.mk hc0
 clear hr0 hc0
 have HB := Aside0.mk (Below.refl w.heap.size w)
 have H : (if 0 ≤ (l0.length : Int) then (if ((l0.length : Int) : Int).toNat ≤ 8796093022208 then ((some (List.replicate ((l0.length : Int) : Int).toNat z37 : List (S37))).bind fun y252 => (bones_Rest.l0 k y252 (y252.length : Int) 0)) else (none)) else (none)) = some r := h
 clear h
 by_cases c2 : 0 ≤ (l0.length : Int)
 ·rw [if_pos c2] at H
  have c2b0 := eq_true c2
  have c2b1 : decide (0 ≤ (l0.length : Int)) = true := decide_eq_true c2
  clear c2
  by_cases c3 : ((l0.length : Int) : Int).toNat ≤ 8796093022208
  ·rw [if_pos c3] at H
   have c3b0 := eq_true c3
   have c3b1 : decide (((l0.length : Int) : Int).toNat ≤ 8796093022208) = true := decide_eq_true c3
   clear c3
   obtain ⟨y252, hy252⟩ : ∃ y_ : List (S37), y_ = (List.replicate ((l0.length : Int) : Int).toNat z37) := ⟨_, rfl⟩
   replace H : (bones_Rest.l0 k y252 (y252.length : Int) 0) = some r := by first | (rw [hy252]; with_reducible exact H) | (have H2_ := (Option.bind_some _ _).symm.trans H; rw [hy252]; with_reducible exact H2_) | (have H2_ := (Option.bind_some _ _).symm.trans H; with_reducible exact H2_) | with_reducible exact H | (rw [hy252]; exact H) | exact H
   have Ny252 := Aside0.mk hy252
   clear hy252
   have H' := Aside0.mk H
   clear H
   go_enter Try.func11, Try.ntmps11
   go_wp2_with (first | ((with_reducible refine gate_dst (N := 7) rfl ?_); refine Kd.R_make k37 _ 37 rfl (N := 7) rfl 30 _ _ rfl (l0.length : Int) rfl rfl Try.underlying30 (.agg #[(.int .i64 0), (.int .i64 0), (.int .i64 0), (.int .i64 0)]) 32 info37 rfl (by decide) (by omega) z37 (ok := fun _ => True) (okp := fun _ => True) (k37_mkM _ _ _ z37 ) (fun _ hk => hk) trivial (of_decide_eq_true (by first | (with_reducible assumption) | assumption)) (Nat.le_trans (Nat.mul_le_mul_right _ (of_decide_eq_true (by first | (with_reducible assumption) | assumption) : (l0.length : Int).toNat ≤ 8796093022208)) (by omega)) (Below.refl _ _) (Nat.le_refl _) ?_; intro v253 w4 ho5 hb hg_ hnew_; clear hg_ hnew_; (first | rw [← Ny252.out] at ho5 | (simp only [Int.reduceToNat] at ho5; rw [← Ny252.out] at ho5)); have n0_ := Aside0.mk (Kd.R_lower ho5 (below_size (by repeat (first | (with_reducible first | exact HB.out | apply below_alloc | apply pw_below_drewN | apply below_drew1) | exact HB.out)))); have n1_ := Aside0.mk (below_step (by repeat (first | (with_reducible first | exact HB.out | apply below_alloc | apply pw_below_drewN | apply below_drew1) | exact HB.out)) hb); clear HB; have HO254 := n0_; have HB := n1_; clear n0_ n1_; clear hb ho5; obtain ⟨Ao6, co6, eo6⟩ := Kd.R_slice HO254.out; subst eo6))
   go_loopg [10] k (fun kq v10 w' => ∃ (x3_1 : List (S37)) (x10_1 : Int), v10 = .int .i64 x10_1 ∧ Aside0 (bones_Rest.l0 kq x3_1 (y252.length : Int) x10_1 = some r) ∧ Aside0 (kq ≤ k) ∧ Aside0 (Kd.R k37 37 w' w.heap.size (fun _ => True) (.slice Ao6 y252.length co6) x3_1) ∧ Aside0 (Below w.heap.size w w'))
   case atStart => exact ⟨(y252), (0), (by first | rfl | (simp; done) | (simp [*]; done)), H', ⟨Nat.le_refl _⟩, ⟨by (with_reducible repeat (first | apply Kd.R_alloc | apply Kd.R_drewN | apply Kd.R_drew)); exact HO254.out⟩, ⟨by repeat (first | (with_reducible first | exact HB.out | apply below_alloc | apply pw_below_drewN | apply below_drew1) | exact HB.out)⟩⟩
   case round =>
    clear H'
    try clear c1; try clear c2; try clear c2b0; try clear c2b1; try clear p2; try clear c3; try clear c3b0; try clear c3b1
    obtain ⟨x3_1, x10_1, rfl, HA, HK1, HO_3, HB⟩ := hrel
    have hl3_1 := (Kd.R_reads' HO_3.out).1
    rw [hl3_1] at HO_3
    (try simp only [hl3_1])
    cases gk with
    | zero => exact absurd HA.out (by simp [bones_Rest.l0])
    | succ k1 =>
     have H := HA.out
     clear HA
     simp only [bones_Rest.l0] at H
     by_cases c7 : x10_1 < (y252.length : Int)
     ·rw [if_pos c7] at H
      have c7b0 : decide (x10_1 < (y252.length : Int)) = true := decide_eq_true c7
      clear c7
      (try rw [hl3_1] at c7b0)
      by_cases c8 : 0 ≤ x10_1
      ·rw [if_pos c8] at H
       have c8b0 : decide (0 ≤ x10_1) = true := decide_eq_true c8
       clear c8
       by_cases c9 : x10_1 < (x3_1.length : Int)
       ·rw [if_pos c9] at H
        have c9b0 : decide (x10_1 < (x3_1.length : Int)) = true := decide_eq_true c9
        clear c9
        (try rw [hl3_1] at c9b0)
        obtain ⟨y255, hy255⟩ : ∃ y_ : List (S37), y_ = (x3_1.set (x10_1 : Int).toNat (⟨65536, (rd_T37 x3_1 x10_1).f1, (rd_T37 x3_1 x10_1).f2, (rd_T37 x3_1 x10_1).f3⟩ : S37)) := ⟨_, rfl⟩
        replace H : (bones_Rest.l0 k1 y255 (y252.length : Int) (wrap64 (x10_1 + 1))) = some r := by first | (rw [hy255]; with_reducible exact H) | (have H2_ := (Option.bind_some _ _).symm.trans H; rw [hy255]; with_reducible exact H2_) | (have H2_ := (Option.bind_some _ _).symm.trans H; with_reducible exact H2_) | with_reducible exact H | (rw [hy255]; exact H) | exact H
        have Ny255 := Aside0.mk hy255
        clear hy255
        have H' := Aside0.mk H
        clear H
        have p10 : 0 ≤ (x10_1 : Int) := of_decide_eq_true (by first | (with_reducible assumption) | assumption)
        have q10 : (x10_1 : Int) < ((x3_1.length : Int) : Int) := of_decide_eq_true (by first | (with_reducible assumption) | assumption)
        obtain ⟨go10, co10, eo10, gb10, gl10, cl10, HG10⟩ := Kd.R_form HO_3.out (by omega)
        (first | cases eo10 | (injection eo10 with ea_ en_ ec_; (first | subst ea_ | (injection ea_ with ea_; subst ea_)); subst ec_; clear en_))
        have GB10 := Aside0.mk gb10
        have GG10 := Aside0.mk HG10
        clear gb10 gl10 HG10
        obtain ⟨ce10, hcl10, hM10, hcc10, hfr10⟩ := Kd.R_elem HO_3.out z37 (x10_1 : Int) p10 q10
        obtain rfl := k37_openM hM10
        have hx10_0 : wr.cell? ⟨go10, (x10_1 : Int).toNat * 4, none⟩ = some (.int .i64 ((rd_T37 x3_1 x10_1).f0)) := hcc10 0 _ rfl
        have hx10_1 : wr.cell? ⟨go10, (x10_1 : Int).toNat * 4 + 1, none⟩ = some (.int .i64 ((rd_T37 x3_1 x10_1).f1)) := hcc10 1 _ rfl
        have hx10_2 : wr.cell? ⟨go10, (x10_1 : Int).toNat * 4 + 2, none⟩ = some (.int .i64 ((rd_T37 x3_1 x10_1).f2)) := hcc10 2 _ rfl
        have hx10_3 : wr.cell? ⟨go10, (x10_1 : Int).toNat * 4 + 3, none⟩ = some (.int .i64 ((rd_T37 x3_1 x10_1).f3)) := hcc10 3 _ rfl
        have hf10_0 : wr.frozen? ⟨go10, (x10_1 : Int).toNat * 4, none⟩ = false := hfr10 0
        have hf10_1 : wr.frozen? ⟨go10, (x10_1 : Int).toNat * 4 + 1, none⟩ = false := hfr10 1
        have hf10_2 : wr.frozen? ⟨go10, (x10_1 : Int).toNat * 4 + 2, none⟩ = false := hfr10 2
        have hf10_3 : wr.frozen? ⟨go10, (x10_1 : Int).toNat * 4 + 3, none⟩ = false := hfr10 3
        clear hcl10 hcc10 hfr10 hM10
        replace p10 := eq_true p10
        replace q10 := eq_true q10
        have HX11 := Aside0.mk (show Kd.R k37 37 wr w.heap.size (fun _ => True) (.slice (some ⟨go10, 0, none⟩) x3_1.length co6) x3_1 from (by (with_reducible repeat (first | apply Kd.R_alloc | apply Kd.R_drewN | apply Kd.R_drew)); exact HO_3.out))
        obtain ⟨ce11, hcl11, hM11, hcc11, hfr11⟩ := Kd.R_elem HX11.out z37 (x10_1 : Int) (of_decide_eq_true (by first | (with_reducible assumption) | assumption)) (by have h_ : (x10_1 : Int) < ((x3_1.length : Int) : Int) := of_decide_eq_true (by first | (with_reducible assumption) | assumption); first | exact h_ | (have e_ := (Kd.R_reads' HO_3.out).1; omega) | simpa using h_)
        obtain rfl := k37_openM hM11
        have HP11 := Kd.R_seg HX11.out (x10_1 : Int) (of_decide_eq_true (by first | (with_reducible assumption) | assumption)) (by have h_ : (x10_1 : Int) < ((x3_1.length : Int) : Int) := of_decide_eq_true (by first | (with_reducible assumption) | assumption); first | exact h_ | (have e_ := (Kd.R_reads' HO_3.out).1; omega) | simpa using h_) (seg := [.int .i64 65536]) (j := 0) hcl11 hcc11 (show 1 ≤ 4 from by decide) (x' := (⟨65536, (rd_T37 x3_1 x10_1).f1, (rd_T37 x3_1 x10_1).f2, (rd_T37 x3_1 x10_1).f3⟩ : S37)) (k37_mkM _ _ _ (⟨65536, (rd_T37 x3_1 x10_1).f1, (rd_T37 x3_1 x10_1).f2, (rd_T37 x3_1 x10_1).f3⟩ : S37) ) (fun _ hk => hk)
        have hx11_0 := hcc11 0 _ rfl
        (try simp only [show (k37).sz = 4 from rfl, Nat.mul_one, Nat.add_zero] at hx11_0)
        have hf11_0 := hfr11 0
        (try simp only [show (k37).sz = 4 from rfl, Nat.mul_one, Nat.add_zero] at hf11_0)
        clear hcl11 hcc11 hfr11 hM11
        go_wp2_with (first | ((with_reducible refine gate_store (t := 3) (p := 16) rfl ?_); refine store_event (t := 3) (p := 16) (v := ?vo_w12) (w1 := (wr.setCell ⟨go10, (x10_1 : Int).toNat * 4, none⟩ (.int .i64 65536))) ?hg ?ho ?hn ?hr ?_; (case ho => rfl); (case hg => rfl); (case hn => rfl); (case hr => first | (go_simp; done) | (go_simp; rfl)); intro w12 hw; have hg : wr.grownBy w12 (some go10) := (by rw [hw]; exact HP11.2); have hp_ : Kd.R k37 37 w12 w.heap.size (fun _ => True) (.slice (some ⟨go10, 0, none⟩) x3_1.length co6) y255 := (by rw [hw, Ny255.out]; exact HP11.1); clear HP11; have n0_ := Aside0.mk (hp_); have n1_ := Aside0.mk ((by rw [hw]; exact below_set (HB.out) GB10.out : Below w.heap.size w w12)); clear HO_3; clear HB; have HO_3 := n0_; have HB := n1_; clear n0_ n1_; clear hg hw hp_))
        (try simp only [← hl3_1])
        go_roundg k1
        case measure => have := HK1.out; omega
        case rel => exact ⟨(y255), (wrap64 (x10_1 + 1)), (by first | rfl | (simp; done) | (simp [*]; done)), H', ⟨by have := HK1.out; omega⟩, ⟨by (try simp only [hl3_1]); (with_reducible repeat (first | apply Kd.R_alloc | apply Kd.R_drewN | apply Kd.R_drew)); exact HO_3.out⟩, ⟨by repeat (first | (with_reducible first | exact HB.out | apply below_alloc | apply pw_below_drewN | apply below_drew1) | exact HB.out)⟩⟩
       ·rw [if_neg c9] at H
        exact absurd H (by simp)
      ·rw [if_neg c8] at H
       exact absurd H (by simp)
     ·rw [if_neg c7] at H
      have c7b0 : decide (x10_1 < (y252.length : Int)) = false := decide_eq_false c7
      clear c7
      (try rw [hl3_1] at c7b0)
      obtain rfl := Option.some.inj H
      go_wp2
      go_ret
      exact ⟨_, by first | rfl | (simp [errW_none, errW_some] <;> rfl) | (simp [*, errW_none, errW_some] <;> rfl), by (with_reducible repeat (first | apply Kd.R_alloc | apply Kd.R_drewN | apply Kd.R_drew)); exact HO_3.out, by repeat (first | (with_reducible first | exact HB.out | apply below_alloc | apply pw_below_drewN | apply below_drew1) | exact HB.out)⟩
  ·rw [if_neg c3] at H
   exact absurd H (by simp)
 ·rw [if_neg c2] at H
  exact absurd H (by simp)

end Go.Proofs.Ytfallkiaojefnaa.PBonesTell
