-- Printed by a program: the print with changes of this session (wip/printpatch.py).
import Derived.Test.YtmpfboilodlfnaaPFlowMadex0
namespace Go.Proofs.Ytmpfboilodlfnaa.PFlowMade
open Go.Proofs.Ytmpfboilodlfnaa.Fnv Go.Proofs.Ytmpfboilodlfnaa.Ary
open Go.RowKit Go.Proofs.YtmpfboilodlfnaaW.PrintWords Go.Proofs.YtmpfboilodlfnaaW.PrintLast Go.Proofs.YtmpfboilodlfnaaW.PrintMore
attribute [local go_sem] max2_int min2_int max_two min_two max_three min_three max_four min_four   -- for this text's walks alone
set_option linter.unusedVariables false
set_option linter.unusedSimpArgs false

/-! ### slices_ContainsFunc_int_int: function 20 -/
-- kinds=22,25
def slices_ContainsFunc_int_int.bad (n : Nat) (c : Int) : Bool := decide (c < 0 ∨ c ≥ (n : Int))
def slices_ContainsFunc_int_int.f (l0 : List Int) (_W : Int) (_H : Int) (l1_2 : List Int) : Option Bool := if l0.length ≤ 1000000000 then some (l0.any (slices_ContainsFunc_int_int.bad l1_2.length)) else none
set_option maxHeartbeats 1000000 in
theorem slices_ContainsFunc_int_int.one (c : Int) (n : Nat) (gb : Nat) (A : Option Addr) (k : Nat) (w : World) (hb : w.cell? ⟨gb, 2, none⟩ = some (.slice A n k)) : Calls Try.prog 21 #[.int .i64 c, .pointer (some ⟨gb, 0, none⟩)] w fun e w' => e = .returned (.bool (slices_ContainsFunc_int_int.bad n c)) ∧ w' = w := by
 unfold slices_ContainsFunc_int_int.bad
 by_cases h1 : c < 0
 ·have q1 : (c < 0) = True := eq_true h1
  have e : decide (c < 0 ∨ c ≥ (n : Int)) = true := decide_eq_true (.inl h1)
  rw [e]
  clear e h1
  go_enter Try.func21, Try.ntmps21
  go_wp2
  go_ret
  exact ⟨rfl, rfl⟩
 ·have q1 : (c < 0) = False := eq_false h1
  have e : decide (c < 0 ∨ c ≥ (n : Int)) = decide ((n : Int) ≤ c) := decide_eq_decide.2 (by omega)
  rw [e]
  clear e h1
  go_enter Try.func21, Try.ntmps21
  go_wp2
  go_ret
  exact ⟨rfl, rfl⟩
theorem slices_ContainsFunc_int_int.tells {w : World} {W H : Int} (A : Option Addr) (c : Nat) (n : Nat) (l0 : List Int) {gb : Nat} (hb : w.heap[gb]? = some (.cells #[.int .i64 W, .int .i64 H, .slice A n c] 25 (0, 0))) : FlowFunc.Tells w l0 21 #[.pointer (some ⟨gb, 0, none⟩)] Try.f21 (slices_ContainsFunc_int_int.bad n) where
 hf := Try.func21
 hname := by kernel_rfl
 hb := rfl
 ask := fun w' x hB _ => by
  have hb' := blk_below hb hB
  exact (slices_ContainsFunc_int_int.one x n gb A c w' ((blk_cell hb' 2).trans rfl)).mono fun e w2 h => ⟨h.1, by rw [h.2]; exact Below.refl _ _⟩
theorem slices_ContainsFunc_int_int.calls (A0 : Option Addr) (c0 : Nat) (l0 : List Int) (W : Int) (H : Int) (A1_2 : Option Addr) (c1_2 : Nat) (l1_2 : List Int) (r : Bool) (w : World) (hr0 : Kd.C (Kd.int .i64) w A0 l0.length l0) (_hc0 : l0.length ≤ c0) (_hr1 : Kd.C (Kd.int .i64) w A1_2 l1_2.length l1_2) (_hc1 : l1_2.length ≤ c1_2) (h : slices_ContainsFunc_int_int.f l0 W H l1_2 = some r) {gb : Nat} (hb : w.heap[gb]? = some (.cells #[.int .i64 W, .int .i64 H, .slice A1_2 l1_2.length c1_2] 25 (0, 0))) :
 Calls Try.prog 20 #[.slice A0 l0.length c0, .func (.func 21) #[] #[.pointer (some ⟨gb, 0, none⟩)]] w fun e w' => e = .returned (.bool r) ∧ Below w.heap.size w w' := by
 unfold slices_ContainsFunc_int_int.f at h
 by_cases hl : l0.length ≤ 1000000000
 ·rw [if_pos hl] at h
  obtain rfl := Option.some.inj h
  exact FlowFunc.contains_any (slices_ContainsFunc_int_int.tells A1_2 c1_2 l1_2.length l0 hb) c0 hr0 (by omega)
 ·rw [if_neg hl] at h; cases h

-- NOT PRINTED: function 21 (tourlaw5_FlowTells_1)

/-! ### bits_Mul32: function 37 -/
def bits_Mul32.f (a0 : Int) (a1 : Int) : Option (Int × Int) := some (((IntKind.u64.wrap ((IntKind.u64.wrap (a0)) * (IntKind.u64.wrap (a1)))) / 4294967296) % 4294967296, (IntKind.u64.wrap ((IntKind.u64.wrap (a0)) * (IntKind.u64.wrap (a1)))) % 4294967296)
set_option maxHeartbeats 8000000 in
set_option maxRecDepth 100000 in
theorem bits_Mul32.calls (a0 : Int) (a1 : Int) (r1 : Int) (r2 : Int) (w : World) (h : bits_Mul32.f a0 a1 = some (r1, r2)) :
  Calls Try.prog 37 #[.int .u32 a0, .int .u32 a1] w fun e w' => e = .returned (.tuple #[.int .u32 r1, .int .u32 r2]) ∧ Drawn0 w w' := by
 have H : (some (((IntKind.u64.wrap ((IntKind.u64.wrap (a0)) * (IntKind.u64.wrap (a1)))) / 4294967296) % 4294967296, (IntKind.u64.wrap ((IntKind.u64.wrap (a0)) * (IntKind.u64.wrap (a1)))) % 4294967296)) = some (r1, r2) := h
 clear h
 simp only [Option.some.injEq, Prod.mk.injEq] at H
 obtain ⟨rfl, rfl⟩ := H
 go_enter Try.func37, Try.ntmps37
 go_wp2
 go_ret2
 exact ⟨by first | rfl | (simp; done) | (simp [*]; done), by repeat (first | exact Drawn0.refl _ | apply Drawn0.step)⟩

/-! ### bits_Mul64: function 38 -/
-- the shelf's contract
def bits_Mul64.f (a0 : Int) (a1 : Int) : Option (Int × Int) := if (0 ≤ a0 ∧ a0 ≤ 18446744073709551615) ∧ 0 ≤ a1 ∧ a1 ≤ 18446744073709551615 then some (a0 * a1 / 18446744073709551616, a0 * a1 % 18446744073709551616) else none
theorem bits_Mul64.calls (a0 : Int) (a1 : Int) (r1 : Int) (r2 : Int) (w : World) (h : bits_Mul64.f a0 a1 = some (r1, r2)) :
  Calls Try.prog 38 #[.int .u64 a0, .int .u64 a1] w fun e w' => e = .returned (.tuple #[.int .u64 r1, .int .u64 r2]) ∧ Drawn0 w w' := by
 unfold bits_Mul64.f at h
 split at h
 ·rename_i hh
  obtain ⟨⟨h0, h1⟩, h2, h3⟩ := hh
  obtain ⟨x, rfl⟩ := Int.eq_ofNat_of_zero_le h0
  obtain ⟨y, rfl⟩ := Int.eq_ofNat_of_zero_le h2
  have e := Option.some.inj h
  have e1 : (x : Int) * y / 18446744073709551616 = r1 := congrArg Prod.fst e
  have e2 : (x : Int) * y % 18446744073709551616 = r2 := congrArg Prod.snd e
  subst e1 e2
  refine (Try.bits_Mul64 x y (by omega) (by omega) w).mono ?_
  rintro e w' ⟨rfl, rfl⟩
  refine ⟨?_, Drawn0.refl _⟩
  simp
 ·cases h

/-! ### bits_Mul: function 36 -/
def bits_Mul.f (a0 : Int) (a1 : Int) : Option (Int × Int) := (bits_Mul64.f a0 a1).bind fun bt147 => (some (bt147.1, bt147.2))
set_option maxHeartbeats 8000000 in
set_option maxRecDepth 100000 in
theorem bits_Mul.calls (a0 : Int) (a1 : Int) (r1 : Int) (r2 : Int) (w : World) (h : bits_Mul.f a0 a1 = some (r1, r2)) :
  Calls Try.prog 36 #[.int .u64 a0, .int .u64 a1] w fun e w' => e = .returned (.tuple #[.int .u64 r1, .int .u64 r2]) ∧ Drawn0 w w' := by
 have H : ((bits_Mul64.f a0 a1).bind fun bt147 => (some (bt147.1, bt147.2))) = some (r1, r2) := h
 clear h
 replace H := Option.bind_eq_some_iff.mp H
 obtain ⟨⟨t147, t148⟩, A30, H⟩ := H
 replace H : (some (t147, t148)) = some (r1, r2) := H
 have A3 := Aside0.mk A30
 clear A30
 simp only [Option.some.injEq, Prod.mk.injEq] at H
 obtain ⟨rfl, rfl⟩ := H
 go_enter Try.func36, Try.ntmps36
 go_wp2_with (first | ((with_reducible refine gate_callee (f := 38) rfl ?_); refine goesL_ (some 25) rfl rfl Try.func38 (by kernel_rfl) rfl #[.int .u64 a0, .int .u64 a1] rfl (by (try simp only [zm1, zm2, zm3]); first | done | rfl) ?_; (with_reducible refine (bits_Mul64.calls a0 a1 t147 t148 _ A3.out).mono ?_); rintro e w' ⟨rfl, ⟨nd, rfl⟩⟩; refine ⟨_, rfl, ?_⟩))
 go_ret2
 exact ⟨by first | rfl | (simp; done) | (simp [*]; done), by repeat (first | exact Drawn0.refl _ | apply Drawn0.step)⟩

/-! ### slices_Repeat_int_int: function 33 -/
-- making descend
def slices_Repeat_int_int.f (l0 : List Int) (a1 : Int) : Option (List Int) := if l0.length = 1 ∧ 0 ≤ a1 ∧ a1 ≤ 1000000 then some (List.replicate a1.toNat (rd l0 0)) else none
theorem slices_Repeat_int_int.calls (A0 : Option Addr) (c0 : Nat) (l0 : List Int) (a1 : Int) (r : List Int) (w : World) (hr0 : Kd.C (Kd.int .i64) w A0 l0.length l0) (_hc0 : l0.length ≤ c0) (h : slices_Repeat_int_int.f l0 a1 = some r) :
 Calls Try.prog 33 #[.slice A0 l0.length c0, .int .i64 a1] w fun e w' => ∃ v0_ : Value, e = .returned v0_ ∧ Kd.R (Kd.int .i64) 3 w' w.heap.size (fun _ => True) v0_ r ∧ Below w.heap.size w w' := by
 unfold slices_Repeat_int_int.f at h
 by_cases hl : l0.length = 1 ∧ 0 ≤ a1 ∧ a1 ≤ 1000000
 ·rw [if_pos hl] at h
  obtain rfl := Option.some.inj h
  obtain ⟨h1, h2, h3⟩ := hl
  obtain ⟨x, rfl⟩ := List.length_eq_one_iff.1 h1
  obtain ⟨n, rfl⟩ := Int.eq_ofNat_of_zero_le h2
  refine Repeat.repeat_any x n (by omega) hr0 fun w' => ?_
  refine (bits_Mul.calls 1 n 0 n w' ?_).mono ?_
  ·unfold bits_Mul.f bits_Mul64.f
   rw [if_pos ⟨⟨by omega, by omega⟩, by omega, by omega⟩]
   simp only [Option.bind_some]
   congr 1
   rw [Int.one_mul]
   exact Prod.ext (Int.ediv_eq_zero_of_lt (by omega) (by omega)) (Int.emod_eq_of_lt (by omega) (by omega))
  ·rintro e w2 ⟨rfl, hd⟩
   exact ⟨rfl, hd.below⟩
 ·rw [if_neg hl] at h; cases h

end Go.Proofs.Ytmpfboilodlfnaa.PFlowMade
