-- Printed by a program: the print with changes of this session (wip/printpatch.py).
import Derived.Test.YtkoopdoeehoigaaPSoundTellsx0
import Derived.Test.YtkoopdoeehoigaaPSoundTellsx5
namespace Go.Proofs.Ytkoopdoeehoigaa.PSoundTells
open Go.Proofs.Ytkoopdoeehoigaa.Fnv Go.Proofs.Ytkoopdoeehoigaa.Ary
open Go.RowKit Go.Proofs.YtkoopdoeehoigaaW.PrintWords Go.Proofs.YtkoopdoeehoigaaW.PrintLast Go.Proofs.YtkoopdoeehoigaaW.PrintMore
attribute [local go_sem] max2_int min2_int max_two min_two max_three min_three max_four min_four   -- for this text's walks alone
set_option linter.unusedVariables false
set_option linter.unusedSimpArgs false

/-! ### slices_Repeat_int_int: function 71 -/
-- making descend
def slices_Repeat_int_int.f (l0 : List Int) (a1 : Int) : Option (List Int) := if l0.length = 1 ∧ 0 ≤ a1 ∧ a1 ≤ 1000000 then some (List.replicate a1.toNat (rd l0 0)) else none
theorem slices_Repeat_int_int.calls (A0 : Option Addr) (c0 : Nat) (l0 : List Int) (a1 : Int) (r : List Int) (w : World) (hr0 : Kd.C (Kd.int .i64) w A0 l0.length l0) (_hc0 : l0.length ≤ c0) (h : slices_Repeat_int_int.f l0 a1 = some r) :
 Calls Try.prog 71 #[.slice A0 l0.length c0, .int .i64 a1] w fun e w' => ∃ v0_ : Value, e = .returned v0_ ∧ Kd.R (Kd.int .i64) 3 w' w.heap.size (fun _ => True) v0_ r ∧ Below w.heap.size w w' := by
 unfold slices_Repeat_int_int.f at h
 by_cases hl : l0.length = 1 ∧ 0 ≤ a1 ∧ a1 ≤ 1000000
 ·rw [if_pos hl] at h
  obtain rfl := Option.some.inj h
  obtain ⟨h1, h2, h3⟩ := hl
  obtain ⟨x, rfl⟩ := List.length_eq_one_iff.1 h1
  obtain ⟨n, rfl⟩ := Int.eq_ofNat_of_zero_le h2
  refine Repeat.repeat_any x n (by omega) hr0 fun w' => ?_
  refine (bits_Mul.calls 1 n 0 n w' ?_).mono ?_
  ·unfold bits_Mul.f bits_Mul64.f
   rw [if_pos ⟨⟨by omega, by omega⟩, by omega, by omega⟩]
   simp only [Option.bind_some]
   congr 1
   rw [Int.one_mul]
   exact Prod.ext (Int.ediv_eq_zero_of_lt (by omega) (by omega)) (Int.emod_eq_of_lt (by omega) (by omega))
  ·rintro e w2 ⟨rfl, hd⟩
   exact ⟨rfl, hd.below⟩
 ·rw [if_neg hl] at h; cases h

-- NOT PRINTED: function 72 (tourref5_heightsOf_1)

/-! ### tourref5_heightsOf: function 42 -/
-- rounds making descend
def tourref5_heightsOf.walk (l0_0 : List S29) (a0_1 : Int) (a1_0 : Int) (a1_1 : Int) (l1_2 : List S26) : Nat → List Int → Bool → Int → Int → Option (List Int × Bool)
 | 0, _, _, _, _ => none
 | m + 1, h, bad, k, n => if bad = true then some (h, true) else if k = (l1_2.length : Int) then some (h, true) else if 0 ≤ k ∧ k < (h.length : Int) ∧ k < (l1_2.length : Int) then
  (if rd h k ≥ 0 then some (h, rd h k != n) else
  (tourref5_opOf.f l0_0 a0_1 a1_0 a1_1 l1_2 (rd_T26 l1_2 k).f0 (rd_T26 l1_2 k).f1).bind fun t => if n < t.1 then some (h.set k.toNat n, true) else if wrap64 (wrap64 (n - t.1) + t.2.1) > 256 then some (h.set k.toNat n, true) else
   (if (rd_T26 l1_2 k).f0 = 15 ∨ (rd_T26 l1_2 k).f0 = 16 then tourref5_heightsOf.walk l0_0 a0_1 a1_0 a1_1 l1_2 m (h.set k.toNat n) false (rd_T26 l1_2 k).f1 (wrap64 (wrap64 (n - t.1) + t.2.1)) else some (h.set k.toNat n, false)).bind fun x =>
   (if (rd_T26 l1_2 k).f0 ≠ 15 ∧ (rd_T26 l1_2 k).f0 ≠ 18 then tourref5_heightsOf.walk l0_0 a0_1 a1_0 a1_1 l1_2 m x.1 x.2 (wrap64 (k + 1)) (wrap64 (wrap64 (n - t.1) + t.2.1)) else some x)) else none
def tourref5_heightsOf.f (k : Nat) (l0_0 : List S29) (a0_1 : Int) (a1_0 : Int) (a1_1 : Int) (l1_2 : List S26) : Option (List Int × Int) := if l1_2.length = 0 then some ([], 7) else if l1_2.length ≤ 1000000 then (tourref5_heightsOf.walk l0_0 a0_1 a1_0 a1_1 l1_2 k (List.replicate l1_2.length (-1)) false 0 0).bind fun x => (if x.2 = true then some ([], 7) else some (x.1, 0)) else none
theorem tourref5_heightsOf.mono_l (l0_0 : List S29) (a0_1 : Int) (a1_0 : Int) (a1_1 : Int) (l1_2 : List S26) : ∀ m h bad k n, LeO (tourref5_heightsOf.walk l0_0 a0_1 a1_0 a1_1 l1_2 m h bad k n) (tourref5_heightsOf.walk l0_0 a0_1 a1_0 a1_1 l1_2 (m + 1) h bad k n)
 | 0 => fun _ _ _ _ r h => by simp [tourref5_heightsOf.walk] at h
 | m + 1 => by
  intro h bad k n
  have ih := tourref5_heightsOf.mono_l l0_0 a0_1 a1_0 a1_1 l1_2 m
  rw [tourref5_heightsOf.walk, tourref5_heightsOf.walk]
  exact LeO.ite (LeO.refl _) (LeO.ite (LeO.refl _) (LeO.ite (LeO.ite (LeO.refl _) (LeO.bind (LeO.refl _) fun t => LeO.ite (LeO.refl _) (LeO.ite (LeO.refl _) (LeO.bind (LeO.ite (ih _ _ _ _) (LeO.refl _)) fun x => LeO.ite (ih _ _ _ _) (LeO.refl _))))) (LeO.refl _)))
theorem tourref5_heightsOf.mono : ∀ a0 a1 a2 a3 a4 k, LeO (tourref5_heightsOf.f k a0 a1 a2 a3 a4) (tourref5_heightsOf.f (k + 1) a0 a1 a2 a3 a4) := by
 intro a0 a1 a2 a3 a4 k
 unfold tourref5_heightsOf.f
 exact LeO.ite (LeO.refl _) (LeO.ite (LeO.bind (tourref5_heightsOf.mono_l a0 a1 a2 a3 a4 _ _ _ _ _) fun x => LeO.refl _) (LeO.refl _))
theorem tourref5_heightsOf.goesC_ {P : Program} {ops : Array Oper} {Q : Exit → Act → World → Prop} {rest : List Oper} {oi : Oper} {a : Act} {w : World} (N : Option Tmp) (hd : oi.dst = N) (hg : oi.guard = none) {f : FuncId} {fn : Func} {t : Tmp} {xs : Array Operand} {ts : Array TypeId} {lb : Array Value} (hf : P.funcs[f]? = some fn) (hname : (fn.name == "runtime.NumGoroutine") = false) (hb : fn.body.isSome = true) (args : Array Value)
  (hop : oi.op = .call { callee := .value (.tmp t), args := xs, argTypes := ts }) (hv : a.eval (.tmp t) = .func (.func f) #[] lb) (hargs : xs.map a.eval = args)
  (h : Calls P f (args ++ lb) w fun e w' => ∃ v, e = .returned v ∧ wpList P ops Q rest (a.put N v) w') : wpList P ops Q (oi :: rest) a w := by
 refine wpList_plain hg fun K hK => ?_
 have he := enters_ hf hname hb (args ++ lb) w
 have hrun : (execOp a.eval oi).run P w = .ok (.enter f (args ++ lb)) w := by
  unfold execOp
  simp [hop, resolve, Deferred.ofValue, invoke, hv, hargs, he]
 unfold Oper.wp
 rw [hrun, Oper.upon_enter]
 refine h.mono fun e w'' hh => ?_
 obtain ⟨v, rfl, hk⟩ := hh
 subst hd
 exact hK _ _ hk
/-- Only these two may have changed. -/
structure tourref5_heightsOf.Kp (gB gA : Nat) (w w' : World) : Prop where
 size : w.heap.size ≤ w'.heap.size
 block : ∀ j, j < w.heap.size → j ≠ gB → j ≠ gA → w'.heap[j]? = w.heap[j]?
theorem tourref5_heightsOf.Kp.refl (gB gA : Nat) (w : World) : tourref5_heightsOf.Kp gB gA w w := ⟨Nat.le_refl _, fun _ _ _ _ => rfl⟩
theorem tourref5_heightsOf.Kp.trans {gB gA : Nat} {w w1 w2 : World} (h : tourref5_heightsOf.Kp gB gA w w1) (k : tourref5_heightsOf.Kp gB gA w1 w2) : tourref5_heightsOf.Kp gB gA w w2 :=
 ⟨Nat.le_trans h.size k.size, fun j h1 h2 h3 => (k.block j (Nat.lt_of_lt_of_le h1 h.size) h2 h3).trans (h.block j h1 h2 h3)⟩
theorem tourref5_heightsOf.Kp.of {gB gA : Nat} {w w1 : World} (h : Below w.heap.size w w1) : tourref5_heightsOf.Kp gB gA w w1 := ⟨h.size, fun j h1 _ _ => h.block j h1⟩
theorem tourref5_heightsOf.Kp.set {gB gA : Nat} (w : World) (g i : Nat) (v : Value) (hg : g = gB ∨ g = gA) : tourref5_heightsOf.Kp gB gA w (w.setCell ⟨g, i, none⟩ v) :=
 ⟨by simp [World.setCell], fun j _ h2 h3 => Below.heap_setCell w _ v j (by intro e; subst e; rcases hg with e | e <;> simp_all)⟩
theorem tourref5_heightsOf.Kp.blk {gB gA b : Nat} {w w1 : World} {o : Obj} (h : tourref5_heightsOf.Kp gB gA w w1) (hb : w.heap[b]? = some o) (h1 : b ≠ gB) (h2 : b ≠ gA) : w1.heap[b]? = some o := (h.block b (blk_lt hb) h1 h2).trans hb
/-- What stands in memory while the literal runs. -/
structure tourref5_heightsOf.St (w0 : World) (l0_0 : List S29) (a0_1 : Int) (a1_0 : Int) (a1_1 : Int) (l1_2 : List S26) (gB gF gH gP gW gA cap : Nat) (A0 : Option Addr) (c0 : Nat) (A1 : Option Addr) (c1 : Nat) (w : World) (bad : Bool) (h : List Int) : Prop where
 B : w.heap[gB]? = some (.cells #[.bool bad] 4 (0, 0))
 F : w.heap[gF]? = some (.cells #[.int .i64 a1_0, .int .i64 a1_1, .slice A1 l1_2.length c1] 29 (0, 0))
 H : w.heap[gH]? = some (.cells #[.slice (some ⟨gA, 0, none⟩) h.length cap] 36 (0, 0))
 P : w.heap[gP]? = some (.cells #[.slice A0 l0_0.length c0, .int .i64 a0_1] 24 (0, 0))
 W : w.heap[gW]? = some (.cells #[.func (.func 72) #[] #[.pointer (some ⟨gB, 0, none⟩), .pointer (some ⟨gF, 0, none⟩), .pointer (some ⟨gH, 0, none⟩), .pointer (some ⟨gP, 0, none⟩), .pointer (some ⟨gW, 0, none⟩)]] 134 (0, 0))
 A : w.ownsRow w0.heap.size 3 1 (.slice (some ⟨gA, 0, none⟩) h.length cap) h.length (encs (Value.int .i64) h)
 b : Below w0.heap.size w0 w
 gb : w0.heap.size ≤ gB
 ga : w0.heap.size ≤ gA
section
variable {w0 w w1 : World} {l0_0 : List S29} {a0_1 a1_0 a1_1 : Int} {l1_2 : List S26} {gB gF gH gP gW gA cap : Nat} {A0 : Option Addr} {c0 : Nat} {A1 : Option Addr} {c1 : Nat} {bad : Bool} {h : List Int}
theorem tourref5_heightsOf.ty {g g' t t' : Nat} {c c' : Array Value} (h : w.heap[g]? = some (.cells c t (0, 0))) (h' : w.heap[g']? = some (.cells c' t' (0, 0))) (hne : t ≠ t') : g ≠ g' := by
 intro e; subst e; rw [h] at h'; injection h' with h'; injection h' with _ h'; exact hne h'
theorem tourref5_heightsOf.St.blkA (s : tourref5_heightsOf.St w0 l0_0 a0_1 a1_0 a1_1 l1_2 gB gF gH gP gW gA cap A0 c0 A1 c1 w bad h) : ∃ cs, w.heap[gA]? = some (.cells cs 3 (0, 0)) := own_typed s.A gA rfl
/-- A new flag. -/
theorem tourref5_heightsOf.St.flag (s : tourref5_heightsOf.St w0 l0_0 a0_1 a1_0 a1_1 l1_2 gB gF gH gP gW gA cap A0 c0 A1 c1 w bad h) (b : Bool) : tourref5_heightsOf.St w0 l0_0 a0_1 a1_0 a1_1 l1_2 gB gF gH gP gW gA cap A0 c0 A1 c1 (w.setCell ⟨gB, 0, none⟩ (.bool b)) b h := by
 obtain ⟨cs, hA⟩ := s.blkA
 exact ⟨blk_put s.B 0 _ rfl, blk_far s.F (tourref5_heightsOf.ty s.F s.B (by decide)) _, blk_far s.H (tourref5_heightsOf.ty s.H s.B (by decide)) _, blk_far s.P (tourref5_heightsOf.ty s.P s.B (by decide)) _, blk_far s.W (tourref5_heightsOf.ty s.W s.B (by decide)) _, own_setCell s.A (own_ne s.A s.B (by decide)) _, below_set s.b s.gb, s.gb, s.ga⟩
/-- A new height. -/
theorem tourref5_heightsOf.St.put (s : tourref5_heightsOf.St w0 l0_0 a0_1 a1_0 a1_1 l1_2 gB gF gH gP gW gA cap A0 c0 A1 c1 w bad h) (k n : Int) : tourref5_heightsOf.St w0 l0_0 a0_1 a1_0 a1_1 l1_2 gB gF gH gP gW gA cap A0 c0 A1 c1 (w.setCell ⟨gA, k.toNat, none⟩ (.int .i64 n)) bad (h.set k.toNat n) := by
 obtain ⟨cs, hA⟩ := s.blkA
 have e : (h.set k.toNat n).length = h.length := List.length_set
 refine ⟨blk_far s.B (tourref5_heightsOf.ty s.B hA (by decide)) _, blk_far s.F (tourref5_heightsOf.ty s.F hA (by decide)) _, by rw [e]; exact blk_far s.H (tourref5_heightsOf.ty s.H hA (by decide)) _, blk_far s.P (tourref5_heightsOf.ty s.P hA (by decide)) _, blk_far s.W (tourref5_heightsOf.ty s.W hA (by decide)) _, ?_, below_set s.b s.ga, s.gb, s.ga⟩
 rw [e]
 exact (own_store_of (enc := Value.int .i64) s.A k n).1
theorem tourref5_heightsOf.St.below (s : tourref5_heightsOf.St w0 l0_0 a0_1 a1_0 a1_1 l1_2 gB gF gH gP gW gA cap A0 c0 A1 c1 w bad h) (hb : Below w.heap.size w w1) : tourref5_heightsOf.St w0 l0_0 a0_1 a1_0 a1_1 l1_2 gB gF gH gP gW gA cap A0 c0 A1 c1 w1 bad h :=
 ⟨blk_below s.B hb, blk_below s.F hb, blk_below s.H hb, blk_below s.P hb, blk_below s.W hb, pw_own_below s.A hb, below_step s.b hb, s.gb, s.ga⟩
theorem tourref5_heightsOf.St.cell (s : tourref5_heightsOf.St w0 l0_0 a0_1 a1_0 a1_1 l1_2 gB gF gH gP gW gA cap A0 c0 A1 c1 w bad h) (k : Int) (k0 : 0 ≤ k) (k1 : k < h.length) : w.cell? ⟨gA, k.toNat, none⟩ = some (.int .i64 (rd h k)) ∧ w.frozen? ⟨gA, k.toNat, none⟩ = false :=
 own_at_of (enc := Value.int .i64) (d := 0) s.A k k0 k1
end
set_option maxHeartbeats 8000000 in
set_option maxRecDepth 100000 in
theorem tourref5_heightsOf.walk_any {w0 : World} (l0_0 : List S29) (a0_1 : Int) (a1_0 : Int) (a1_1 : Int) (l1_2 : List S26) {gB gF gH gP gW gA cap : Nat} {A0 : Option Addr} {c0 : Nat} {A1 : Option Addr} {c1 : Nat} (hr0 : Kd.C k29 w0 A0 l0_0.length l0_0) (hc0 : l0_0.length ≤ c0) (hr1 : Kd.C k26 w0 A1 l1_2.length l1_2) (hc1 : l1_2.length ≤ c1) :
  ∀ (m : Nat) (h : List Int) (bad : Bool) (k n : Int) (h' : List Int) (b' : Bool), tourref5_heightsOf.walk l0_0 a0_1 a1_0 a1_1 l1_2 m h bad k n = some (h', b') → ∀ w : World, tourref5_heightsOf.St w0 l0_0 a0_1 a1_0 a1_1 l1_2 gB gF gH gP gW gA cap A0 c0 A1 c1 w bad h →
   Calls Try.prog 72 #[.int .i64 k, .int .i64 n, .pointer (some ⟨gB, 0, none⟩), .pointer (some ⟨gF, 0, none⟩), .pointer (some ⟨gH, 0, none⟩), .pointer (some ⟨gP, 0, none⟩), .pointer (some ⟨gW, 0, none⟩)] w fun e w' => e = .returned (.tuple #[]) ∧ tourref5_heightsOf.St w0 l0_0 a0_1 a1_0 a1_1 l1_2 gB gF gH gP gW gA cap A0 c0 A1 c1 w' b' h' ∧ tourref5_heightsOf.Kp gB gA w w' := by
 have HR0 := Aside0.mk hr0
 have HC0 := Aside0.mk hc0
 have HR1 := Aside0.mk hr1
 have HC1 := Aside0.mk hc1
 clear hr0 hc0 hr1 hc1
 have hu1 := Try.underlying24
 have hu2 := Try.underlying29
 have hu3 := Try.underlying26
 intro m
 induction m with
 | zero => intro h bad k n h' b' e; simp [tourref5_heightsOf.walk] at e
 | succ m ih =>
  replace ih := Aside0.mk ih
  intro h bad k n h' b' e w s
  rw [tourref5_heightsOf.walk] at e
  have S := Aside0.mk s
  have eb : w.cell? ⟨gB, 0, none⟩ = some (.bool bad) := (blk_cell s.B 0).trans rfl
  have fb := blk_frozen s.B 0
  have ef2 : w.cell? ⟨gF, 2, none⟩ = some (.slice A1 l1_2.length c1) := (blk_cell s.F 2).trans rfl
  have eh : w.cell? ⟨gH, 0, none⟩ = some (.slice (some ⟨gA, 0, none⟩) h.length cap) := (blk_cell s.H 0).trans rfl
  clear s
  by_cases q0 : bad = true
  ·rw [if_pos q0] at e
   obtain ⟨rfl, rfl⟩ : h = h' ∧ true = b' := by have e2 := Option.some.inj e; injection e2 with e3 e4; exact ⟨e3, e4⟩
   subst q0
   clear e
   go_enter Try.func72, Try.ntmps72
   go_wp2
   refine bodyPost_ret (results_none rfl _ _ _) rfl ?_
   exact ⟨rfl, S.out.flag true, tourref5_heightsOf.Kp.set w gB 0 _ (.inl rfl)⟩
  rw [if_neg q0] at e
  obtain rfl : bad = false := by simpa using q0
  clear q0
  by_cases q1 : k = (l1_2.length : Int)
  ·rw [if_pos q1] at e
   obtain ⟨rfl, rfl⟩ : h = h' ∧ true = b' := by have e2 := Option.some.inj e; injection e2 with e3 e4; exact ⟨e3, e4⟩
   have q1b : (k == (l1_2.length : Int)) = true := beq_iff_eq.mpr q1
   clear e q1
   go_enter Try.func72, Try.ntmps72
   go_wp2
   refine bodyPost_ret (results_none rfl _ _ _) rfl ?_
   exact ⟨rfl, S.out.flag true, tourref5_heightsOf.Kp.set w gB 0 _ (.inl rfl)⟩
  rw [if_neg q1] at e
  have q1b : (k == (l1_2.length : Int)) = false := beq_eq_false_iff_ne.mpr q1
  clear q1
  by_cases q2 : 0 ≤ k ∧ k < (h.length : Int) ∧ k < (l1_2.length : Int)
  case neg => rw [if_neg q2] at e; exact absurd e (by simp)
  rw [if_pos q2] at e
  obtain ⟨k0, k1, k2⟩ := q2
  obtain ⟨ec, fc⟩ := S.out.cell k k0 k1
  have k0t := eq_true k0
  have k1t := eq_true k1
  have k2t := eq_true k2
  by_cases q3 : rd h k ≥ 0
  ·rw [if_pos q3] at e
   obtain ⟨rfl, rfl⟩ : h = h' ∧ (rd h k != n) = b' := by have e2 := Option.some.inj e; injection e2 with e3 e4; exact ⟨e3, e4⟩
   have q3b : decide (rd h k ≥ 0) = true := decide_eq_true q3
   clear e q3 k0 k1 k2
   go_enter Try.func72, Try.ntmps72
   go_wp2
   refine bodyPost_ret (results_none rfl _ _ _) rfl ?_
   exact ⟨rfl, S.out.flag _, tourref5_heightsOf.Kp.set w gB 0 _ (.inl rfl)⟩
  rw [if_neg q3] at e
  have q3b : decide (rd h k ≥ 0) = false := decide_eq_false q3
  clear q3
  obtain ⟨⟨p, q, r, ok⟩, eop, e⟩ := Option.bind_eq_some_iff.mp e
  obtain ⟨ad, e2, o0, o1⟩ := at_T26 HR1.out k k0 k2
  cases e2
  replace o0 := Aside0.mk o0
  replace o1 := Aside0.mk o1
  replace eop := Aside0.mk eop
  generalize (rd_T26 l1_2 k).f0 = f0 at *
  generalize (rd_T26 l1_2 k).f1 = f1 at *
  dsimp only at e
  replace e := Aside0.mk e
  go_enter Try.func72, Try.ntmps72
  go_upto_region 2 with fail
  go_cut [46] (fun v46 w' => tourref5_heightsOf.St w0 l0_0 a0_1 a1_0 a1_1 l1_2 gB gF gH gP gW gA cap A0 c0 (some ad) c1 w' false (h.set k.toNat n) ∧ tourref5_heightsOf.Kp gB gA w w')
  case first =>
   clear k0 k1 k2
   go_wp2_with fail
   go_meet
   exact ⟨S.out.put k n, tourref5_heightsOf.Kp.set w gA _ _ (.inr rfl)⟩
  case rest =>
   obtain ⟨s, kp⟩ := hcut
   replace S := Aside0.mk s
   have K := Aside0.mk kp
   clear kp eb fb ef2 eh ec fc q1b q3b
   have ef2 : wc.cell? ⟨gF, 2, none⟩ = some (.slice (some ad) l1_2.length c1) := (blk_cell s.F 2).trans rfl
   have o0' : wc.cell? (ad.add (k.toNat * 2)) = some (.int .i64 f0) := (s.b.cell (World.block_lt_of_cell? w0 _ o0.out)).trans o0.out
   have o1' : wc.cell? ⟨(ad.add (k.toNat * 2)).block, (ad.add (k.toNat * 2)).off + 1, none⟩ = some (.int .i64 f1) := (s.b.cell (World.block_lt_of_cell? w0 _ o1.out)).trans o1.out
   clear s o0 o1
   go_upto_region 3 with fail
   go_cut [9] (fun v9 w' => ∃ g : Nat, v9 = .pointer (some ⟨g, 0, none⟩) ∧ w'.heap[g]? = some (.cells #[.int .i64 f0, .int .i64 f1] 26 (0, 0)) ∧ Below wc.heap.size wc w')
   case first =>
    clear k0 k1 k2
    go_wp2_with fail
    go_meet
    exact ⟨_, rfl, blk_new _ _, below_alloc (Below.refl _ _) _⟩
   case rest =>
    obtain ⟨g, rfl, G, hb⟩ := hcut
    replace G := Aside0.mk G
    replace S := Aside0.mk (S.out.below hb)
    replace K := Aside0.mk (K.out.trans (.of hb))
    clear hb ef2 o0' o1' k0 k1 k2 k0t k1t k2t
    have HRa := Aside0.mk (Kd.C_below HR0.out S.out.b)
    have HRb := Aside0.mk (Kd.C_below HR1.out S.out.b)
    have g0 : wc.cell? ⟨g, 0, none⟩ = some (.int .i64 f0) := (blk_cell G.out 0).trans rfl
    have g1 : wc.cell? ⟨g, 1, none⟩ = some (.int .i64 f1) := (blk_cell G.out 1).trans rfl
    have z0 : wc.cell? ⟨gF, 0, none⟩ = some (.int .i64 a1_0) := (blk_cell S.out.F 0).trans rfl
    have z1 : wc.cell? ⟨gF, 1, none⟩ = some (.int .i64 a1_1) := (blk_cell S.out.F 1).trans rfl
    have z2 : wc.cell? ⟨gF, 2, none⟩ = some (.slice (some ad) l1_2.length c1) := (blk_cell S.out.F 2).trans rfl
    have y0 : wc.cell? ⟨gP, 0, none⟩ = some (.slice A0 l0_0.length c0) := (blk_cell S.out.P 0).trans rfl
    have y1 : wc.cell? ⟨gP, 1, none⟩ = some (.int .i64 a0_1) := (blk_cell S.out.P 1).trans rfl
    go_upto_region 4 with fail
    go_cut [10, 11] (fun v10 v11 w' => v10 = .int .i64 p ∧ v11 = .int .i64 q ∧ Below wc.heap.size wc w')
    case first =>
     go_wp2_with (first | ((with_reducible refine gate_callee (f := 41) rfl ?_); refine goesL_ (some 59) rfl rfl Try.func41 (by kernel_rfl) rfl #[.agg #[.slice A0 l0_0.length c0, .int .i64 a0_1], .agg #[.int .i64 a1_0, .int .i64 a1_1, .slice (some ad) l1_2.length c1], .agg #[.int .i64 f0, .int .i64 f1]] rfl (by (try simp only [List.map_toArray, List.map_cons, List.map_nil]); first | done | rfl) ?_; (refine (tourref5_opOf.calls A0 c0 l0_0 a0_1 a1_0 a1_1 (some ad) c1 l1_2 f0 f1 p q r ok _ HRa.out HC0.out HRb.out HC1.out eop.out).mono ?_); rintro e w3 ⟨rfl, hb⟩; refine ⟨_, rfl, ?_⟩; replace hb := Aside0.mk hb))
     go_meet
     exact ⟨rfl, rfl, hb.out⟩
    case rest =>
     obtain ⟨rfl, rfl, hb⟩ := hcut
     replace G := Aside0.mk (blk_below G.out hb)
     replace S := Aside0.mk (S.out.below hb)
     replace K := Aside0.mk (K.out.trans (.of hb))
     clear hb g0 g1 z0 z1 z2 y0 y1 HRa HRb
     have eb : wc.cell? ⟨gB, 0, none⟩ = some (.bool false) := (blk_cell S.out.B 0).trans rfl
     have fb := blk_frozen S.out.B 0
     have g0 : wc.cell? ⟨g, 0, none⟩ = some (.int .i64 f0) := (blk_cell G.out 0).trans rfl
     have g1 : wc.cell? ⟨g, 1, none⟩ = some (.int .i64 f1) := (blk_cell G.out 1).trans rfl
     have ew : wc.cell? ⟨gW, 0, none⟩ = some (.func (.func 72) #[] #[.pointer (some ⟨gB, 0, none⟩), .pointer (some ⟨gF, 0, none⟩), .pointer (some ⟨gH, 0, none⟩), .pointer (some ⟨gP, 0, none⟩), .pointer (some ⟨gW, 0, none⟩)]) := (blk_cell S.out.W 0).trans rfl
     have gB' : g ≠ gB := tourref5_heightsOf.ty G.out S.out.B (by decide)
     have gA' : g ≠ gA := by obtain ⟨cs, hA⟩ := S.out.blkA; exact tourref5_heightsOf.ty G.out hA (by decide)
     replace gB' := Aside0.mk gB'
     replace gA' := Aside0.mk gA'
     have e' := e.out
     clear e eop
     generalize hm : wrap64 (wrap64 (n - p) + q) = mm at e'
     by_cases r1 : n < p
     ·rw [if_pos r1] at e'
      obtain ⟨rfl, rfl⟩ : h.set k.toNat n = h' ∧ true = b' := by have e2 := Option.some.inj e'; injection e2 with e3 e4; exact ⟨e3, e4⟩
      have r1b : decide (n < p) = true := decide_eq_true r1
      clear e' r1
      go_wp2
      refine bodyPost_ret (results_none rfl _ _ _) rfl ?_
      exact ⟨rfl, S.out.flag true, K.out.trans (.set wc gB 0 _ (.inl rfl))⟩
     rw [if_neg r1] at e'
     have r1b : decide (n < p) = false := decide_eq_false r1
     clear r1
     by_cases r2 : mm > 256
     ·rw [if_pos r2] at e'
      obtain ⟨rfl, rfl⟩ : h.set k.toNat n = h' ∧ true = b' := by have e2 := Option.some.inj e'; injection e2 with e3 e4; exact ⟨e3, e4⟩
      have r2b : decide (mm > 256) = true := decide_eq_true r2
      clear e' r2
      go_wp2
      refine bodyPost_ret (results_none rfl _ _ _) rfl ?_
      exact ⟨rfl, S.out.flag true, K.out.trans (.set wc gB 0 _ (.inl rfl))⟩
     rw [if_neg r2] at e'
     have r2b : decide (mm > 256) = false := decide_eq_false r2
     clear r2
     by_cases j1 : f0 = 15 ∨ f0 = 16
     ·rw [if_pos j1] at e'
      obtain ⟨⟨h2, b2⟩, e1, e'⟩ := Option.bind_eq_some_iff.mp e'
      replace e1 := Aside0.mk e1
      by_cases j2 : f0 = 15
      ·rw [if_neg (by omega)] at e'
       obtain ⟨rfl, rfl⟩ : h2 = h' ∧ b2 = b' := by have e2 := Option.some.inj e'; injection e2 with e3 e4; exact ⟨e3, e4⟩
       clear e' j1
       subst j2
       go_wp2_with (first | ((with_reducible refine gate_fn rfl ?_); refine tourref5_heightsOf.goesC_ (some 88) rfl rfl Try.func72 (by kernel_rfl) rfl #[.int .i64 f1, .int .i64 mm] rfl rfl (by (try simp only [List.map_toArray, List.map_cons, List.map_nil]); first | done | (simp only [hm]; rfl) | rfl) ?_; (refine (ih.out _ _ _ _ _ _ e1.out _ S.out).mono ?_); rintro e w3 ⟨rfl, hs, hk⟩; refine ⟨_, rfl, ?_⟩; have ew : w3.cell? ⟨gW, 0, none⟩ = some (.func (.func 72) #[] #[.pointer (some ⟨gB, 0, none⟩), .pointer (some ⟨gF, 0, none⟩), .pointer (some ⟨gH, 0, none⟩), .pointer (some ⟨gP, 0, none⟩), .pointer (some ⟨gW, 0, none⟩)]) := (blk_cell hs.W 0).trans rfl; have G3 := hk.blk G.out gB'.out gA'.out; have g0 : w3.cell? ⟨g, 0, none⟩ = some (.int .i64 15) := (blk_cell G3 0).trans rfl; have g1 : w3.cell? ⟨g, 1, none⟩ = some (.int .i64 f1) := (blk_cell G3 1).trans rfl; replace S := Aside0.mk hs; replace K := Aside0.mk (K.out.trans hk); clear hs hk G3))
       go_end0
       exact ⟨rfl, S.out, K.out⟩
      ·obtain rfl : f0 = 16 := by omega
       rw [if_pos (by omega)] at e'
       replace e' := Aside0.mk e'
       clear j1 j2
       go_wp2_with (first | ((with_reducible refine gate_fn rfl ?_); refine tourref5_heightsOf.goesC_ (some 88) rfl rfl Try.func72 (by kernel_rfl) rfl #[.int .i64 f1, .int .i64 mm] rfl rfl (by (try simp only [List.map_toArray, List.map_cons, List.map_nil]); first | done | (simp only [hm]; rfl) | rfl) ?_; (refine (ih.out _ _ _ _ _ _ e1.out _ S.out).mono ?_); rintro e w3 ⟨rfl, hs, hk⟩; refine ⟨_, rfl, ?_⟩; have ew : w3.cell? ⟨gW, 0, none⟩ = some (.func (.func 72) #[] #[.pointer (some ⟨gB, 0, none⟩), .pointer (some ⟨gF, 0, none⟩), .pointer (some ⟨gH, 0, none⟩), .pointer (some ⟨gP, 0, none⟩), .pointer (some ⟨gW, 0, none⟩)]) := (blk_cell hs.W 0).trans rfl; have G3 := hk.blk G.out gB'.out gA'.out; have g0 : w3.cell? ⟨g, 0, none⟩ = some (.int .i64 16) := (blk_cell G3 0).trans rfl; have g1 : w3.cell? ⟨g, 1, none⟩ = some (.int .i64 f1) := (blk_cell G3 1).trans rfl; replace S := Aside0.mk hs; replace K := Aside0.mk (K.out.trans hk); clear hs hk G3) | ((with_reducible refine gate_fn rfl ?_); refine tourref5_heightsOf.goesC_ (some 101) rfl rfl Try.func72 (by kernel_rfl) rfl #[.int .i64 (wrap64 (k + 1)), .int .i64 mm] rfl rfl (by (try simp only [List.map_toArray, List.map_cons, List.map_nil]); first | done | (simp only [hm]; rfl) | rfl) ?_; (refine (ih.out _ _ _ _ _ _ e'.out _ S.out).mono ?_); rintro e w3 ⟨rfl, hs, hk⟩; refine ⟨_, rfl, ?_⟩; replace S := Aside0.mk hs; replace K := Aside0.mk (K.out.trans hk); clear hs hk))
       go_end0
       exact ⟨rfl, S.out, K.out⟩
     ·rw [if_neg j1] at e'
      obtain ⟨⟨h2, b2⟩, e1, e'⟩ := Option.bind_eq_some_iff.mp e'
      obtain ⟨rfl, rfl⟩ : h.set k.toNat n = h2 ∧ false = b2 := by have e2 := Option.some.inj e1; injection e2 with e3 e4; exact ⟨e3, e4⟩
      by_cases j2 : f0 = 18
      ·rw [if_neg (by omega)] at e'
       obtain ⟨rfl, rfl⟩ : h.set k.toNat n = h' ∧ false = b' := by have e2 := Option.some.inj e'; injection e2 with e3 e4; exact ⟨e3, e4⟩
       clear e' e1 j1
       subst j2
       go_wp2
       go_end0
       exact ⟨rfl, S.out, K.out⟩
      ·rw [if_pos (by omega)] at e'
       replace e' := Aside0.mk e'
       have j3 : (f0 == 15) = false := beq_eq_false_iff_ne.mpr (by omega)
       have j4 : (f0 == 16) = false := beq_eq_false_iff_ne.mpr (by omega)
       have j5 : (f0 != 15) = true := by simp only [bne, j3, Bool.not_false]
       have j6 : (f0 != 18) = true := by simp only [bne, beq_eq_false_iff_ne.mpr j2, Bool.not_false]
       clear e1 j1 j2
       go_wp2_with (first | ((with_reducible refine gate_fn rfl ?_); refine tourref5_heightsOf.goesC_ (some 101) rfl rfl Try.func72 (by kernel_rfl) rfl #[.int .i64 (wrap64 (k + 1)), .int .i64 mm] rfl rfl (by (try simp only [List.map_toArray, List.map_cons, List.map_nil]); first | done | (simp only [hm]; rfl) | rfl) ?_; (refine (ih.out _ _ _ _ _ _ e'.out _ S.out).mono ?_); rintro e w3 ⟨rfl, hs, hk⟩; refine ⟨_, rfl, ?_⟩; replace S := Aside0.mk hs; replace K := Aside0.mk (K.out.trans hk); clear hs hk))
       go_end0
       exact ⟨rfl, S.out, K.out⟩
theorem tourref5_heightsOf.store_func (P : Program) (w : World) (a : Addr) (fn : Fn) (first captured : Array Value) (m : Mode) : (store a (.func fn first captured) m).run P w = stored P w a (.func fn first captured) m := run_store P w a _ m rfl
attribute [local go_sem] tourref5_heightsOf.store_func
theorem tourref5_heightsOf.one {w : World} {g : Nat} {x : Int} (h : w.cell? ⟨g, 0, none⟩ = some (.int .i64 x)) : Kd.C (Kd.int .i64) w (some ⟨g, 0, none⟩) 1 [x] := by
 refine ⟨rfl, by simp, fun _ => ⟨_, rfl, fun j p hj => ?_⟩⟩
 obtain _ | j := j
 ·obtain rfl : x = p := by simpa using hj
  refine ⟨[.int .i64 x], rfl, rfl, fun i u hu => ?_⟩
  obtain _ | i := i
  ·obtain rfl : Value.int .i64 x = u := by simpa using hu
   simpa [Addr.add] using h
  ·simp at hu
 ·simp at hj
set_option maxHeartbeats 8000000 in
set_option maxRecDepth 100000 in
theorem tourref5_heightsOf.calls (k : Nat) (A0_0 : Option Addr) (c0_0 : Nat) (l0_0 : List S29) (a0_1 : Int) (a1_0 : Int) (a1_1 : Int) (A1_2 : Option Addr) (c1_2 : Nat) (l1_2 : List S26) (r1 : List Int) (r2 : Int) (w : World) (hr0_0 : Kd.C k29 w A0_0 l0_0.length l0_0) (hc0_0 : l0_0.length ≤ c0_0) (hr1_2 : Kd.C k26 w A1_2 l1_2.length l1_2) (hc1_2 : l1_2.length ≤ c1_2) (h : tourref5_heightsOf.f k l0_0 a0_1 a1_0 a1_1 l1_2 = some (r1, r2)) :
  Calls Try.prog 42 #[.agg #[.slice A0_0 l0_0.length c0_0, .int .i64 a0_1], .agg #[.int .i64 a1_0, .int .i64 a1_1, .slice A1_2 l1_2.length c1_2]] w fun e w' => ∃ v0_ : Value, e = .returned (.tuple #[v0_, .int .i64 r2]) ∧ Kd.R (Kd.int .i64) 3 w' w.heap.size (fun _ => True) v0_ r1 ∧ Below w.heap.size w w' := by
 have hu1 := Try.underlying24
 have hu2 := Try.underlying29
 have HR0 := Aside0.mk hr0_0
 have HC0 := Aside0.mk hc0_0
 have HR1 := Aside0.mk hr1_2
 have HC1 := Aside0.mk hc1_2
 have HH := Aside0.mk h
 have hn : l1_2.length ≤ 1000000 := by
  unfold tourref5_heightsOf.f at h
  by_cases h0 : l1_2.length = 0
  ·omega
  ·rw [if_neg h0] at h
   by_cases h1 : l1_2.length ≤ 1000000
   ·exact h1
   ·rw [if_neg h1] at h; exact absurd h (by simp)
 have hrep : slices_Repeat_int_int.f ([(-1)] : List Int) (l1_2.length : Int) = some (List.replicate l1_2.length (-1)) := by
  unfold slices_Repeat_int_int.f
  rw [if_pos ⟨rfl, by omega, by omega⟩, Int.toNat_natCast]; rfl
 clear hr0_0 hc0_0 hr1_2 hc1_2 h hn
 replace hrep := Aside0.mk hrep
 go_enter Try.func42, Try.ntmps42
 go_upto_region 0 with fail
 go_cut [2, 3] (fun v2 v3 w' => ∃ g2 g3 : Nat, v2 = .pointer (some ⟨g2, 0, none⟩) ∧ v3 = .pointer (some ⟨g3, 0, none⟩) ∧ w'.heap[g2]? = some (.cells #[.slice A0_0 l0_0.length c0_0, .int .i64 a0_1] 24 (0, 0)) ∧ w'.heap[g3]? = some (.cells #[.int .i64 a1_0, .int .i64 a1_1, .slice A1_2 l1_2.length c1_2] 29 (0, 0)) ∧ Below w.heap.size w w')
 case first =>
  go_wp2_with fail
  go_meet
  exact ⟨_, _, rfl, rfl, blk_alloc (blk_new _ _) _, (by have h := blk_new (w.alloc (.cells #[.slice A0_0 l0_0.length c0_0, .int .i64 a0_1] 24 (0, 0))) (.cells #[.int .i64 a1_0, .int .i64 a1_1, .slice A1_2 l1_2.length c1_2] 29 (0, 0)); simp only [World.alloc, Array.size_push] at h ⊢; exact h), below_alloc (below_alloc (Below.refl _ _) _) _⟩
 case rest =>
  obtain ⟨g2, g3, rfl, rfl, B2, B3, hb⟩ := hcut
  replace B2 := Aside0.mk B2
  replace B3 := Aside0.mk B3
  have HB := Aside0.mk hb
  clear hb
  have f2 : wc.cell? ⟨g3, 2, none⟩ = some (.slice A1_2 l1_2.length c1_2) := (blk_cell B3.out 2).trans rfl
  go_upto_region 1 with fail
  go_cut [6] (fun v6 w' => ∃ (g6 : Nat) (A : Option Addr) (cA : Nat), v6 = .pointer (some ⟨g6, 0, none⟩) ∧ w'.heap[g6]? = some (.cells #[.slice A (List.replicate l1_2.length (-1 : Int)).length cA] 36 (0, 0)) ∧ w'.ownsRow wc.heap.size 3 1 (.slice A (List.replicate l1_2.length (-1 : Int)).length cA) (List.replicate l1_2.length (-1 : Int)).length (encs (Value.int .i64) (List.replicate l1_2.length (-1 : Int))) ∧ Below wc.heap.size wc w')
  case first =>
   have f2' : (wc.alloc (.cells #[.int .i64 (-1)] 3 (0, 0))).cell? ⟨g3, 2, none⟩ = some (.slice A1_2 l1_2.length c1_2) := (blk_cell (blk_alloc B3.out _) 2).trans rfl
   go_wp2_with (first | ((with_reducible refine gate_callee (f := 71) rfl ?_); refine goesL_ (some 13) rfl rfl Try.func71 (by kernel_rfl) rfl #[.slice (some ⟨wc.heap.size, 0, none⟩) 1 1, .int .i64 (l1_2.length : Int)] rfl (by (try simp only [List.map_toArray, List.map_cons, List.map_nil]); first | done | rfl) ?_; (refine (slices_Repeat_int_int.calls (some ⟨wc.heap.size, 0, none⟩) 1 ([(-1)] : List Int) (l1_2.length : Int) _ (wc.alloc (.cells #[.int .i64 (-1)] 3 (0, 0))) (tourref5_heightsOf.one ((blk_cell (blk_new _ _) 0).trans rfl)) (Nat.le_refl _) hrep.out).mono ?_); rintro e w3 ⟨v, rfl, hv, hb⟩; refine ⟨_, rfl, ?_⟩; have ho := Kd.own_of_R (enc := Value.int .i64) hv; obtain ⟨A, cA, rfl⟩ := own_slice ho; replace ho := Aside0.mk (own_less ho (b := (wc.alloc (.cells #[.int .i64 (-1)] 3 (0, 0))).heap.size) (base := wc.heap.size) (by simp only [World.alloc, Array.size_push]; omega)); replace hb := Aside0.mk (show Below wc.heap.size wc w3 from below_step (below_alloc (Below.refl _ _) _) hb); clear hv))
   go_meet
   exact ⟨_, _, _, rfl, by rw [List.length_replicate]; exact blk_new _ _, own_alloc ho.out _, below_alloc hb.out _⟩
  case rest =>
   obtain ⟨g6, A, cA, rfl, B6, ho, hb⟩ := hcut
   replace B6 := Aside0.mk B6
   replace B2 := Aside0.mk (blk_below B2.out hb)
   replace B3 := Aside0.mk (blk_below B3.out hb)
   have HO := Aside0.mk (own_less ho HB.out.size)
   replace HB := Aside0.mk (below_step HB.out hb)
   clear hb ho f2 hrep
   have f2 : wc.cell? ⟨g3, 2, none⟩ = some (.slice A1_2 l1_2.length c1_2) := (blk_cell B3.out 2).trans rfl
   go_upto_region 2 with fail
   go_cut [7] (fun v7 w' => ∃ g7 : Nat, v7 = .pointer (some ⟨g7, 0, none⟩) ∧ w'.heap[g7]? = some (.cells #[.bool ((l1_2.length : Int) == 0)] 4 (0, 0)) ∧ wc.heap.size ≤ g7 ∧ Below wc.heap.size wc w')
   case first =>
    go_wp2_with fail
    go_meet
    exact ⟨_, rfl, blk_new _ _, Nat.le_refl _, below_alloc (Below.refl _ _) _⟩
   case rest =>
    obtain ⟨g7, rfl, B7, hg7, hb⟩ := hcut
    replace B7 := Aside0.mk B7
    replace B2 := Aside0.mk (blk_below B2.out hb)
    replace B3 := Aside0.mk (blk_below B3.out hb)
    replace B6 := Aside0.mk (blk_below B6.out hb)
    replace HO := Aside0.mk (pw_own_below HO.out hb)
    replace hg7 := Aside0.mk (Nat.le_trans HB.out.size hg7)
    replace HB := Aside0.mk (below_step HB.out hb)
    clear hb f2
    go_upto_region 3 with fail
    go_cut [8] (fun v8 w' => ∃ (g8 : Nat) (z : Value), v8 = .pointer (some ⟨g8, 0, none⟩) ∧ w'.heap[g8]? = some (.cells #[z] 134 (0, 0)) ∧ wc.heap.size ≤ g8 ∧ Below wc.heap.size wc w')
    case first =>
     go_wp2_with fail
     go_meet
     exact ⟨_, _, rfl, blk_new _ _, Nat.le_refl _, below_alloc (Below.refl _ _) _⟩
    case rest =>
     obtain ⟨g8, z, rfl, B8, hg8, hb⟩ := hcut
     replace B2 := Aside0.mk (blk_below B2.out hb)
     replace B3 := Aside0.mk (blk_below B3.out hb)
     replace B6 := Aside0.mk (blk_below B6.out hb)
     replace B7 := Aside0.mk (blk_below B7.out hb)
     replace HO := Aside0.mk (pw_own_below HO.out hb)
     replace hg8 := Aside0.mk (Nat.le_trans HB.out.size hg8)
     replace HB := Aside0.mk (below_step HB.out hb)
     clear hb
     have e8 : wc.cell? ⟨g8, 0, none⟩ = some z := (blk_cell B8 0).trans rfl
     have f8 := blk_frozen B8 0
     replace B8 := Aside0.mk B8
     go_upto_region 4 with fail
     go_cut [18] (fun v18 w' => w' = wc.setCell ⟨g8, 0, none⟩ (.func (.func 72) #[] #[.pointer (some ⟨g7, 0, none⟩), .pointer (some ⟨g3, 0, none⟩), .pointer (some ⟨g6, 0, none⟩), .pointer (some ⟨g2, 0, none⟩), .pointer (some ⟨g8, 0, none⟩)]))
     case first =>
      go_wp2_with fail
      go_meet
      rfl
     case rest =>
      replace B2 := Aside0.mk (blk_far (p := ⟨g8, 0, none⟩) B2.out (tourref5_heightsOf.ty B2.out B8.out (by decide)) (.func (.func 72) #[] #[.pointer (some ⟨g7, 0, none⟩), .pointer (some ⟨g3, 0, none⟩), .pointer (some ⟨g6, 0, none⟩), .pointer (some ⟨g2, 0, none⟩), .pointer (some ⟨g8, 0, none⟩)]))
      replace B3 := Aside0.mk (blk_far (p := ⟨g8, 0, none⟩) B3.out (tourref5_heightsOf.ty B3.out B8.out (by decide)) (.func (.func 72) #[] #[.pointer (some ⟨g7, 0, none⟩), .pointer (some ⟨g3, 0, none⟩), .pointer (some ⟨g6, 0, none⟩), .pointer (some ⟨g2, 0, none⟩), .pointer (some ⟨g8, 0, none⟩)]))
      replace B6 := Aside0.mk (blk_far (p := ⟨g8, 0, none⟩) B6.out (tourref5_heightsOf.ty B6.out B8.out (by decide)) (.func (.func 72) #[] #[.pointer (some ⟨g7, 0, none⟩), .pointer (some ⟨g3, 0, none⟩), .pointer (some ⟨g6, 0, none⟩), .pointer (some ⟨g2, 0, none⟩), .pointer (some ⟨g8, 0, none⟩)]))
      replace B7 := Aside0.mk (blk_far (p := ⟨g8, 0, none⟩) B7.out (tourref5_heightsOf.ty B7.out B8.out (by decide)) (.func (.func 72) #[] #[.pointer (some ⟨g7, 0, none⟩), .pointer (some ⟨g3, 0, none⟩), .pointer (some ⟨g6, 0, none⟩), .pointer (some ⟨g2, 0, none⟩), .pointer (some ⟨g8, 0, none⟩)]))
      replace HO := Aside0.mk (own_setCell (p := ⟨g8, 0, none⟩) HO.out (own_ne HO.out B8.out (by decide)) (.func (.func 72) #[] #[.pointer (some ⟨g7, 0, none⟩), .pointer (some ⟨g3, 0, none⟩), .pointer (some ⟨g6, 0, none⟩), .pointer (some ⟨g2, 0, none⟩), .pointer (some ⟨g8, 0, none⟩)]))
      replace HB := Aside0.mk (below_set (j := 0) (v := .func (.func 72) #[] #[.pointer (some ⟨g7, 0, none⟩), .pointer (some ⟨g3, 0, none⟩), .pointer (some ⟨g6, 0, none⟩), .pointer (some ⟨g2, 0, none⟩), .pointer (some ⟨g8, 0, none⟩)]) HB.out hg8.out)
      replace B8 := Aside0.mk (blk_put (cs' := #[.func (.func 72) #[] #[.pointer (some ⟨g7, 0, none⟩), .pointer (some ⟨g3, 0, none⟩), .pointer (some ⟨g6, 0, none⟩), .pointer (some ⟨g2, 0, none⟩), .pointer (some ⟨g8, 0, none⟩)]]) B8.out 0 (.func (.func 72) #[] #[.pointer (some ⟨g7, 0, none⟩), .pointer (some ⟨g3, 0, none⟩), .pointer (some ⟨g6, 0, none⟩), .pointer (some ⟨g2, 0, none⟩), .pointer (some ⟨g8, 0, none⟩)]) rfl)
      clear e8 f8 hg8
      have hw := hcut
      rw [← hw] at B2 B3 B6 B7 HO HB B8
      clear hw hcut
      have hh := HH.out
      clear HH
      unfold tourref5_heightsOf.f at hh
      by_cases q0 : l1_2.length = 0
      ·rw [if_pos q0] at hh
       obtain ⟨rfl, rfl⟩ : ([] : List Int) = r1 ∧ (7 : Int) = r2 := by have e2 := Option.some.inj hh; injection e2 with e3 e4; exact ⟨e3, e4⟩
       have q0b : ((l1_2.length : Int) == 0) = true := by simp [q0]
       rw [q0b] at B7
       have e7 : wc.cell? ⟨g7, 0, none⟩ = some (.bool true) := (blk_cell B7.out 0).trans rfl
       clear hh
       go_wp2
       go_ret2
       exact ⟨_, rfl, Kd.R_nil _ _ _ _ _, HB.out⟩
      rw [if_neg q0] at hh
      by_cases q1 : l1_2.length ≤ 1000000
      case neg => rw [if_neg q1] at hh; exact absurd hh (by simp)
      rw [if_pos q1] at hh
      obtain ⟨⟨h', b'⟩, ew, hh⟩ := Option.bind_eq_some_iff.mp hh
      replace ew := Aside0.mk ew
      have q0b : ((l1_2.length : Int) == 0) = false := by simp [q0]
      rw [q0b] at B7
      have e7 : wc.cell? ⟨g7, 0, none⟩ = some (.bool false) := (blk_cell B7.out 0).trans rfl
      have e8 : wc.cell? ⟨g8, 0, none⟩ = some (.func (.func 72) #[] #[.pointer (some ⟨g7, 0, none⟩), .pointer (some ⟨g3, 0, none⟩), .pointer (some ⟨g6, 0, none⟩), .pointer (some ⟨g2, 0, none⟩), .pointer (some ⟨g8, 0, none⟩)]) := (blk_cell B8.out 0).trans rfl
      have HA : ∃ gA : Nat, A = some ⟨gA, 0, none⟩ ∧ w.heap.size ≤ gA := by
       rcases HO.out.2 with ⟨e, hn⟩ | ⟨g, cap, cur, e, hg, _⟩
       ·injection e with e1 e2; rw [List.length_replicate] at e2; exact absurd e2 q0
       ·injection e with e1; exact ⟨g, e1, hg⟩
      obtain ⟨gA, rfl, hgA⟩ := HA
      have S := Aside0.mk (⟨B7.out, B3.out, B6.out, B2.out, B8.out, HO.out, HB.out, hg7.out, hgA⟩ : tourref5_heightsOf.St w l0_0 a0_1 a1_0 a1_1 l1_2 g7 g3 g6 g2 g8 gA cA A0_0 c0_0 A1_2 c1_2 wc false (List.replicate l1_2.length (-1)))
      clear B2 B3 B6 B7 B8 HO HB hg7 hgA q0 q1 q0b
      cases hb : b' with
      | true =>
       subst hb
       obtain ⟨rfl, rfl⟩ : ([] : List Int) = r1 ∧ (7 : Int) = r2 := by have e2 := Option.some.inj hh; injection e2 with e3 e4; exact ⟨e3, e4⟩
       clear hh
       go_wp2_with (first | ((with_reducible refine gate_fn rfl ?_); refine tourref5_heightsOf.goesC_ (some 22) rfl rfl Try.func72 (by kernel_rfl) rfl #[.int .i64 0, .int .i64 0] rfl rfl (by (try simp only [List.map_toArray, List.map_cons, List.map_nil]); first | done | rfl) ?_; (refine (tourref5_heightsOf.walk_any l0_0 a0_1 a1_0 a1_1 l1_2 HR0.out HC0.out HR1.out HC1.out k _ _ _ _ _ _ ew.out _ S.out).mono ?_); rintro e w3 ⟨rfl, hs, hk⟩; refine ⟨_, rfl, ?_⟩; clear hk; have e7 : w3.cell? ⟨g7, 0, none⟩ = some (.bool true) := (blk_cell hs.B 0).trans rfl; replace S := Aside0.mk hs; clear hs))
       go_ret2
       exact ⟨_, rfl, Kd.R_nil _ _ _ _ _, S.out.b⟩
      | false =>
       subst hb
       obtain ⟨rfl, rfl⟩ : h' = r1 ∧ (0 : Int) = r2 := by have e2 := Option.some.inj hh; injection e2 with e3 e4; exact ⟨e3, e4⟩
       clear hh
       go_wp2_with (first | ((with_reducible refine gate_fn rfl ?_); refine tourref5_heightsOf.goesC_ (some 22) rfl rfl Try.func72 (by kernel_rfl) rfl #[.int .i64 0, .int .i64 0] rfl rfl (by (try simp only [List.map_toArray, List.map_cons, List.map_nil]); first | done | rfl) ?_; (refine (tourref5_heightsOf.walk_any l0_0 a0_1 a1_0 a1_1 l1_2 HR0.out HC0.out HR1.out HC1.out k _ _ _ _ _ _ ew.out _ S.out).mono ?_); rintro e w3 ⟨rfl, hs, hk⟩; refine ⟨_, rfl, ?_⟩; clear hk; have e7 : w3.cell? ⟨g7, 0, none⟩ = some (.bool false) := (blk_cell hs.B 0).trans rfl; have e6 : w3.cell? ⟨g6, 0, none⟩ = some (.slice (some ⟨gA, 0, none⟩) h'.length cA) := (blk_cell hs.H 0).trans rfl; replace S := Aside0.mk hs; clear hs))
       go_ret2
       exact ⟨_, rfl, Kd.R_of_own S.out.A (fun _ _ => trivial), S.out.b⟩

end Go.Proofs.Ytkoopdoeehoigaa.PSoundTells
