/- slices.SortStableFunc over a short row of whole numbers, with a function that compares by a key: the row is sorted, nothing else is turned. Under the conditions that stand at each. -/
import Derived.Test.YtijochlkmkmhdaaLessSortCullLess
import Derived.Outline
namespace Go.Proofs.Ytijochlkmkmhdaa.LessMemCullLess
open Go Go.RowKit Go.Proofs.Ytijochlkmkmhdaa.Fnv Go.Proofs.YtijochlkmkmhdaaW.PrintWords Go.Proofs.YtijochlkmkmhdaaW.PrintLast Go.Proofs.YtijochlkmkmhdaaW.PrintMore Go.Proofs.Ytijochlkmkmhdaa.PCullLess Go.Proofs.Ytijochlkmkmhdaa.RasterCullLess Go.Proofs.Ytijochlkmkmhdaa.LessSortCullLess
set_option linter.unusedVariables false
set_option linter.unusedSimpArgs false
/-- Of the blocks that there are, only block g may have changed. -/
structure Kg (W : World) (g : Nat) (w : World) : Prop where
  bel : Below g W w
  lt : g < W.heap.size
  block : ∀ j, j < W.heap.size → j ≠ g → w.heap[j]? = W.heap[j]?
theorem Kg.size {W w : World} {g : Nat} (h : Kg W g w) : W.heap.size ≤ w.heap.size := h.bel.size
theorem Kg.refl (W : World) (g : Nat) (hg : g < W.heap.size) : Kg W g W := ⟨Below.refl _ _, hg, fun _ _ _ => rfl⟩
theorem Kg.below {W w w' : World} {g : Nat} (h : Kg W g w) (hb : Below w.heap.size w w') : Kg W g w' := ⟨h.bel.trans (hb.mono (Nat.le_trans (Nat.le_of_lt h.lt) h.size)), h.lt, fun j h1 h2 => (hb.block j (Nat.lt_of_lt_of_le h1 h.size)).trans (h.block j h1 h2)⟩
theorem Kg.set {W w : World} {g : Nat} (h : Kg W g w) (i : Nat) (v : Value) : Kg W g (w.setCell ⟨g, i, none⟩ v) := ⟨h.bel.setCell (Nat.le_refl _) v, h.lt, fun j h1 h2 => (Below.heap_setCell w _ _ j h2).trans (h.block j h1 h2)⟩
/-- A row of whole numbers, and what stands behind it in its block. -/
def RowI (w : World) (g : Nat) (l : List Int) (tl : List Value) : Prop := w.heap[g]? = some (.cells ((l.map (Value.int .i64)) ++ tl).toArray 3 (0, 0))
theorem RowI.set {w : World} {g : Nat} {l : List Int} {tl : List Value} (h : RowI w g l tl) (i : Nat) (hi : i < l.length) (v : Int) : RowI (w.setCell ⟨g, i, none⟩ (.int .i64 v)) g (l.set i v) tl :=
  blk_put h i _ (by simp only [List.setIfInBounds_toArray]; rw [List.set_append_left _ _ (by simpa using hi), List.map_set])
theorem RowI.at {w : World} {g : Nat} {l : List Int} {tl : List Value} (h : RowI w g l tl) {i : Nat} {v : Int} (hi : l[i]? = some v) : w.cell? ⟨g, i, none⟩ = some (.int .i64 v) := by
  refine (blk_cell h i).trans ?_
  have hl : i < l.length := (List.getElem?_eq_some_iff.1 hi).1
  rw [List.getElem?_toArray, List.getElem?_append_left (by simpa using hl), List.getElem?_map, hi]
  rfl
theorem RowI.below {w w' : World} {g : Nat} {l : List Int} {tl : List Value} (h : RowI w g l tl) (hb : Below w.heap.size w w') : RowI w' g l tl := blk_below h hb
/-- A function that compares by a key. -/
structure Cmp (W : World) (g : Nat) (gf : FuncId) (lb : Array Value) (fn : Func) (key : Int → Int) (ok : Int → Prop) : Prop where
  hf : Try.prog.funcs[gf]? = some fn
  hname : (fn.name == "runtime.NumGoroutine") = false
  hb : fn.body.isSome = true
  ask : ∀ (w : World) (a b : Int), Kg W g w → ok a → ok b → Calls Try.prog gf (#[.int .i64 a, .int .i64 b] ++ lb) w fun e w' => e = .returned (.int .i64 (key a - key b)) ∧ Below w.heap.size w w'
/-- A call of a function value in a region that draws its order. -/
theorem goesT_ {P : Program} {ops : Array Oper} {Q : Exit → Act → World → Prop} {oi : Oper} {N : Option Tmp} {a : Act} {w : World} {K : Act → World → Prop} {f : FuncId} {fn : Func} {xs : Array Operand} {ts : Array TypeId} {t : Tmp} {lb : Array Value} (hf : P.funcs[f]? = some fn) (hname : (fn.name == "runtime.NumGoroutine") = false) (hb : fn.body.isSome = true) (args : Array Value)
    (hw : Region.wanted oi (yielded ops a.tmps) = true) (hN : oi.dst = N) (hop : oi.op = .call { callee := .value (.tmp t), args := xs, argTypes := ts }) (hv : a.eval (.tmp t) = .func (.func f) #[] lb) (hargs : xs.map a.eval = args)
    (h : Calls P f (args ++ lb) w fun e w' => ∃ v, e = .returned v ∧ K (a.put N v) w') : if Region.wanted oi (yielded ops a.tmps) = true then Oper.wp P oi a w K Q else K (a.put N undef) w := by
  refine call_ f (args ++ lb) hw hN ?_ h
  have he := enters_ hf hname hb (args ++ lb) w
  unfold execOp
  simp [hop, resolve, Deferred.ofValue, invoke, hv, hargs, he]
theorem swap_row (P0 Z : List Int) (q x : Int) (j : Nat) (hj : j = P0.length + 1) : ((P0 ++ q :: x :: Z).set j q).set (j - 1) x = P0 ++ x :: q :: Z := by
  subst hj
  rw [List.set_append_right _ _ (by omega), List.set_append_right _ _ (by omega)]
  have e1 : P0.length + 1 - P0.length = 1 := by omega
  have e2 : P0.length + 1 - 1 - P0.length = 0 := by omega
  rw [e1, e2]
  rfl
theorem take_more {l : List Int} {i : Nat} (hi : i < l.length) : l.take (i + 1) = l.take i ++ [l[i]] := by rw [List.take_append_getElem]
section
variable {W : World} {g : Nat} {gf : FuncId} {lb : Array Value} {fn : Func} {key : Int → Int} {ok : Int → Prop}
set_option maxHeartbeats 8000000 in
set_option maxRecDepth 100000 in
theorem ins_any (hc : Cmp W g gf lb fn key ok) (l : List Int) (tl : List Value) (hr : RowI W g l tl) (hok : ∀ x ∈ l, ok x) (hn : l.length ≤ 1000) (c : Nat) :
    Calls Try.prog 73 #[.slice (some ⟨g, 0, none⟩) l.length c, .int .i64 0, .int .i64 (l.length : Int), .func (.func gf) #[] lb] W fun e w' => e = .returned (.tuple #[]) ∧ RowI w' g (sortF key l) tl ∧ Kg W g w' := by
  obtain ⟨n, hln⟩ : ∃ n, l.length = n := ⟨_, rfl⟩
  have HC := Aside0.mk hc
  have HR := Aside0.mk hr
  have HOK := Aside0.mk hok
  rw [hln] at hn ⊢
  have HL := Aside0.mk hln
  have HN := Aside0.mk hn
  clear hc hr hok hn hln
  go_enter Try.func73, Try.ntmps73
  go_wp2
  go_loopg [8] n (fun kq v8 wr => ∃ i : Int, v8 = .int .i64 i ∧ Aside0 (1 ≤ i ∧ i.toNat + kq = n + 1) ∧ Aside0 (RowI wr g (sortF key (l.take i.toNat) ++ l.drop i.toNat) tl) ∧ Aside0 (Kg W g wr))
  case atStart => exact ⟨1, rfl, ⟨by omega, by omega⟩, ⟨by
    have h1 := HL.out
    match l, HR.out with
    | [], h => exact h
    | x :: l, h => exact h⟩, ⟨Kg.refl _ _ (blk_lt HR.out)⟩⟩
  case round =>
    clear HR
    obtain ⟨i, rfl, HI, HR, HK⟩ := hrel
    by_cases hi : i < (n : Int)
    · have hi0 := HI.out.1
      obtain ⟨x, hx⟩ : ∃ x, l[i.toNat]? = some x := ⟨l[i.toNat]'(by have := HL.out; omega), List.getElem?_eq_getElem _⟩
      have HIN := Aside0.mk hi
      have hil : i.toNat < l.length := (List.getElem?_eq_some_iff.1 hx).1
      have hxe : l[i.toNat] = x := (List.getElem?_eq_some_iff.1 hx).2
      have HX := Aside0.mk (show ok x from HOK.out x (List.mem_of_getElem? hx))
      have HT := Aside0.mk (show l.take (i + 1).toNat = l.take i.toNat ++ [x] from by rw [show (i + 1).toNat = i.toNat + 1 by omega, take_more hil, hxe])
      have HD := Aside0.mk (show l.drop i.toNat = x :: l.drop (i + 1).toNat from by rw [show (i + 1).toNat = i.toNat + 1 by omega, List.drop_eq_getElem_cons hil, hxe])
      have HLT := Aside0.mk (show (sortF key (l.take i.toNat)).length = i.toNat from by rw [sortF_len, List.length_take]; omega)
      have HPO := Aside0.mk (show ∀ p ∈ sortF key (l.take i.toNat), ok p from fun p hp => HOK.out p (List.mem_of_mem_take ((sortF_mem key _ _).mp hp)))
      have hib : decide (i < (n : Int)) = true := decide_eq_true hi
      have q0 := eq_true hi
      have hw1 : wrap64 (i + 1) = i + 1 := wrap_in (by omega) (by have := HN.out; omega)
      have HW1 := Aside0.mk hw1
      obtain ⟨ko, hko⟩ : ∃ ko, gk = ko + 1 := ⟨gk - 1, by have := HI.out; omega⟩
      subst hko
      clear hi hx hil hxe hi0 hw1
      go_wp2
      go_loopg [9] i.toNat (fun kr v9 wr => ∃ (j : Int) (P1 P2 : List Int), v9 = .int .i64 j ∧ Aside0 (0 ≤ j ∧ j.toNat = P1.length ∧ j.toNat = kr ∧ j ≤ n) ∧ Aside0 (sortF key (l.take i.toNat) = P1 ++ P2) ∧ Aside0 (∀ p ∈ P2, key x < key p) ∧ Aside0 (RowI wr g (P1 ++ x :: (P2 ++ l.drop (i + 1).toNat)) tl) ∧ Aside0 (Kg W g wr))
      case atStart => exact ⟨i, sortF key (l.take i.toNat), [], rfl, ⟨by have := HI.out; omega, HLT.out.symm, rfl, by have := HIN.out; omega⟩, ⟨by rw [List.append_nil]⟩, ⟨by simp⟩, ⟨by have := HR.out; rw [HD.out] at this; exact this⟩, HK⟩
      case round =>
        clear HR HK HD
        obtain ⟨j, P1, P2, rfl, HJ, HP, HGT, HR, HK⟩ := hrel
        by_cases hj : j > 0
        · obtain ⟨P0, q, rfl⟩ : ∃ P0 q, P1 = P0 ++ [q] := by
            have hne : P1 ≠ [] := by intro e; have := HJ.out.2.1; rw [e] at this; simp at this; omega
            exact ⟨P1.dropLast, P1.getLast hne, (List.dropLast_concat_getLast hne).symm⟩
          have HJ0 := Aside0.mk (show j.toNat = P0.length + 1 from by have := HJ.out.2.1; simpa using this)
          have HR := Aside0.mk (show RowI wr g (P0 ++ q :: x :: (P2 ++ l.drop (i + 1).toNat)) tl from by have := HR.out; simpa using this)
          have HQ := Aside0.mk (show ok q from HPO.out q (by rw [HP.out]; simp))
          have hjb : decide (j > 0) = true := decide_eq_true hj
          have p0 : (0 ≤ j) = True := eq_true (by omega)
          have p1 : (j < (n : Int)) = True := eq_true (by have h1 := HJ.out.2.1; have h2 := HLT.out; rw [HP.out, List.length_append] at h2; have h3 := HIN.out; have h4 := HI.out.1; omega)
          have hw2 : wrap64 (j - 1) = j - 1 := wrap_in (by omega) (by have := HJ.out; have := HN.out; omega)
          have p2 : (0 ≤ j - 1) = True := eq_true (by omega)
          have p4 : (1 ≤ j) = True := eq_true (by omega)
          have p3 : (j - 1 < (n : Int)) = True := eq_true (by have := HJ.out; omega)
          have HJP := Aside0.mk hj
          have HJ1 := Aside0.mk (show j.toNat - 1 = P0.length from by have h1 := HJ0.out; omega)
          obtain ⟨Z, hZ⟩ : ∃ Z, P2 ++ l.drop (i + 1).toNat = Z := ⟨_, rfl⟩
          have HZ := Aside0.mk hZ
          rw [hZ] at HR
          have JX := Aside0.mk (show (P0 ++ q :: x :: Z)[j.toNat]? = some x from by rw [HJ0.out, List.getElem?_append_right (by omega), show P0.length + 1 - P0.length = 1 from by omega]; rfl)
          have JQ := Aside0.mk (show (P0 ++ q :: x :: Z)[(j.toNat - 1)]? = some q from by rw [HJ1.out, List.getElem?_append_right (Nat.le_refl _), Nat.sub_self]; rfl)
          have JL := Aside0.mk (show j.toNat < (P0 ++ q :: x :: Z).length from by rw [HJ0.out]; simp)
          clear hj hZ
          by_cases hcq : key x < key q
          · have hlt : decide (key x - key q < 0) = true := decide_eq_true (by clear p0 p1 p2 p3 p4 q0; omega)
            have HLQ := Aside0.mk hcq
            clear hcq
            go_upto_region 4 with (fail)
            have HR := Aside0.mk (HR.out.below (Below.refl _ _).drew)
            have HK := Aside0.mk (HK.out.below (Below.refl _ _).drew)
            refine start_ (n := 17) (S := fun w' => w'.cell? ⟨g, j.toNat, none⟩ = some (.int .i64 x) ∧ w'.cell? ⟨g, j.toNat - 1, none⟩ = some (.int .i64 q)) (ds := []) #[false, false, false, false, false, false, false, false, false, false, false, false, false, false, false, false, false] (by kernel_rfl) rfl rfl ⟨(HR.out.at JX.out), (HR.out.at JQ.out)⟩ (fun hHeld => ?_)
            generalize wr.drew = wd at HR HK hHeld ⊢
            refine pure_ (i := 0) (N := some 18) (v := ?_) (a' := ?_) #[true, false, false, false, false, false, false, false, false, false, false, false, false, false, false, false, false] rfl rfl (by kernel_rfl) (fun _ _ _ h => h) (Or.inl ⟨by rfl, ?_⟩) ?_ ?_
            rotate_left
            · intro w'
              go_simp
              with_reducible rfl
            rotate_left
            · simp only [Act.put, List.setIfInBounds_toArray, List.set_cons_zero, List.set_cons_succ, i64_w, i32_w]
              rfl
            refine pure_ (i := 1) (N := some 19) (v := ?_) (a' := ?_) #[true, true, false, false, false, false, false, false, false, false, false, false, false, false, false, false, false] rfl rfl (by kernel_rfl) (fun _ _ _ h => h) (Or.inl ⟨by rfl, ?_⟩) ?_ ?_
            rotate_left
            · intro w'
              go_simp
              with_reducible rfl
            rotate_left
            · simp only [Act.put, List.setIfInBounds_toArray, List.set_cons_zero, List.set_cons_succ, i64_w, i32_w]
              rfl
            refine pure_ (i := 2) (N := some 20) (v := ?_) (a' := ?_) #[true, true, true, false, false, false, false, false, false, false, false, false, false, false, false, false, false] rfl rfl (by kernel_rfl) (fun _ _ _ h => h) (Or.inl ⟨by rfl, ?_⟩) ?_ ?_
            rotate_left
            · intro w'
              go_simp
              with_reducible rfl
            rotate_left
            · simp only [Act.put, List.setIfInBounds_toArray, List.set_cons_zero, List.set_cons_succ, i64_w, i32_w]
              rfl
            refine pure_ (i := 3) (N := some 21) (v := ?_) (a' := ?_) #[true, true, true, true, false, false, false, false, false, false, false, false, false, false, false, false, false] rfl rfl (by kernel_rfl) (fun _ _ _ h => h) (Or.inl ⟨by rfl, ?_⟩) ?_ ?_
            rotate_left
            · intro w'
              go_simp
              with_reducible rfl
            rotate_left
            · simp only [Act.put, List.setIfInBounds_toArray, List.set_cons_zero, List.set_cons_succ, i64_w, i32_w]
              rfl
            refine pure_ (i := 4) (N := some 22) (v := ?_) (a' := ?_) #[true, true, true, true, true, false, false, false, false, false, false, false, false, false, false, false, false] rfl rfl (by kernel_rfl) (fun _ _ _ h => h) (Or.inl ⟨by rfl, ?_⟩) ?_ ?_
            rotate_left
            · intro w'
              go_simp
              with_reducible rfl
            rotate_left
            · simp only [Act.put, List.setIfInBounds_toArray, List.set_cons_zero, List.set_cons_succ, i64_w, i32_w]
              rfl
            refine pure_ (i := 5) (N := some 23) (v := ?_) (a' := ?_) #[true, true, true, true, true, true, false, false, false, false, false, false, false, false, false, false, false] rfl rfl (by kernel_rfl) (fun _ _ _ h => h) (Or.inl ⟨by rfl, ?_⟩) ?_ ?_
            rotate_left
            · intro w'
              go_simp
              with_reducible rfl
            rotate_left
            · simp only [Act.put, List.setIfInBounds_toArray, List.set_cons_zero, List.set_cons_succ, i64_w, i32_w]
              rfl
            refine pure_ (i := 6) (N := some 24) (v := ?_) (a' := ?_) #[true, true, true, true, true, true, true, false, false, false, false, false, false, false, false, false, false] rfl rfl (by kernel_rfl) (fun _ _ _ h => h) (Or.inl ⟨by rfl, ?_⟩) ?_ ?_
            rotate_left
            · intro w'
              go_simp
              with_reducible rfl
            rotate_left
            · simp only [Act.put, List.setIfInBounds_toArray, List.set_cons_zero, List.set_cons_succ, i64_w, i32_w]
              rfl
            refine pure_ (i := 7) (N := some 25) (v := ?_) (a' := ?_) #[true, true, true, true, true, true, true, true, false, false, false, false, false, false, false, false, false] rfl rfl (by kernel_rfl) (fun _ _ _ h => h) (Or.inl ⟨by rfl, ?_⟩) ?_ ?_
            rotate_left
            · intro w'
              go_simp
              with_reducible rfl
            rotate_left
            · simp only [Act.put, List.setIfInBounds_toArray, List.set_cons_zero, List.set_cons_succ, i64_w, i32_w]
              rfl
            refine pure_ (i := 9) (N := some 27) (v := ?_) (a' := ?_) #[true, true, true, true, true, true, true, true, false, true, false, false, false, false, false, false, false] rfl rfl (by kernel_rfl) (fun _ _ _ h => h) (Or.inl ⟨by rfl, ?_⟩) ?_ ?_
            rotate_left
            · intro w'
              go_simp
              with_reducible rfl
            rotate_left
            · simp only [Act.put, List.setIfInBounds_toArray, List.set_cons_zero, List.set_cons_succ, i64_w, i32_w]
              rfl
            refine pure_ (i := 10) (N := some 28) (v := ?_) (a' := ?_) #[true, true, true, true, true, true, true, true, false, true, true, false, false, false, false, false, false] rfl rfl (by kernel_rfl) (fun _ _ _ h => h) (Or.inl ⟨by rfl, ?_⟩) ?_ ?_
            rotate_left
            · intro w'
              go_simp
              with_reducible rfl
            rotate_left
            · simp only [Act.put, List.setIfInBounds_toArray, List.set_cons_zero, List.set_cons_succ, i64_w, i32_w]
              rfl
            refine pure_ (i := 11) (N := some 29) (v := ?_) (a' := ?_) #[true, true, true, true, true, true, true, true, false, true, true, true, false, false, false, false, false] rfl rfl (by kernel_rfl) (fun _ _ _ h => h) (Or.inl ⟨by rfl, ?_⟩) ?_ ?_
            rotate_left
            · intro w'
              go_simp
              with_reducible rfl
            rotate_left
            · simp only [Act.put, List.setIfInBounds_toArray, List.set_cons_zero, List.set_cons_succ, i64_w, i32_w]
              rfl
            refine pure_ (i := 12) (N := some 30) (v := ?_) (a' := ?_) #[true, true, true, true, true, true, true, true, false, true, true, true, true, false, false, false, false] rfl rfl (by kernel_rfl) (fun _ _ _ h => h) (Or.inl ⟨by rfl, ?_⟩) ?_ ?_
            rotate_left
            · intro w'
              go_simp
              with_reducible rfl
            rotate_left
            · simp only [Act.put, List.setIfInBounds_toArray, List.set_cons_zero, List.set_cons_succ, i64_w, i32_w]
              rfl
            refine take_ (i := 8) (N := some 26) (v := ?_) (a' := ?_) #[true, true, true, true, true, true, true, true, true, true, true, true, true, false, false, false, false] rfl rfl (by kernel_rfl) (fun _ _ _ h => h) (Or.inl ⟨by rfl, ?_⟩) hHeld ?_ ?_
            rotate_left
            · rintro w' ⟨s0, s1⟩
              go_simp
              with_reducible rfl
            rotate_left
            · simp only [Act.put, List.setIfInBounds_toArray, List.set_cons_zero, List.set_cons_succ, i64_w, i32_w]
              rfl
            refine take_ (i := 13) (N := some 31) (v := ?_) (a' := ?_) #[true, true, true, true, true, true, true, true, true, true, true, true, true, true, false, false, false] rfl rfl (by kernel_rfl) (fun _ _ _ h => h) (Or.inl ⟨by rfl, ?_⟩) hHeld ?_ ?_
            rotate_left
            · rintro w' ⟨s0, s1⟩
              go_simp
              with_reducible rfl
            rotate_left
            · simp only [Act.put, List.setIfInBounds_toArray, List.set_cons_zero, List.set_cons_succ, i64_w, i32_w]
              rfl
            refine one_ (i := 14) (N := some 32) #[true, true, true, true, true, true, true, true, true, true, true, true, true, true, true, false, false] rfl rfl (by kernel_rfl) (by decide) (fun K hK => ?_)
            refine goesT_ (t := 22) (lb := lb) HC.out.hf HC.out.hname HC.out.hb #[.int .i64 x, .int .i64 q] (by rfl) rfl rfl (by rfl) (by simp only [List.map_toArray, List.map_cons, List.map_nil]; rfl) ?_
            refine (HC.out.ask _ x q HK.out HX.out HQ.out).mono ?_
            rintro e wa ⟨rfl, hb⟩
            refine ⟨_, rfl, ?_⟩
            have HR := Aside0.mk (HR.out.below hb)
            have HK := Aside0.mk (HK.out.below hb)
            clear hb
            refine hK.out _ _ ⟨(HR.out.at JX.out), (HR.out.at JQ.out)⟩ (fun hHeld => ?_)
            clear hK K
            refine norm_ (a' := ?_) ?_ ?_
            rotate_left
            · show Act.put _ (some 32) _ = _
              simp only [Act.put, List.setIfInBounds_toArray, List.set_cons_zero, List.set_cons_succ, i64_w, i32_w]
              rfl
            refine pure_ (i := 15) (N := some 33) (v := ?_) (a' := ?_) #[true, true, true, true, true, true, true, true, true, true, true, true, true, true, true, true, false] rfl rfl (by kernel_rfl) (fun _ _ _ h => h) (Or.inl ⟨by rfl, ?_⟩) ?_ ?_
            rotate_left
            · intro w'
              go_simp
              with_reducible rfl
            rotate_left
            · simp only [Act.put, List.setIfInBounds_toArray, List.set_cons_zero, List.set_cons_succ, i64_w, i32_w]
              rfl
            refine pure_ (i := 16) (N := some 34) (v := ?_) (a' := ?_) #[true, true, true, true, true, true, true, true, true, true, true, true, true, true, true, true, true] rfl rfl (by kernel_rfl) (fun _ _ _ h => h) (Or.inl ⟨by rfl, ?_⟩) ?_ ?_
            rotate_left
            · intro w'
              go_simp
              with_reducible rfl
            rotate_left
            · simp only [Act.put, List.setIfInBounds_toArray, List.set_cons_zero, List.set_cons_succ, i64_w, i32_w]
              rfl
            refine done_ (by kernel_rfl) ?_
            go_upto_region 6 with (fail)
            have HR := Aside0.mk (HR.out.below (Below.refl _ _).drew)
            have HK := Aside0.mk (HK.out.below (Below.refl _ _).drew)
            refine start_ (n := 18) (S := fun w' => w'.cell? ⟨g, j.toNat, none⟩ = some (.int .i64 x) ∧ w'.cell? ⟨g, j.toNat - 1, none⟩ = some (.int .i64 q)) (ds := [15, 17]) #[false, false, false, false, false, false, false, false, false, false, false, false, false, false, false, false, false, false] (by kernel_rfl) rfl rfl ⟨(HR.out.at JX.out), (HR.out.at JQ.out)⟩ (fun hHeld => ?_)
            generalize wa.drew = wd at HR HK hHeld ⊢
            refine pure_ (i := 0) (N := some 37) (v := ?_) (a' := ?_) #[true, false, false, false, false, false, false, false, false, false, false, false, false, false, false, false, false, false] rfl rfl (by kernel_rfl) (fun _ _ _ h => h) (Or.inl ⟨by rfl, ?_⟩) ?_ ?_
            rotate_left
            · intro w'
              go_simp
              with_reducible rfl
            rotate_left
            · simp only [Act.put, List.setIfInBounds_toArray, List.set_cons_zero, List.set_cons_succ, i64_w, i32_w]
              rfl
            refine pure_ (i := 1) (N := some 38) (v := ?_) (a' := ?_) #[true, true, false, false, false, false, false, false, false, false, false, false, false, false, false, false, false, false] rfl rfl (by kernel_rfl) (fun _ _ _ h => h) (Or.inl ⟨by rfl, ?_⟩) ?_ ?_
            rotate_left
            · intro w'
              go_simp
              with_reducible rfl
            rotate_left
            · simp only [Act.put, List.setIfInBounds_toArray, List.set_cons_zero, List.set_cons_succ, i64_w, i32_w]
              rfl
            refine pure_ (i := 2) (N := some 39) (v := ?_) (a' := ?_) #[true, true, true, false, false, false, false, false, false, false, false, false, false, false, false, false, false, false] rfl rfl (by kernel_rfl) (fun _ _ _ h => h) (Or.inl ⟨by rfl, ?_⟩) ?_ ?_
            rotate_left
            · intro w'
              go_simp
              with_reducible rfl
            rotate_left
            · simp only [Act.put, List.setIfInBounds_toArray, List.set_cons_zero, List.set_cons_succ, i64_w, i32_w]
              rfl
            refine pure_ (i := 3) (N := some 40) (v := ?_) (a' := ?_) #[true, true, true, true, false, false, false, false, false, false, false, false, false, false, false, false, false, false] rfl rfl (by kernel_rfl) (fun _ _ _ h => h) (Or.inl ⟨by rfl, ?_⟩) ?_ ?_
            rotate_left
            · intro w'
              go_simp
              with_reducible rfl
            rotate_left
            · simp only [Act.put, List.setIfInBounds_toArray, List.set_cons_zero, List.set_cons_succ, i64_w, i32_w]
              rfl
            refine pure_ (i := 4) (N := some 41) (v := ?_) (a' := ?_) #[true, true, true, true, true, false, false, false, false, false, false, false, false, false, false, false, false, false] rfl rfl (by kernel_rfl) (fun _ _ _ h => h) (Or.inl ⟨by rfl, ?_⟩) ?_ ?_
            rotate_left
            · intro w'
              go_simp
              with_reducible rfl
            rotate_left
            · simp only [Act.put, List.setIfInBounds_toArray, List.set_cons_zero, List.set_cons_succ, i64_w, i32_w]
              rfl
            refine pure_ (i := 5) (N := some 42) (v := ?_) (a' := ?_) #[true, true, true, true, true, true, false, false, false, false, false, false, false, false, false, false, false, false] rfl rfl (by kernel_rfl) (fun _ _ _ h => h) (Or.inl ⟨by rfl, ?_⟩) ?_ ?_
            rotate_left
            · intro w'
              go_simp
              with_reducible rfl
            rotate_left
            · simp only [Act.put, List.setIfInBounds_toArray, List.set_cons_zero, List.set_cons_succ, i64_w, i32_w]
              rfl
            refine pure_ (i := 6) (N := some 43) (v := ?_) (a' := ?_) #[true, true, true, true, true, true, true, false, false, false, false, false, false, false, false, false, false, false] rfl rfl (by kernel_rfl) (fun _ _ _ h => h) (Or.inl ⟨by rfl, ?_⟩) ?_ ?_
            rotate_left
            · intro w'
              go_simp
              with_reducible rfl
            rotate_left
            · simp only [Act.put, List.setIfInBounds_toArray, List.set_cons_zero, List.set_cons_succ, i64_w, i32_w]
              rfl
            refine pure_ (i := 7) (N := some 44) (v := ?_) (a' := ?_) #[true, true, true, true, true, true, true, true, false, false, false, false, false, false, false, false, false, false] rfl rfl (by kernel_rfl) (fun _ _ _ h => h) (Or.inl ⟨by rfl, ?_⟩) ?_ ?_
            rotate_left
            · intro w'
              go_simp
              with_reducible rfl
            rotate_left
            · simp only [Act.put, List.setIfInBounds_toArray, List.set_cons_zero, List.set_cons_succ, i64_w, i32_w]
              rfl
            refine pure_ (i := 8) (N := some 45) (v := ?_) (a' := ?_) #[true, true, true, true, true, true, true, true, true, false, false, false, false, false, false, false, false, false] rfl rfl (by kernel_rfl) (fun _ _ _ h => h) (Or.inl ⟨by rfl, ?_⟩) ?_ ?_
            rotate_left
            · intro w'
              go_simp
              with_reducible rfl
            rotate_left
            · simp only [Act.put, List.setIfInBounds_toArray, List.set_cons_zero, List.set_cons_succ, i64_w, i32_w]
              rfl
            refine pure_ (i := 10) (N := some 47) (v := ?_) (a' := ?_) #[true, true, true, true, true, true, true, true, true, false, true, false, false, false, false, false, false, false] rfl rfl (by kernel_rfl) (fun _ _ _ h => h) (Or.inl ⟨by rfl, ?_⟩) ?_ ?_
            rotate_left
            · intro w'
              go_simp
              with_reducible rfl
            rotate_left
            · simp only [Act.put, List.setIfInBounds_toArray, List.set_cons_zero, List.set_cons_succ, i64_w, i32_w]
              rfl
            refine pure_ (i := 11) (N := some 48) (v := ?_) (a' := ?_) #[true, true, true, true, true, true, true, true, true, false, true, true, false, false, false, false, false, false] rfl rfl (by kernel_rfl) (fun _ _ _ h => h) (Or.inl ⟨by rfl, ?_⟩) ?_ ?_
            rotate_left
            · intro w'
              go_simp
              with_reducible rfl
            rotate_left
            · simp only [Act.put, List.setIfInBounds_toArray, List.set_cons_zero, List.set_cons_succ, i64_w, i32_w]
              rfl
            refine pure_ (i := 12) (N := some 49) (v := ?_) (a' := ?_) #[true, true, true, true, true, true, true, true, true, false, true, true, true, false, false, false, false, false] rfl rfl (by kernel_rfl) (fun _ _ _ h => h) (Or.inl ⟨by rfl, ?_⟩) ?_ ?_
            rotate_left
            · intro w'
              go_simp
              with_reducible rfl
            rotate_left
            · simp only [Act.put, List.setIfInBounds_toArray, List.set_cons_zero, List.set_cons_succ, i64_w, i32_w]
              rfl
            refine take_ (i := 9) (N := some 46) (v := ?_) (a' := ?_) #[true, true, true, true, true, true, true, true, true, true, true, true, true, false, false, false, false, false] rfl rfl (by kernel_rfl) (fun _ _ _ h => h) (Or.inl ⟨by rfl, ?_⟩) hHeld ?_ ?_
            rotate_left
            · rintro w' ⟨s0, s1⟩
              go_simp
              with_reducible rfl
            rotate_left
            · simp only [Act.put, List.setIfInBounds_toArray, List.set_cons_zero, List.set_cons_succ, i64_w, i32_w]
              rfl
            refine take_ (i := 13) (N := some 50) (v := ?_) (a' := ?_) #[true, true, true, true, true, true, true, true, true, true, true, true, true, true, false, false, false, false] rfl rfl (by kernel_rfl) (fun _ _ _ h => h) (Or.inl ⟨by rfl, ?_⟩) hHeld ?_ ?_
            rotate_left
            · rintro w' ⟨s0, s1⟩
              go_simp
              with_reducible rfl
            rotate_left
            · simp only [Act.put, List.setIfInBounds_toArray, List.set_cons_zero, List.set_cons_succ, i64_w, i32_w]
              rfl
            refine pure_ (i := 14) (N := some 51) (v := ?_) (a' := ?_) #[true, true, true, true, true, true, true, true, true, true, true, true, true, true, true, false, false, false] rfl rfl (by kernel_rfl) (fun _ _ _ h => h) (Or.inl ⟨by rfl, ?_⟩) ?_ ?_
            rotate_left
            · intro w'
              go_simp
              with_reducible rfl
            rotate_left
            · simp only [Act.put, List.setIfInBounds_toArray, List.set_cons_zero, List.set_cons_succ, i64_w, i32_w]
              rfl
            refine last_ (i := 15) (N := none) #[true, true, true, true, true, true, true, true, true, true, true, true, true, true, true, true, false, false] rfl rfl (by kernel_rfl) (by decide) (fun K hK => ?_)
            have cz := (HR.out.at JX.out)
            have fz := blk_frozen HR.out j.toNat
            refine skip_ (w1 := ?_) (by rfl) rfl ?_ ?_
            rotate_left
            · go_simp
              rfl
            refine hK.out _ _ ?_
            clear hK K
            refine pure_ (i := 16) (N := some 52) (v := ?_) (a' := ?_) #[true, true, true, true, true, true, true, true, true, true, true, true, true, true, true, true, true, false] rfl rfl (by kernel_rfl) (fun _ _ _ h => h) (Or.inl ⟨by rfl, ?_⟩) ?_ ?_
            rotate_left
            · intro w'
              go_simp
              with_reducible rfl
            rotate_left
            · simp only [Act.put, List.setIfInBounds_toArray, List.set_cons_zero, List.set_cons_succ, i64_w, i32_w]
              rfl
            refine last_ (i := 17) (N := none) #[true, true, true, true, true, true, true, true, true, true, true, true, true, true, true, true, true, true] rfl rfl (by kernel_rfl) (by decide) (fun K hK => ?_)
            have HR := Aside0.mk (HR.out.set j.toNat JL.out q)
            have HK := Aside0.mk (HK.out.set j.toNat (.int .i64 q))
            clear cz fz hHeld
            generalize wd.setCell ⟨g, j.toNat, none⟩ (.int .i64 q) = we at HR HK ⊢
            have cz := HR.out.at (i := (j.toNat - 1)) (v := q) (by rw [List.getElem?_set_ne (by rw [HJ1.out, HJ0.out]; omega)]; exact JQ.out)
            have fz := blk_frozen HR.out (j.toNat - 1)
            refine skip_ (w1 := ?_) (by rfl) rfl ?_ ?_
            rotate_left
            · go_simp
              rfl
            refine hK.out _ _ ?_
            clear hK K
            refine done_ (by kernel_rfl) ?_
            have HR := Aside0.mk (show RowI (we.setCell ⟨g, j.toNat - 1, none⟩ (.int .i64 x)) g (P0 ++ x :: (q :: P2 ++ l.drop (i + 1).toNat)) tl from by
              have h := HR.out.set (j.toNat - 1) (by rw [List.length_set, HJ1.out, List.length_append]; simp) x
              have e := swap_row P0 Z q x j.toNat HJ0.out
              rw [e, ← HZ.out] at h
              exact h)
            have HK := Aside0.mk (HK.out.set (j.toNat - 1) (.int .i64 x))
            clear cz fz
            generalize we.setCell ⟨g, j.toNat - 1, none⟩ (.int .i64 x) = wf at HR HK ⊢
            cases gk with
            | zero => exact absurd HJ.out.2.2.1 (by have h1 := HJ0.out; omega)
            | succ kz =>
              go_wp2
              go_roundg kz
              case measure => omega
              case rel => exact ⟨j - 1, P0, q :: P2, by rw [hw2], ⟨by have := HJP.out; omega, by have h1 := HJ0.out; have := HJP.out; omega, by have h1 := HJ.out; have := HJP.out; omega, by have := HJ.out; omega⟩, ⟨by rw [HP.out]; simp⟩, ⟨fun p hp => by rcases List.mem_cons.mp hp with rfl | hp; exact HLQ.out; exact HGT.out p hp⟩, HR, HK⟩
          · have hlt : decide (key x - key q < 0) = false := decide_eq_false (by clear p0 p1 p2 p3 p4 q0; omega)
            have HLQ := Aside0.mk hcq
            clear hcq
            go_upto_region 4 with (fail)
            have HR := Aside0.mk (HR.out.below (Below.refl _ _).drew)
            have HK := Aside0.mk (HK.out.below (Below.refl _ _).drew)
            refine start_ (n := 17) (S := fun w' => w'.cell? ⟨g, j.toNat, none⟩ = some (.int .i64 x) ∧ w'.cell? ⟨g, j.toNat - 1, none⟩ = some (.int .i64 q)) (ds := []) #[false, false, false, false, false, false, false, false, false, false, false, false, false, false, false, false, false] (by kernel_rfl) rfl rfl ⟨(HR.out.at JX.out), (HR.out.at JQ.out)⟩ (fun hHeld => ?_)
            generalize wr.drew = wd at HR HK hHeld ⊢
            refine pure_ (i := 0) (N := some 18) (v := ?_) (a' := ?_) #[true, false, false, false, false, false, false, false, false, false, false, false, false, false, false, false, false] rfl rfl (by kernel_rfl) (fun _ _ _ h => h) (Or.inl ⟨by rfl, ?_⟩) ?_ ?_
            rotate_left
            · intro w'
              go_simp
              with_reducible rfl
            rotate_left
            · simp only [Act.put, List.setIfInBounds_toArray, List.set_cons_zero, List.set_cons_succ, i64_w, i32_w]
              rfl
            refine pure_ (i := 1) (N := some 19) (v := ?_) (a' := ?_) #[true, true, false, false, false, false, false, false, false, false, false, false, false, false, false, false, false] rfl rfl (by kernel_rfl) (fun _ _ _ h => h) (Or.inl ⟨by rfl, ?_⟩) ?_ ?_
            rotate_left
            · intro w'
              go_simp
              with_reducible rfl
            rotate_left
            · simp only [Act.put, List.setIfInBounds_toArray, List.set_cons_zero, List.set_cons_succ, i64_w, i32_w]
              rfl
            refine pure_ (i := 2) (N := some 20) (v := ?_) (a' := ?_) #[true, true, true, false, false, false, false, false, false, false, false, false, false, false, false, false, false] rfl rfl (by kernel_rfl) (fun _ _ _ h => h) (Or.inl ⟨by rfl, ?_⟩) ?_ ?_
            rotate_left
            · intro w'
              go_simp
              with_reducible rfl
            rotate_left
            · simp only [Act.put, List.setIfInBounds_toArray, List.set_cons_zero, List.set_cons_succ, i64_w, i32_w]
              rfl
            refine pure_ (i := 3) (N := some 21) (v := ?_) (a' := ?_) #[true, true, true, true, false, false, false, false, false, false, false, false, false, false, false, false, false] rfl rfl (by kernel_rfl) (fun _ _ _ h => h) (Or.inl ⟨by rfl, ?_⟩) ?_ ?_
            rotate_left
            · intro w'
              go_simp
              with_reducible rfl
            rotate_left
            · simp only [Act.put, List.setIfInBounds_toArray, List.set_cons_zero, List.set_cons_succ, i64_w, i32_w]
              rfl
            refine pure_ (i := 4) (N := some 22) (v := ?_) (a' := ?_) #[true, true, true, true, true, false, false, false, false, false, false, false, false, false, false, false, false] rfl rfl (by kernel_rfl) (fun _ _ _ h => h) (Or.inl ⟨by rfl, ?_⟩) ?_ ?_
            rotate_left
            · intro w'
              go_simp
              with_reducible rfl
            rotate_left
            · simp only [Act.put, List.setIfInBounds_toArray, List.set_cons_zero, List.set_cons_succ, i64_w, i32_w]
              rfl
            refine pure_ (i := 5) (N := some 23) (v := ?_) (a' := ?_) #[true, true, true, true, true, true, false, false, false, false, false, false, false, false, false, false, false] rfl rfl (by kernel_rfl) (fun _ _ _ h => h) (Or.inl ⟨by rfl, ?_⟩) ?_ ?_
            rotate_left
            · intro w'
              go_simp
              with_reducible rfl
            rotate_left
            · simp only [Act.put, List.setIfInBounds_toArray, List.set_cons_zero, List.set_cons_succ, i64_w, i32_w]
              rfl
            refine pure_ (i := 6) (N := some 24) (v := ?_) (a' := ?_) #[true, true, true, true, true, true, true, false, false, false, false, false, false, false, false, false, false] rfl rfl (by kernel_rfl) (fun _ _ _ h => h) (Or.inl ⟨by rfl, ?_⟩) ?_ ?_
            rotate_left
            · intro w'
              go_simp
              with_reducible rfl
            rotate_left
            · simp only [Act.put, List.setIfInBounds_toArray, List.set_cons_zero, List.set_cons_succ, i64_w, i32_w]
              rfl
            refine pure_ (i := 7) (N := some 25) (v := ?_) (a' := ?_) #[true, true, true, true, true, true, true, true, false, false, false, false, false, false, false, false, false] rfl rfl (by kernel_rfl) (fun _ _ _ h => h) (Or.inl ⟨by rfl, ?_⟩) ?_ ?_
            rotate_left
            · intro w'
              go_simp
              with_reducible rfl
            rotate_left
            · simp only [Act.put, List.setIfInBounds_toArray, List.set_cons_zero, List.set_cons_succ, i64_w, i32_w]
              rfl
            refine pure_ (i := 9) (N := some 27) (v := ?_) (a' := ?_) #[true, true, true, true, true, true, true, true, false, true, false, false, false, false, false, false, false] rfl rfl (by kernel_rfl) (fun _ _ _ h => h) (Or.inl ⟨by rfl, ?_⟩) ?_ ?_
            rotate_left
            · intro w'
              go_simp
              with_reducible rfl
            rotate_left
            · simp only [Act.put, List.setIfInBounds_toArray, List.set_cons_zero, List.set_cons_succ, i64_w, i32_w]
              rfl
            refine pure_ (i := 10) (N := some 28) (v := ?_) (a' := ?_) #[true, true, true, true, true, true, true, true, false, true, true, false, false, false, false, false, false] rfl rfl (by kernel_rfl) (fun _ _ _ h => h) (Or.inl ⟨by rfl, ?_⟩) ?_ ?_
            rotate_left
            · intro w'
              go_simp
              with_reducible rfl
            rotate_left
            · simp only [Act.put, List.setIfInBounds_toArray, List.set_cons_zero, List.set_cons_succ, i64_w, i32_w]
              rfl
            refine pure_ (i := 11) (N := some 29) (v := ?_) (a' := ?_) #[true, true, true, true, true, true, true, true, false, true, true, true, false, false, false, false, false] rfl rfl (by kernel_rfl) (fun _ _ _ h => h) (Or.inl ⟨by rfl, ?_⟩) ?_ ?_
            rotate_left
            · intro w'
              go_simp
              with_reducible rfl
            rotate_left
            · simp only [Act.put, List.setIfInBounds_toArray, List.set_cons_zero, List.set_cons_succ, i64_w, i32_w]
              rfl
            refine pure_ (i := 12) (N := some 30) (v := ?_) (a' := ?_) #[true, true, true, true, true, true, true, true, false, true, true, true, true, false, false, false, false] rfl rfl (by kernel_rfl) (fun _ _ _ h => h) (Or.inl ⟨by rfl, ?_⟩) ?_ ?_
            rotate_left
            · intro w'
              go_simp
              with_reducible rfl
            rotate_left
            · simp only [Act.put, List.setIfInBounds_toArray, List.set_cons_zero, List.set_cons_succ, i64_w, i32_w]
              rfl
            refine take_ (i := 8) (N := some 26) (v := ?_) (a' := ?_) #[true, true, true, true, true, true, true, true, true, true, true, true, true, false, false, false, false] rfl rfl (by kernel_rfl) (fun _ _ _ h => h) (Or.inl ⟨by rfl, ?_⟩) hHeld ?_ ?_
            rotate_left
            · rintro w' ⟨s0, s1⟩
              go_simp
              with_reducible rfl
            rotate_left
            · simp only [Act.put, List.setIfInBounds_toArray, List.set_cons_zero, List.set_cons_succ, i64_w, i32_w]
              rfl
            refine take_ (i := 13) (N := some 31) (v := ?_) (a' := ?_) #[true, true, true, true, true, true, true, true, true, true, true, true, true, true, false, false, false] rfl rfl (by kernel_rfl) (fun _ _ _ h => h) (Or.inl ⟨by rfl, ?_⟩) hHeld ?_ ?_
            rotate_left
            · rintro w' ⟨s0, s1⟩
              go_simp
              with_reducible rfl
            rotate_left
            · simp only [Act.put, List.setIfInBounds_toArray, List.set_cons_zero, List.set_cons_succ, i64_w, i32_w]
              rfl
            refine one_ (i := 14) (N := some 32) #[true, true, true, true, true, true, true, true, true, true, true, true, true, true, true, false, false] rfl rfl (by kernel_rfl) (by decide) (fun K hK => ?_)
            refine goesT_ (t := 22) (lb := lb) HC.out.hf HC.out.hname HC.out.hb #[.int .i64 x, .int .i64 q] (by rfl) rfl rfl (by rfl) (by simp only [List.map_toArray, List.map_cons, List.map_nil]; rfl) ?_
            refine (HC.out.ask _ x q HK.out HX.out HQ.out).mono ?_
            rintro e wa ⟨rfl, hb⟩
            refine ⟨_, rfl, ?_⟩
            have HR := Aside0.mk (HR.out.below hb)
            have HK := Aside0.mk (HK.out.below hb)
            clear hb
            refine hK.out _ _ ⟨(HR.out.at JX.out), (HR.out.at JQ.out)⟩ (fun hHeld => ?_)
            clear hK K
            refine norm_ (a' := ?_) ?_ ?_
            rotate_left
            · show Act.put _ (some 32) _ = _
              simp only [Act.put, List.setIfInBounds_toArray, List.set_cons_zero, List.set_cons_succ, i64_w, i32_w]
              rfl
            refine pure_ (i := 15) (N := some 33) (v := ?_) (a' := ?_) #[true, true, true, true, true, true, true, true, true, true, true, true, true, true, true, true, false] rfl rfl (by kernel_rfl) (fun _ _ _ h => h) (Or.inl ⟨by rfl, ?_⟩) ?_ ?_
            rotate_left
            · intro w'
              go_simp
              with_reducible rfl
            rotate_left
            · simp only [Act.put, List.setIfInBounds_toArray, List.set_cons_zero, List.set_cons_succ, i64_w, i32_w]
              rfl
            refine pure_ (i := 16) (N := some 34) (v := ?_) (a' := ?_) #[true, true, true, true, true, true, true, true, true, true, true, true, true, true, true, true, true] rfl rfl (by kernel_rfl) (fun _ _ _ h => h) (Or.inl ⟨by rfl, ?_⟩) ?_ ?_
            rotate_left
            · intro w'
              go_simp
              with_reducible rfl
            rotate_left
            · simp only [Act.put, List.setIfInBounds_toArray, List.set_cons_zero, List.set_cons_succ, i64_w, i32_w]
              rfl
            refine done_ (by kernel_rfl) ?_
            go_wp2
            go_roundg ko
            case measure => omega
            case rel => exact ⟨i + 1, by rw [HW1.out], ⟨by have := HI.out; omega, by have := HI.out; omega⟩, ⟨by rw [HT.out, sort_next key _ x (P0 ++ [q]) P2 HP.out HGT.out (.inr ⟨P0, q, rfl, by have h_ := HLQ.out; omega⟩)]; have h := HR.out; rw [← HZ.out] at h; simpa using h⟩, HK⟩
        · have hjb : decide (j > 0) = false := decide_eq_false hj
          have HJN := Aside0.mk hj
          clear hj
          go_upto_region 4 with (fail)
          have HR := Aside0.mk (HR.out.below (Below.refl _ _).drew)
          have HK := Aside0.mk (HK.out.below (Below.refl _ _).drew)
          refine start_ (n := 17) (S := fun w' => True) (ds := []) #[false, false, false, false, false, false, false, false, false, false, false, false, false, false, false, false, false] (by kernel_rfl) rfl rfl trivial (fun hHeld => ?_)
          generalize wr.drew = wd at HR HK hHeld ⊢
          refine pure_ (i := 0) (N := some 18) (v := ?_) (a' := ?_) #[true, false, false, false, false, false, false, false, false, false, false, false, false, false, false, false, false] rfl rfl (by kernel_rfl) (fun _ _ _ h => h) (Or.inl ⟨by rfl, ?_⟩) ?_ ?_
          rotate_left
          · intro w'
            go_simp
            with_reducible rfl
          rotate_left
          · simp only [Act.put, List.setIfInBounds_toArray, List.set_cons_zero, List.set_cons_succ, i64_w, i32_w]
            rfl
          refine pure_ (i := 1) (N := some 19) (v := ?_) (a' := ?_) #[true, true, false, false, false, false, false, false, false, false, false, false, false, false, false, false, false] rfl rfl (by kernel_rfl) (fun _ _ _ h => h) (Or.inl ⟨by rfl, ?_⟩) ?_ ?_
          rotate_left
          · intro w'
            go_simp
            with_reducible rfl
          rotate_left
          · simp only [Act.put, List.setIfInBounds_toArray, List.set_cons_zero, List.set_cons_succ, i64_w, i32_w]
            rfl
          refine pure_ (i := 2) (N := some 20) (v := ?_) (a' := ?_) #[true, true, true, false, false, false, false, false, false, false, false, false, false, false, false, false, false] rfl rfl (by kernel_rfl) (fun _ _ _ h => h) (Or.inl ⟨by rfl, ?_⟩) ?_ ?_
          rotate_left
          · intro w'
            go_simp
            with_reducible rfl
          rotate_left
          · simp only [Act.put, List.setIfInBounds_toArray, List.set_cons_zero, List.set_cons_succ, i64_w, i32_w]
            rfl
          refine pure_ (i := 3) (N := some 21) (v := ?_) (a' := ?_) #[true, true, true, true, false, false, false, false, false, false, false, false, false, false, false, false, false] rfl rfl (by kernel_rfl) (fun _ _ _ h => h) (Or.inl ⟨by rfl, ?_⟩) ?_ ?_
          rotate_left
          · intro w'
            go_simp
            with_reducible rfl
          rotate_left
          · simp only [Act.put, List.setIfInBounds_toArray, List.set_cons_zero, List.set_cons_succ, i64_w, i32_w]
            rfl
          refine pure_ (i := 4) (N := some 22) (v := undef) (a' := ?_) #[true, true, true, true, true, false, false, false, false, false, false, false, false, false, false, false, false] rfl rfl (by kernel_rfl) (fun _ _ _ h => h) (Or.inr ⟨by rfl, rfl⟩) ?_ ?_
          rotate_left
          · simp only [Act.put, List.setIfInBounds_toArray, List.set_cons_zero, List.set_cons_succ, i64_w, i32_w]
            rfl
          refine pure_ (i := 5) (N := some 23) (v := undef) (a' := ?_) #[true, true, true, true, true, true, false, false, false, false, false, false, false, false, false, false, false] rfl rfl (by kernel_rfl) (fun _ _ _ h => h) (Or.inr ⟨by rfl, rfl⟩) ?_ ?_
          rotate_left
          · simp only [Act.put, List.setIfInBounds_toArray, List.set_cons_zero, List.set_cons_succ, i64_w, i32_w]
            rfl
          refine pure_ (i := 6) (N := some 24) (v := undef) (a' := ?_) #[true, true, true, true, true, true, true, false, false, false, false, false, false, false, false, false, false] rfl rfl (by kernel_rfl) (fun _ _ _ h => h) (Or.inr ⟨by rfl, rfl⟩) ?_ ?_
          rotate_left
          · simp only [Act.put, List.setIfInBounds_toArray, List.set_cons_zero, List.set_cons_succ, i64_w, i32_w]
            rfl
          refine pure_ (i := 7) (N := some 25) (v := undef) (a' := ?_) #[true, true, true, true, true, true, true, true, false, false, false, false, false, false, false, false, false] rfl rfl (by kernel_rfl) (fun _ _ _ h => h) (Or.inr ⟨by rfl, rfl⟩) ?_ ?_
          rotate_left
          · simp only [Act.put, List.setIfInBounds_toArray, List.set_cons_zero, List.set_cons_succ, i64_w, i32_w]
            rfl
          refine pure_ (i := 8) (N := some 26) (v := undef) (a' := ?_) #[true, true, true, true, true, true, true, true, true, false, false, false, false, false, false, false, false] rfl rfl (by kernel_rfl) (fun _ _ _ h => h) (Or.inr ⟨by rfl, rfl⟩) ?_ ?_
          rotate_left
          · simp only [Act.put, List.setIfInBounds_toArray, List.set_cons_zero, List.set_cons_succ, i64_w, i32_w]
            rfl
          refine pure_ (i := 9) (N := some 27) (v := undef) (a' := ?_) #[true, true, true, true, true, true, true, true, true, true, false, false, false, false, false, false, false] rfl rfl (by kernel_rfl) (fun _ _ _ h => h) (Or.inr ⟨by rfl, rfl⟩) ?_ ?_
          rotate_left
          · simp only [Act.put, List.setIfInBounds_toArray, List.set_cons_zero, List.set_cons_succ, i64_w, i32_w]
            rfl
          refine pure_ (i := 10) (N := some 28) (v := undef) (a' := ?_) #[true, true, true, true, true, true, true, true, true, true, true, false, false, false, false, false, false] rfl rfl (by kernel_rfl) (fun _ _ _ h => h) (Or.inr ⟨by rfl, rfl⟩) ?_ ?_
          rotate_left
          · simp only [Act.put, List.setIfInBounds_toArray, List.set_cons_zero, List.set_cons_succ, i64_w, i32_w]
            rfl
          refine pure_ (i := 11) (N := some 29) (v := undef) (a' := ?_) #[true, true, true, true, true, true, true, true, true, true, true, true, false, false, false, false, false] rfl rfl (by kernel_rfl) (fun _ _ _ h => h) (Or.inr ⟨by rfl, rfl⟩) ?_ ?_
          rotate_left
          · simp only [Act.put, List.setIfInBounds_toArray, List.set_cons_zero, List.set_cons_succ, i64_w, i32_w]
            rfl
          refine pure_ (i := 12) (N := some 30) (v := undef) (a' := ?_) #[true, true, true, true, true, true, true, true, true, true, true, true, true, false, false, false, false] rfl rfl (by kernel_rfl) (fun _ _ _ h => h) (Or.inr ⟨by rfl, rfl⟩) ?_ ?_
          rotate_left
          · simp only [Act.put, List.setIfInBounds_toArray, List.set_cons_zero, List.set_cons_succ, i64_w, i32_w]
            rfl
          refine pure_ (i := 13) (N := some 31) (v := undef) (a' := ?_) #[true, true, true, true, true, true, true, true, true, true, true, true, true, true, false, false, false] rfl rfl (by kernel_rfl) (fun _ _ _ h => h) (Or.inr ⟨by rfl, rfl⟩) ?_ ?_
          rotate_left
          · simp only [Act.put, List.setIfInBounds_toArray, List.set_cons_zero, List.set_cons_succ, i64_w, i32_w]
            rfl
          refine pure_ (i := 14) (N := some 32) (v := undef) (a' := ?_) #[true, true, true, true, true, true, true, true, true, true, true, true, true, true, true, false, false] rfl rfl (by kernel_rfl) (fun _ _ _ h => h) (Or.inr ⟨by rfl, rfl⟩) ?_ ?_
          rotate_left
          · simp only [Act.put, List.setIfInBounds_toArray, List.set_cons_zero, List.set_cons_succ, i64_w, i32_w]
            rfl
          refine pure_ (i := 15) (N := some 33) (v := undef) (a' := ?_) #[true, true, true, true, true, true, true, true, true, true, true, true, true, true, true, true, false] rfl rfl (by kernel_rfl) (fun _ _ _ h => h) (Or.inr ⟨by rfl, rfl⟩) ?_ ?_
          rotate_left
          · simp only [Act.put, List.setIfInBounds_toArray, List.set_cons_zero, List.set_cons_succ, i64_w, i32_w]
            rfl
          refine pure_ (i := 16) (N := some 34) (v := ?_) (a' := ?_) #[true, true, true, true, true, true, true, true, true, true, true, true, true, true, true, true, true] rfl rfl (by kernel_rfl) (fun _ _ _ h => h) (Or.inl ⟨by rfl, ?_⟩) ?_ ?_
          rotate_left
          · intro w'
            go_simp
            with_reducible rfl
          rotate_left
          · simp only [Act.put, List.setIfInBounds_toArray, List.set_cons_zero, List.set_cons_succ, i64_w, i32_w]
            rfl
          refine done_ (by kernel_rfl) ?_
          obtain rfl : P1 = [] := List.length_eq_zero_iff.mp (by have h1 := HJ.out.2.1; have h2 := HJN.out; omega)
          go_wp2
          go_roundg ko
          case measure => omega
          case rel => exact ⟨i + 1, by rw [HW1.out], ⟨by have := HI.out; omega, by have := HI.out; omega⟩, ⟨by rw [HT.out, sort_next key _ x [] P2 HP.out HGT.out (.inl rfl)]; have h := HR.out; simpa using h⟩, HK⟩
    · have hib : decide (i < (n : Int)) = false := decide_eq_false hi
      have HIN := Aside0.mk hi
      clear hi
      go_wp2
      go_end0
      exact ⟨rfl, by have h := HR.out; rw [List.take_of_length_le (by have := HL.out; have := HI.out; have := HIN.out; omega), List.drop_of_length_le (by have := HL.out; have := HI.out; have := HIN.out; omega), List.append_nil] at h; exact h, HK.out⟩
set_option maxHeartbeats 2000000 in
set_option maxRecDepth 100000 in
theorem stable_any (hc : Cmp W g gf lb fn key ok) (l : List Int) (tl : List Value) (hr : RowI W g l tl) (hok : ∀ x ∈ l, ok x) (hn : l.length ≤ 19) (c : Nat) :
    Calls Try.prog 58 #[.slice (some ⟨g, 0, none⟩) l.length c, .int .i64 (l.length : Int), .func (.func gf) #[] lb] W fun e w' => e = .returned (.tuple #[]) ∧ RowI w' g (sortF key l) tl ∧ Kg W g w' := by
  obtain ⟨n, hln⟩ : ∃ n, l.length = n := ⟨_, rfl⟩
  have HX := Aside0.mk (show Calls Try.prog 73 #[.slice (some ⟨g, 0, none⟩) n c, .int .i64 0, .int .i64 (n : Int), .func (.func gf) #[] lb] W fun e w' => e = .returned (.tuple #[]) ∧ RowI w' g (sortF key l) tl ∧ Kg W g w' from by have h := ins_any hc l tl hr hok (by omega) c; rw [hln] at h; exact h)
  rw [hln] at hn ⊢
  have hle : decide (20 ≤ (n : Int)) = false := decide_eq_false (by omega)
  have hlt : decide (20 < (n : Int)) = false := decide_eq_false (by omega)
  clear hr hok hn hln hc
  go_enter Try.func58, Try.ntmps58
  go_wp2
  go_loopg [7, 8] 0 (fun kq v7 v8 wr => v7 = .int .i64 0 ∧ v8 = .int .i64 20 ∧ W = wr)
  case atStart => exact ⟨rfl, rfl, rfl⟩
  case round =>
    obtain ⟨rfl, rfl, rfl⟩ := hrel
    go_wp2_with (first | ((with_reducible refine gate_callee (f := 73) rfl ?_); refine goesL_ (some 27) rfl rfl Try.func73 (by kernel_rfl) rfl #[.slice (some ⟨g, 0, none⟩) n c, .int .i64 0, .int .i64 (n : Int), .func (.func gf) #[] lb] rfl (by (simp only [List.map_toArray, List.map_cons, List.map_nil]); first | done | rfl) ?_; (refine (HX.out).mono ?_); rintro e w1 ⟨rfl, hr, hk⟩; refine ⟨_, rfl, ?_⟩; have HR := Aside0.mk hr; have HK := Aside0.mk hk; clear hr hk))
    simp only [Act.put, List.setIfInBounds_toArray, List.set_cons_zero, List.set_cons_succ]
    go_loopg [6] 0 (fun kq v6 wr => v6 = .int .i64 20 ∧ Aside0 (RowI wr g (sortF key l) tl) ∧ Aside0 (Kg W g wr))
    case atStart => exact ⟨rfl, HR, HK⟩
    case round =>
      clear HR HK
      obtain ⟨rfl, HR, HK⟩ := hrel
      go_wp2
      go_end0
      exact ⟨rfl, HR.out, HK.out⟩
set_option maxHeartbeats 2000000 in
set_option maxRecDepth 100000 in
theorem sort_any (hc : Cmp W g gf lb fn key ok) (l : List Int) (tl : List Value) (hr : RowI W g l tl) (hok : ∀ x ∈ l, ok x) (hn : l.length ≤ 19) (c : Nat) :
    Calls Try.prog 46 #[.slice (some ⟨g, 0, none⟩) l.length c, .func (.func gf) #[] lb] W fun e w' => e = .returned (.tuple #[]) ∧ RowI w' g (sortF key l) tl ∧ Kg W g w' := by
  obtain ⟨n, hln⟩ : ∃ n, l.length = n := ⟨_, rfl⟩
  have HX := Aside0.mk (show Calls Try.prog 58 #[.slice (some ⟨g, 0, none⟩) n c, .int .i64 (n : Int), .func (.func gf) #[] lb] W fun e w' => e = .returned (.tuple #[]) ∧ RowI w' g (sortF key l) tl ∧ Kg W g w' from by have h := stable_any hc l tl hr hok hn c; rw [hln] at h; exact h)
  rw [hln] at hn ⊢
  clear hr hok hn hln hc
  go_enter Try.func46, Try.ntmps46
  go_wp2_with (first | ((with_reducible refine gate_callee (f := 58) rfl ?_); refine goesL_ (some 8) rfl rfl Try.func58 (by kernel_rfl) rfl #[.slice (some ⟨g, 0, none⟩) n c, .int .i64 (n : Int), .func (.func gf) #[] lb] rfl (by (simp only [List.map_toArray, List.map_cons, List.map_nil]); first | done | rfl) ?_; (refine (HX.out).mono ?_); rintro e w1 ⟨rfl, hr, hk⟩; refine ⟨_, rfl, ?_⟩; have HR := Aside0.mk hr; have HK := Aside0.mk hk; clear hr hk))
  go_end0
  exact ⟨rfl, HR.out, HK.out⟩
set_option maxHeartbeats 2000000 in
set_option maxRecDepth 100000 in
theorem ins_zero (A : Option Addr) (c : Nat) {W : World} {f : Value} : Calls Try.prog 73 #[.slice A 0 c, .int .i64 0, .int .i64 0, f] W fun e w' => e = .returned (.tuple #[]) ∧ Below W.heap.size W w' := by
  go_enter Try.func73, Try.ntmps73
  go_wp2
  go_loopg [8] 0 (fun kq v8 wr => v8 = .int .i64 1 ∧ W = wr)
  case atStart => exact ⟨rfl, rfl⟩
  case round =>
    obtain ⟨rfl, rfl⟩ := hrel
    have HB := Aside0.mk (Below.refl W.heap.size W)
    go_wp2
    go_end0
    exact ⟨rfl, HB.out⟩
set_option maxHeartbeats 2000000 in
set_option maxRecDepth 100000 in
theorem stable_zero (A : Option Addr) (c : Nat) {W : World} {f : Value} : Calls Try.prog 58 #[.slice A 0 c, .int .i64 0, f] W fun e w' => e = .returned (.tuple #[]) ∧ Below W.heap.size W w' := by
  go_enter Try.func58, Try.ntmps58
  go_wp2
  go_loopg [7, 8] 0 (fun kq v7 v8 wr => v7 = .int .i64 0 ∧ v8 = .int .i64 20 ∧ W = wr)
  case atStart => exact ⟨rfl, rfl, rfl⟩
  case round =>
    obtain ⟨rfl, rfl, rfl⟩ := hrel
    go_wp2_with (first | ((with_reducible refine gate_callee (f := 73) rfl ?_); refine goesL_ (some 27) rfl rfl Try.func73 (by kernel_rfl) rfl #[.slice A 0 c, .int .i64 0, .int .i64 0, f] rfl (by (simp only [List.map_toArray, List.map_cons, List.map_nil]); first | done | rfl) ?_; (refine (ins_zero A c).mono ?_); rintro e w1 ⟨rfl, hb⟩; refine ⟨_, rfl, ?_⟩; have HB := Aside0.mk hb; clear hb))
    simp only [Act.put, List.setIfInBounds_toArray, List.set_cons_zero, List.set_cons_succ]
    go_loopg [6] 0 (fun kq v6 wr => v6 = .int .i64 20 ∧ Aside0 (Below W.heap.size W wr))
    case atStart => exact ⟨rfl, HB⟩
    case round =>
      clear HB
      obtain ⟨rfl, HB⟩ := hrel
      go_wp2
      go_end0
      exact ⟨rfl, HB.out⟩
set_option maxHeartbeats 2000000 in
set_option maxRecDepth 100000 in
theorem sort_zero (A : Option Addr) (c : Nat) {W : World} {f : Value} : Calls Try.prog 46 #[.slice A 0 c, f] W fun e w' => e = .returned (.tuple #[]) ∧ Below W.heap.size W w' := by
  go_enter Try.func46, Try.ntmps46
  go_wp2_with (first | ((with_reducible refine gate_callee (f := 58) rfl ?_); refine goesL_ (some 8) rfl rfl Try.func58 (by kernel_rfl) rfl #[.slice A 0 c, .int .i64 0, f] rfl (by (simp only [List.map_toArray, List.map_cons, List.map_nil]); first | done | rfl) ?_; (refine (stable_zero A c).mono ?_); rintro e w1 ⟨rfl, hb⟩; refine ⟨_, rfl, ?_⟩; have HB := Aside0.mk hb; clear hb))
  go_end0
  exact ⟨rfl, HB.out⟩
abbrev keyL (L : List Th) (i : Int) : Int := (rd_T33 L i).f1
set_option maxHeartbeats 2000000 in
set_option maxRecDepth 100000 in
theorem seen_cmp (L : List Th) (A : Option Addr) (c gl : Nat) {w : World} (hl : w.cell? ⟨gl, 0, none⟩ = some (.slice A L.length c)) (hC : Kd.C k33 w A L.length L) (a b : Int) (ha : 0 ≤ a ∧ a < L.length) (hb : 0 ≤ b ∧ b < L.length) (hk : ∀ i : Int, 0 ≤ i → i < L.length → 0 ≤ keyL L i ∧ keyL L i ≤ 100) :
    Calls Try.prog 47 #[.int .i64 a, .int .i64 b, .pointer (some ⟨gl, 0, none⟩)] w fun e w' => e = .returned (.int .i64 (keyL L a - keyL L b)) ∧ Below w.heap.size w w' := by
  obtain ⟨ad, _, _, rfl, _, xa, _⟩ := at_T33 hC a ha.1 ha.2
  obtain ⟨ad', _, _, e', _, xb, _⟩ := at_T33 hC b hb.1 hb.2
  injection e' with e'
  subst e'
  have h1 := hk a ha.1 ha.2
  have h2 := hk b hb.1 hb.2
  obtain ⟨ka, hka⟩ : ∃ k, keyL L a = k := ⟨_, rfl⟩
  obtain ⟨kb, hkb⟩ : ∃ k, keyL L b = k := ⟨_, rfl⟩
  rw [hka] at h1
  rw [hkb] at h2
  have XA := Aside0.mk (show w.cell? ⟨(ad.add (a.toNat * 4)).block, (ad.add (a.toNat * 4)).off + 1, none⟩ = some (.int .i64 ka) from by rw [← hka]; exact xa)
  have XB := Aside0.mk (show w.cell? ⟨(ad.add (b.toNat * 4)).block, (ad.add (b.toNat * 4)).off + 1, none⟩ = some (.int .i64 kb) from by rw [← hkb]; exact xb)
  have XL := Aside0.mk hl
  have HE := Aside0.mk (show keyL L a - keyL L b = wrap64 (ka - kb) from by rw [hka, hkb, wrap_in (by omega) (by omega)])
  have p0 := eq_true ha.1
  have p1 := eq_true ha.2
  have q0 := eq_true hb.1
  have q1 := eq_true hb.2
  clear xa xb hl hka hkb h1 h2 hk ha hb hC
  go_enter Try.func47, Try.ntmps47
  go_upto_region 1 with (fail)
  have XA := Aside0.mk (show w.drew.cell? _ = _ from XA.out)
  have XB := Aside0.mk (show w.drew.cell? _ = _ from XB.out)
  have XL := Aside0.mk (show w.drew.cell? _ = _ from XL.out)
  have HB := Aside0.mk (show Below w.heap.size w w.drew from (Below.refl _ _).drew)
  refine start_ (n := 12) (S := fun w' => w'.cell? ⟨gl, 0, none⟩ = some (.slice (some ad) L.length c) ∧ w'.cell? ⟨(ad.add (a.toNat * 4)).block, (ad.add (a.toNat * 4)).off + 1, none⟩ = some (.int .i64 ka) ∧ w'.cell? ⟨(ad.add (b.toNat * 4)).block, (ad.add (b.toNat * 4)).off + 1, none⟩ = some (.int .i64 kb)) (ds := []) #[false, false, false, false, false, false, false, false, false, false, false, false] (by kernel_rfl) rfl rfl ⟨XL.out, XA.out, XB.out⟩ (fun hHeld => ?_)
  generalize w.drew = wd at XA XB XL HB hHeld ⊢
  refine pure_ (i := 1) (N := some 7) (v := ?_) (a' := ?_) #[false, true, false, false, false, false, false, false, false, false, false, false] rfl rfl (by kernel_rfl) (fun _ _ _ h => h) (Or.inl ⟨by rfl, ?_⟩) ?_ ?_
  rotate_left
  · intro w'
    go_simp
    with_reducible rfl
  rotate_left
  · simp only [Act.put, List.setIfInBounds_toArray, List.set_cons_zero, List.set_cons_succ, i64_w, i32_w]
    rfl
  refine pure_ (i := 6) (N := some 12) (v := ?_) (a' := ?_) #[false, true, false, false, false, false, true, false, false, false, false, false] rfl rfl (by kernel_rfl) (fun _ _ _ h => h) (Or.inl ⟨by rfl, ?_⟩) ?_ ?_
  rotate_left
  · intro w'
    go_simp
    with_reducible rfl
  rotate_left
  · simp only [Act.put, List.setIfInBounds_toArray, List.set_cons_zero, List.set_cons_succ, i64_w, i32_w]
    rfl
  refine take_ (i := 0) (N := some 6) (v := ?_) (a' := ?_) #[true, true, false, false, false, false, true, false, false, false, false, false] rfl rfl (by kernel_rfl) (fun _ _ _ h => h) (Or.inl ⟨by rfl, ?_⟩) hHeld ?_ ?_
  rotate_left
  · rintro w' ⟨s0, s1, s2⟩
    go_simp
    with_reducible rfl
  rotate_left
  · simp only [Act.put, List.setIfInBounds_toArray, List.set_cons_zero, List.set_cons_succ, i64_w, i32_w]
    rfl
  refine pure_ (i := 2) (N := some 8) (v := ?_) (a' := ?_) #[true, true, true, false, false, false, true, false, false, false, false, false] rfl rfl (by kernel_rfl) (fun _ _ _ h => h) (Or.inl ⟨by rfl, ?_⟩) ?_ ?_
  rotate_left
  · intro w'
    go_simp
    with_reducible rfl
  rotate_left
  · simp only [Act.put, List.setIfInBounds_toArray, List.set_cons_zero, List.set_cons_succ, i64_w, i32_w]
    rfl
  refine pure_ (i := 3) (N := some 9) (v := ?_) (a' := ?_) #[true, true, true, true, false, false, true, false, false, false, false, false] rfl rfl (by kernel_rfl) (fun _ _ _ h => h) (Or.inl ⟨by rfl, ?_⟩) ?_ ?_
  rotate_left
  · intro w'
    go_simp
    with_reducible rfl
  rotate_left
  · simp only [Act.put, List.setIfInBounds_toArray, List.set_cons_zero, List.set_cons_succ, i64_w, i32_w]
    rfl
  refine take_ (i := 4) (N := some 10) (v := ?_) (a' := ?_) #[true, true, true, true, true, false, true, false, false, false, false, false] rfl rfl (by kernel_rfl) (fun _ _ _ h => h) (Or.inl ⟨by rfl, ?_⟩) hHeld ?_ ?_
  rotate_left
  · rintro w' ⟨s0, s1, s2⟩
    go_simp
    with_reducible rfl
  rotate_left
  · simp only [Act.put, List.setIfInBounds_toArray, List.set_cons_zero, List.set_cons_succ, i64_w, i32_w]
    rfl
  refine take_ (i := 5) (N := some 11) (v := ?_) (a' := ?_) #[true, true, true, true, true, true, true, false, false, false, false, false] rfl rfl (by kernel_rfl) (fun _ _ _ h => h) (Or.inl ⟨by rfl, ?_⟩) hHeld ?_ ?_
  rotate_left
  · rintro w' ⟨s0, s1, s2⟩
    go_simp
    with_reducible rfl
  rotate_left
  · simp only [Act.put, List.setIfInBounds_toArray, List.set_cons_zero, List.set_cons_succ, i64_w, i32_w]
    rfl
  refine pure_ (i := 7) (N := some 13) (v := ?_) (a' := ?_) #[true, true, true, true, true, true, true, true, false, false, false, false] rfl rfl (by kernel_rfl) (fun _ _ _ h => h) (Or.inl ⟨by rfl, ?_⟩) ?_ ?_
  rotate_left
  · intro w'
    go_simp
    with_reducible rfl
  rotate_left
  · simp only [Act.put, List.setIfInBounds_toArray, List.set_cons_zero, List.set_cons_succ, i64_w, i32_w]
    rfl
  refine pure_ (i := 8) (N := some 14) (v := ?_) (a' := ?_) #[true, true, true, true, true, true, true, true, true, false, false, false] rfl rfl (by kernel_rfl) (fun _ _ _ h => h) (Or.inl ⟨by rfl, ?_⟩) ?_ ?_
  rotate_left
  · intro w'
    go_simp
    with_reducible rfl
  rotate_left
  · simp only [Act.put, List.setIfInBounds_toArray, List.set_cons_zero, List.set_cons_succ, i64_w, i32_w]
    rfl
  refine take_ (i := 9) (N := some 15) (v := ?_) (a' := ?_) #[true, true, true, true, true, true, true, true, true, true, false, false] rfl rfl (by kernel_rfl) (fun _ _ _ h => h) (Or.inl ⟨by rfl, ?_⟩) hHeld ?_ ?_
  rotate_left
  · rintro w' ⟨s0, s1, s2⟩
    go_simp
    with_reducible rfl
  rotate_left
  · simp only [Act.put, List.setIfInBounds_toArray, List.set_cons_zero, List.set_cons_succ, i64_w, i32_w]
    rfl
  refine pure_ (i := 10) (N := some 16) (v := ?_) (a' := ?_) #[true, true, true, true, true, true, true, true, true, true, true, false] rfl rfl (by kernel_rfl) (fun _ _ _ h => h) (Or.inl ⟨by rfl, ?_⟩) ?_ ?_
  rotate_left
  · intro w'
    go_simp
    with_reducible rfl
  rotate_left
  · simp only [Act.put, List.setIfInBounds_toArray, List.set_cons_zero, List.set_cons_succ, i64_w, i32_w]
    rfl
  refine pure_ (i := 11) (N := some 5) (v := ?_) (a' := ?_) #[true, true, true, true, true, true, true, true, true, true, true, true] rfl rfl (by kernel_rfl) (fun _ _ _ h => h) (Or.inl ⟨by rfl, ?_⟩) ?_ ?_
  rotate_left
  · intro w'
    go_simp
    with_reducible rfl
  rotate_left
  · simp only [Act.put, List.setIfInBounds_toArray, List.set_cons_zero, List.set_cons_succ, i64_w, i32_w]
    rfl
  refine done_ (by kernel_rfl) ?_
  go_wp2
  go_ret
  exact ⟨by rw [HE.out]; rfl, HB.out⟩
end
end Go.Proofs.Ytijochlkmkmhdaa.LessMemCullLess
