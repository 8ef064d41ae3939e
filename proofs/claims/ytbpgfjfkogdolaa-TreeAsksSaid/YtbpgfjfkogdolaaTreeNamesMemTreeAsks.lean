/- tree.Names: the names in a tree, sorted, each once, in a row of the call's own. Under no condition but what stands at each. -/
import Derived.Test.YtbpgfjfkogdolaaTreeNamesTreeAsks
import Derived.Test.YtbpgfjfkogdolaaTreeStepsTreeAsks
import Derived.Sort.Row
import Derived.Sort.Grow
import Derived.Sort.EncStr
import Derived.Below
import Derived.Outline
namespace Go.Proofs.Ytbpgfjfkogdolaa.TreeNamesMemTreeAsks
section
open Go Go.Sort
set_option linter.unusedVariables false
/-- A block of strings. -/
def RowC (w : World) (g : Nat) (cs : List Value) (t : TypeId) : Prop := w.heap[g]? = some (.cells cs.toArray t (0, 0))
theorem putCells_list {α : Type} [Inhabited α] (enc : α → Value) (d : Array α) (cs : List Value) (h : d.size ≤ cs.length) : putCells enc 0 d cs.toArray = (d.toList.map enc ++ cs.drop d.size).toArray := by
  apply Array.ext_getElem?
  intro k
  simp only [putCells, Array.getElem?_mapIdx, List.getElem?_toArray]
  by_cases hk : k < d.size
  · rw [List.getElem?_append_left (by simpa using hk), List.getElem?_eq_getElem (by omega), List.getElem?_map, Array.getElem?_toList, Array.getElem?_eq_getElem hk]
    simp [hk]
  · have hl : (d.toList.map enc).length = d.size := by simp
    rw [List.getElem?_append_right (by omega), List.getElem?_drop, hl, show d.size + (k - d.size) = k from by omega]
    cases cs[k]? with
    | none => rfl
    | some x => simp [hk]
theorem RowC.put {α : Type} [Inhabited α] {w : World} {g : Nat} {cs : List Value} {t : TypeId} (h : RowC w g cs t) (enc : α → Value) (d : Array α) (hd : d.size ≤ cs.length) : RowC (putRow enc w g 0 d) g (d.toList.map enc ++ cs.drop d.size) t := by
  unfold RowC at h ⊢
  rw [← putCells_list enc d cs hd]
  simp [putRow, mapBlock, Array.getElem?_modify, h, onCells]
theorem putRow_far {α : Type} [Inhabited α] (enc : α → Value) (w : World) (g : Nat) (d : Array α) (j : Nat) (hj : j ≠ g) : (putRow enc w g 0 d).heap[j]? = w.heap[j]? := by
  simp [putRow, mapBlock, Array.getElem?_modify, Ne.symm hj]
/-- Sorted. -/
theorem RowC.sorted {w : World} {g : Nat} {cs : List Value} {t : TypeId} (h : RowC w g cs t) (d : Array (List UInt8)) (hd : d.size ≤ cs.length) (n : Nat) (os : Array Obj) : RowC (grow (putRow encStr (Go.Sort.ahead w n) g 0 d) os) g (d.toList.map encStr ++ cs.drop d.size) t := by
  have h1 : RowC (Go.Sort.ahead w n) g cs t := h
  have h2 := h1.put encStr d hd
  unfold RowC at h2 ⊢
  have hlt := (Array.getElem?_eq_some_iff.1 h2).1
  show ((putRow encStr (Go.Sort.ahead w n) g 0 d).heap ++ os)[g]? = _
  rw [Array.getElem?_append_left hlt]
  exact h2
theorem below_put {base : Nat} {w : World} {g : Nat} {α : Type} [Inhabited α] (enc : α → Value) (hb : base ≤ g) (d : Array α) (n : Nat) : Go.RowKit.Below base w (putRow enc (Go.Sort.ahead w n) g 0 d) :=
  ⟨rfl, rfl, rfl, by simp, fun k hk => putRow_far enc (Go.Sort.ahead w n) g d k (by omega)⟩
theorem below_grow {base : Nat} {w : World} (hb : base ≤ w.heap.size) (os : Array Obj) : Go.RowKit.Below base w (grow w os) :=
  ⟨rfl, rfl, rfl, by simp [grow], fun k hk => by show (w.heap ++ os)[k]? = _; rw [Array.getElem?_append_left (by omega)]⟩
end
open Go Go.RowKit Go.Proofs.YtbpgfjfkogdolaaW.PrintWords Go.Proofs.YtbpgfjfkogdolaaW.PrintLast Go.Proofs.YtbpgfjfkogdolaaW.PrintMore Go.Proofs.Ytbpgfjfkogdolaa.PTreeAsks Go.Proofs.Ytbpgfjfkogdolaa.Fnv Go.Proofs.Ytbpgfjfkogdolaa.TreePlainTreeAsks Go.Proofs.Ytbpgfjfkogdolaa.TreeMemTreeAsks Go.Proofs.Ytbpgfjfkogdolaa.TreeEvTreeAsks Go.Proofs.Ytbpgfjfkogdolaa.TreeNamesTreeAsks Go.Proofs.Ytbpgfjfkogdolaa.TreeStepsTreeAsks
set_option linter.unusedVariables false
set_option linter.unusedSimpArgs false
theorem rowS_of {w : World} {base : Nat} {ok : Nat → Prop} {A : Option Addr} {c : Nat} {l : List ByteArray} (h : Kd.R Kd.string 9 w base ok (.slice A l.length c) l) (hp : 0 < l.length) : ∃ g tl, A = some ⟨g, 0, none⟩ ∧ base ≤ g ∧ RowC w g (l.map Value.string ++ tl) 9 := by
  have h := Kd.R_N h
  obtain ⟨g, cap, e, hg, hlt, cs, hcs⟩ := Kd.N_form h hp
  injection e with e1 _ _
  subst e1
  refine ⟨g, cs.toList.drop l.length, rfl, hg, ?_⟩
  obtain ⟨_, _, h3⟩ := (Kd.N_reads' h).2.2
  obtain ⟨ad, e, hc⟩ := h3 hp
  injection e with e
  subst e
  have hcell : ∀ j v, l[j]? = some v → cs[j]? = some (Value.string v) := fun j v hj => by
    obtain ⟨c', h1, h2, h4⟩ := hc j v hj
    have e2 : c' = [.string v] := h2
    have h5 := h4 0 (.string v) (by rw [e2]; rfl)
    have e3 : (Addr.add ⟨g, 0, none⟩ (j * Kd.string.sz + 0)) = ⟨g, j, none⟩ := by
      rw [show Kd.string.sz = 1 from rfl]
      unfold Addr.add
      split
      · next h0 => simp at h0; simp [h0]
      · simp
    rw [e3, blk_cell hcs] at h5
    exact h5
  have hl : l.length ≤ cs.size := by
    have := hcell (l.length - 1) (l[l.length - 1]'(by omega)) (List.getElem?_eq_getElem _)
    have := (Array.getElem?_eq_some_iff.1 this).1
    omega
  have e4 : cs.toList = l.map Value.string ++ cs.toList.drop l.length := by
    conv => lhs; rw [← List.take_append_drop l.length cs.toList]
    congr 1
    refine List.ext_getElem? fun j => ?_
    by_cases hj : j < l.length
    · rw [List.getElem?_take_of_lt hj, List.getElem?_map, List.getElem?_eq_getElem hj, Array.getElem?_toList, hcell j l[j] (List.getElem?_eq_getElem hj)]
      rfl
    · rw [List.getElem?_eq_none (by rw [List.length_take]; omega), List.getElem?_eq_none (by rw [List.length_map]; omega)]
  unfold RowC
  rw [← e4, Array.toArray_toList]
  exact hcs
theorem RowC.cell {w : World} {g : Nat} {cs : List Value} {t : TypeId} (h : RowC w g cs t) (j : Nat) : w.cell? ⟨g, j, none⟩ = cs[j]? := (blk_cell h j).trans (List.getElem?_toArray ..)
theorem RowC.below {w w' : World} {g : Nat} {cs : List Value} {t : TypeId} (h : RowC w g cs t) (hb : Below w.heap.size w w') : RowC w' g cs t := blk_below h hb
theorem RowC.lt {w : World} {g : Nat} {cs : List Value} {t : TypeId} (h : RowC w g cs t) : g < w.heap.size := blk_lt h
theorem RowC.holds {w : World} {g : Nat} {ss : List (List UInt8)} {tl : List Value} {t : TypeId} (h : RowC w g (ss.map encStr ++ tl) t) : Go.Sort.Holds encStr w g 0 ss.toArray := by
  intro j hj
  have hj' : j < ss.length := by simpa using hj
  refine ⟨?_, by rw [Nat.zero_add]; exact blk_frozen h j⟩
  rw [Nat.zero_add, h.cell, List.getElem?_append_left (by simpa using hj'), List.getElem?_map, List.getElem?_eq_getElem hj']
  simp [hj']
theorem enc_bs (l : List ByteArray) : l.map Value.string = (l.map fun b => b.data.toList).map encStr := by
  rw [List.map_map]
  refine List.map_congr_left fun b _ => ?_
  cases b
  simp [encStr]
theorem enc_names (l : List (List UInt8)) : l.map encStr = (l.map bs).map Value.string := by rw [List.map_map]; rfl
theorem heapN : Kd.Heap k25 := Kd.heap_fix (fun d hd => Kd.heap_iso _ (Kd.heap_pair (Kd.heap_int _) (Kd.heap_pair Kd.heap_string (Kd.heap_pair (Kd.heap_int _) (Kd.heap_slice _ hd)))))
def sortZ (l : List ByteArray) : List (List UInt8) := (l.map fun b => b.data.toList).mergeSort fun x y => decide (x ≤ y)
theorem sortZ_len (l : List ByteArray) : (sortZ l).length = l.length := by unfold sortZ; rw [List.length_mergeSort, List.length_map]
theorem sort_call {w : World} {g : Nat} {l : List ByteArray} {tl : List Value} (cl : Nat) (h : RowC w g ((l.map fun b => b.data.toList).map encStr ++ tl) 9) (hl : l.length ≤ 1000) :
    Calls Try.prog 38 #[.slice (some ⟨g, 0, none⟩) l.length cl] w fun e w' => e = .returned (.tuple #[]) ∧ RowC w' g ((sortZ l).map encStr ++ tl) 9 ∧ ∀ base, base ≤ g → base ≤ w.heap.size → Below base w w' := by
  have hs := Try.slices_Sort_string g 0 cl (l.map fun b => b.data.toList) w h.holds h.lt (by rw [List.length_map]; omega)
  rw [List.length_map] at hs
  refine hs.mono fun e w' he => ?_
  obtain ⟨rfl, q, os, rfl⟩ := he
  refine ⟨rfl, ?_, fun base h1 h2 => (below_put encStr h1 _ q).trans (below_grow (by rw [Go.Sort.size_putRow, Go.Sort.heap_ahead]; exact h2) os)⟩
  have := h.sorted (sortZ l).toArray (by simp [sortZ]) q os
  simp only [List.toList_toArray] at this
  have e2 : (List.map encStr (List.map (fun b : ByteArray => b.data.toList) l) ++ tl).drop (sortZ l).toArray.size = tl := by
    rw [List.drop_left' (by simp [sortZ])]
  rw [e2] at this
  exact this
theorem compact_call {w : World} {g : Nat} {l : List ByteArray} {tl : List Value} (cl : Nat) (h : RowC w g ((sortZ l).map encStr ++ tl) 9) (hl : l.length ≤ 1000) (hc : l.length ≤ cl) :
    Calls Try.prog 39 #[.slice (some ⟨g, 0, none⟩) l.length cl] w fun e w' => e = .returned (.slice (some ⟨g, 0, none⟩) (namesZ l).length cl) ∧ (∃ tl2, RowC w' g ((namesZ l).map encStr ++ tl2) 9) ∧ ∀ base, base ≤ g → base ≤ w.heap.size → Below base w w' := by
  have hs := Try.slices_Compact_string g 0 cl (sortZ l) w h.holds (by rw [sortZ_len]; omega) (by rw [sortZ_len]; exact hc)
  rw [sortZ_len] at hs
  have hz := namesZ_len l
  refine hs.mono fun e w' he => ?_
  obtain ⟨rfl, q, rfl⟩ := he
  refine ⟨rfl, ?_, fun base h1 h2 => below_put encStr h1 _ q⟩
  have := RowC.put (w := Go.Sort.ahead w q) h encStr (namesZ l ++ List.replicate (l.length - (namesZ l).length) []).toArray (by simp [sortZ_len]; omega)
  simp only [List.toList_toArray, List.map_append, List.append_assoc] at this
  exact ⟨_, this⟩
/-- What Names hands over. -/
def HasZ (w : World) (base : Nat) (A : Option Addr) (c : Nat) (Z : List ByteArray) : Prop := Z.length ≤ c ∧ (0 < Z.length → ∃ g tl, A = some ⟨g, 0, none⟩ ∧ base ≤ g ∧ RowC w g (Z.map Value.string ++ tl) 9)
set_option maxHeartbeats 4000000 in
set_option maxRecDepth 100000 in
theorem Names_any (n : Nd) (A3 : Option Addr) (c3 : Nat) {w : World} (hT : Kd.C k25 w A3 n.f3.length n.f3) (hc : n.f3.length ≤ c3) {k : Nat} {l : List ByteArray} (hk : tree_names.f k n.f0 n.f1 n.f2 n.f3 = some l) (hl : l.length ≤ 1000) :
    Calls Try.prog 25 #[.agg #[.int .i64 n.f0, .string n.f1, .int .i64 n.f2, .slice A3 n.f3.length c3]] w fun e w' => ∃ A c, e = .returned (.slice A ((namesZ l).map bs).length c) ∧ HasZ w' w.heap.size A c ((namesZ l).map bs) ∧ Below w.heap.size w w' := by
  have HT := Aside0.mk hT
  have HC := Aside0.mk hc
  have HK := Aside0.mk hk
  have HL := Aside0.mk hl
  clear hT hc hk hl
  have hz := namesZ_len l
  have HZ := Aside0.mk hz
  clear hz
  go_enter Try.func25, Try.ntmps25
  go_upto_region 2 with (first | ((with_reducible refine gate_dst (N := 1) rfl ?_); refine box_event ?hg (N := 1) ?hd (cs := #[.int .i64 n.f0, .string n.f1, .int .i64 n.f2, .slice A3 n.f3.length c3]) (t := 25) ?hr ?_; (case hd => rfl); (case hg => rfl); (case hr => first | (go_simp; done) | (go_simp; rfl)); intro g1 hg w1 hbox hb; have HB := Aside0.mk hb; have B1 := Aside0.mk hbox; clear hg hbox hb; have cb0 := (blk_cell B1.out 0).trans rfl; have cb1 := (blk_cell B1.out 1).trans rfl; have cb2 := (blk_cell B1.out 2).trans rfl; have cb3 := (blk_cell B1.out 3).trans rfl) | ((with_reducible refine gate_callee (f := 37) rfl ?_); refine goesL_ (some 5) rfl rfl Try.func37 (by kernel_rfl) rfl #[.agg #[.int .i64 n.f0, .string n.f1, .int .i64 n.f2, .slice A3 n.f3.length c3]] rfl (by (simp only [List.map_toArray, List.map_cons, List.map_nil]); first | done | rfl) ?_; (refine (tree_names.calls k n.f0 n.f1 n.f2 A3 c3 n.f3 l _ (Kd.F_now (Kd.F_below (Kd.C_F heapN HT.out) HB.out)) HC.out HK.out).mono ?_); rintro e w2 ⟨v_, rfl, hR, hb⟩; refine ⟨_, rfl, ?_⟩; obtain ⟨Al_, cl, rfl⟩ := Kd.R_slice hR; have HR := Aside0.mk (Kd.R_lower hR HB.out.size); have HB := Aside0.mk (HB.out.trans (hb.mono HB.out.size)); clear hR hb cb0 cb1 cb2 cb3))
  by_cases hp : 0 < l.length
  · obtain ⟨g, tl, rfl, hg, hrow⟩ := rowS_of HR.out hp
    have HG := Aside0.mk hg
    have HRW := Aside0.mk (show RowC w2 g ((l.map fun b => b.data.toList).map encStr ++ tl) 9 from by rw [← enc_bs]; exact hrow)
    have HCL := Aside0.mk (Kd.R_reads' HR.out).2.1
    clear hg hrow hp
    go_wp2_with (first | ((with_reducible refine gate_callee (f := 38) rfl ?_); refine goesL_ (some 7) rfl rfl Try.func38 (by kernel_rfl) rfl #[.slice (some ⟨g, 0, none⟩) l.length cl] rfl (by (simp only [List.map_toArray, List.map_cons, List.map_nil]); first | done | rfl) ?_; (refine (sort_call cl HRW.out HL.out).mono ?_); rintro e w3 ⟨rfl, hr, hb⟩; refine ⟨_, rfl, ?_⟩; have HRW := Aside0.mk hr; have HB := Aside0.mk (HB.out.trans (hb w.heap.size HG.out HB.out.size)); clear hr hb) | ((with_reducible refine gate_callee (f := 39) rfl ?_); refine goesL_ (some 9) rfl rfl Try.func39 (by kernel_rfl) rfl #[.slice (some ⟨g, 0, none⟩) l.length cl] rfl (by (simp only [List.map_toArray, List.map_cons, List.map_nil]); first | done | rfl) ?_; (refine (compact_call cl HRW.out HL.out HCL.out).mono ?_); rintro e w5 ⟨rfl, ⟨tl2, hr⟩, hb⟩; refine ⟨_, rfl, ?_⟩; have HRW := Aside0.mk hr; have HB := Aside0.mk (HB.out.trans (hb w.heap.size HG.out HB.out.size)); clear hr hb))
    go_ret
    refine ⟨some ⟨g, 0, none⟩, cl, by rw [List.length_map]; rfl, ⟨?_, fun _ => ⟨g, tl2, rfl, HG.out, ?_⟩⟩, HB.out⟩
    · rw [List.length_map]; exact Nat.le_trans HZ.out HCL.out
    · rw [← enc_names]; exact HRW.out
  · have h0 : l = [] := List.length_eq_zero_iff.mp (by omega)
    subst h0
    have e0 : namesZ [] = [] := List.eq_nil_of_length_eq_zero (Nat.le_zero.mp HZ.out)
    clear hp
    go_wp2_with (first | ((with_reducible refine gate_callee (f := 38) rfl ?_); refine goesL_ (some 7) rfl rfl Try.func38 (by kernel_rfl) rfl #[.slice Al_ 0 cl] rfl (by (simp only [List.map_toArray, List.map_cons, List.map_nil]); first | done | rfl) ?_; (refine (Try.slices_Sort_string_none Al_ cl _).mono ?_); rintro e w3 ⟨rfl, rfl⟩; refine ⟨_, rfl, ?_⟩) | ((with_reducible refine gate_callee (f := 39) rfl ?_); refine goesL_ (some 9) rfl rfl Try.func39 (by kernel_rfl) rfl #[.slice Al_ 0 cl] rfl (by (simp only [List.map_toArray, List.map_cons, List.map_nil]); first | done | rfl) ?_; (refine (Try.slices_Compact_string_empty Al_ cl _).mono ?_); rintro e w3 ⟨rfl, rfl⟩; refine ⟨_, rfl, ?_⟩))
    go_ret
    refine ⟨Al_, cl, by rw [e0]; rfl, ⟨by rw [e0]; exact Nat.zero_le _, fun h => absurd h (by rw [e0]; simp)⟩, HB.out⟩
end Go.Proofs.Ytbpgfjfkogdolaa.TreeNamesMemTreeAsks
