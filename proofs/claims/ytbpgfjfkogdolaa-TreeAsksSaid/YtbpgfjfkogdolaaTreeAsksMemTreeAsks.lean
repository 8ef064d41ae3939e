/- The function that TreeAsks hands to tree.Tick: it counts, it looks each name up, it answers. Under the conditions that stand at each. -/
import Derived.Test.YtbpgfjfkogdolaaTreeNamesMemTreeAsks
import Derived.Test.YtbpgfjfkogdolaaTreeMadeTreeAsks
namespace Go.Proofs.Ytbpgfjfkogdolaa.TreeAsksMemTreeAsks
open Go Go.RowKit Go.Proofs.YtbpgfjfkogdolaaW.PrintWords Go.Proofs.YtbpgfjfkogdolaaW.PrintLast Go.Proofs.YtbpgfjfkogdolaaW.PrintMore Go.Proofs.Ytbpgfjfkogdolaa.PTreeAsks Go.Proofs.Ytbpgfjfkogdolaa.Fnv Go.Proofs.Ytbpgfjfkogdolaa.TreePlainTreeAsks Go.Proofs.Ytbpgfjfkogdolaa.TreeMemTreeAsks Go.Proofs.Ytbpgfjfkogdolaa.TreeEvTreeAsks Go.Proofs.Ytbpgfjfkogdolaa.TreeTopTreeAsks Go.Proofs.Ytbpgfjfkogdolaa.TreeAnswersTreeAsks Go.Proofs.Ytbpgfjfkogdolaa.TreeAsksLawTreeAsks Go.Proofs.Ytbpgfjfkogdolaa.TreeNamesTreeAsks Go.Proofs.Ytbpgfjfkogdolaa.TreeStepsTreeAsks Go.Proofs.Ytbpgfjfkogdolaa.TreeNamesMemTreeAsks
set_option linter.unusedVariables false
set_option linter.unusedSimpArgs false
theorem wrap_next (a : Int) : wrap64 (wrap64 a + 1) = wrap64 (a + 1) := by unfold wrap64; omega
/-- What was laid out ahead of the walk, in blocks older than the two that the asked function turns. -/
structure Laid (W0 : World) (g11 g8 g4 g10 : Nat) (AZ : Option Addr) (cZ : Nat) (Z : List ByteArray) (A2 : Option Addr) (c2 : Nat) (l2 : List Int) (k : Int) : Prop where
  b8 : W0.heap[g8]? = some (.cells #[.slice AZ Z.length cZ] 50 (0, 0))
  l8 : g8 < g11
  b4 : W0.heap[g4]? = some (.cells #[.slice A2 l2.length c2] 22 (0, 0))
  l4 : g4 < g11
  b10 : W0.heap[g10]? = some (.cells #[.int .i64 k] 3 (0, 0))
  l10 : g10 < g11
  z : 0 < Z.length → ∃ gz tl, AZ = some ⟨gz, 0, none⟩ ∧ gz < g11 ∧ RowC W0 gz (Z.map Value.string ++ tl) 9
  zc : Z.length ≤ cZ
  zl : Z.length ≤ 1000
  an : Kd.F (Kd.int .i64) W0 (fun j => j < g11) A2 l2.length l2
section
variable {W0 w w' : World} {g11 g12 g8 g4 g10 : Nat} {AZ : Option Addr} {cZ : Nat} {Z : List ByteArray} {A2 : Option Addr} {c2 : Nat} {l2 : List Int} {k : Int}
theorem Laid.at (h : Laid W0 g11 g8 g4 g10 AZ cZ Z A2 c2 l2 k) (hb : Below g11 W0 w) : Laid w g11 g8 g4 g10 AZ cZ Z A2 c2 l2 k :=
  ⟨(hb.block _ h.l8).trans h.b8, h.l8, (hb.block _ h.l4).trans h.b4, h.l4, (hb.block _ h.l10).trans h.b10, h.l10, fun hp => by obtain ⟨gz, tl, e, hl, hr⟩ := h.z hp; exact ⟨gz, tl, e, hl, (hb.block _ hl).trans hr⟩, h.zc, h.zl, Kd.F_step h.an fun j hj _ => hb.block j hj⟩
theorem contains_call (h : Laid w g11 g8 g4 g10 AZ cZ Z A2 c2 l2 k) (x : ByteArray) : Calls Try.prog 28 #[.slice AZ Z.length cZ, .string x] w fun e w' => e = .returned (.bool (Go.Lib.containsS Z x)) ∧ w' = w := by
  rcases Nat.eq_zero_or_pos Z.length with hz | hp
  · have e : Z = [] := List.length_eq_zero_iff.mp hz
    rw [hz, e]
    exact Try.slices_Contains_string_empty AZ cZ x w
  · obtain ⟨gz, tl, rfl, _, hr⟩ := h.z hp
    have := Try.slices_Contains_string gz 0 Z.length cZ Z x w (Nat.le_refl _) (by have := h.zl; omega) (fun j hj => by
      rw [Nat.zero_add, hr.cell, List.getElem?_append_left (by simpa using hj), List.getElem?_map, List.getElem?_eq_getElem hj]
      simp [List.getD_eq_getElem?_getD, List.getElem?_eq_getElem hj])
    rw [List.take_length] at this
    exact this
/-- What the asked function holds. -/
structure InvA (W0 : World) (g11 g12 : Nat) (w : World) (s : Int × Bool) : Prop where
  bel : Below g11 W0 w
  b11 : w.heap[g11]? = some (.cells #[.int .i64 (wrap64 s.1)] 3 (0, 0))
  b12 : w.heap[g12]? = some (.cells #[.bool s.2] 4 (0, 0))
abbrev anA (l2 : List Int) (k : Int) (Z : List ByteArray) : Int × Bool → ByteArray → Int × (Int × Bool) := askF (ansV l2 k) (Go.Lib.containsS Z)
set_option maxHeartbeats 4000000 in
set_option maxRecDepth 100000 in
theorem ask_call (hL : Laid W0 g11 g8 g4 g10 AZ cZ Z A2 c2 l2 k) (h12 : g11 < g12) (s : Int × Bool) (x : ByteArray) (hI : InvA W0 g11 g12 w s) :
    Calls Try.prog 27 #[.string x, .pointer (some ⟨g11, 0, none⟩), .pointer (some ⟨g12, 0, none⟩), .pointer (some ⟨g8, 0, none⟩), .pointer (some ⟨g4, 0, none⟩), .pointer (some ⟨g10, 0, none⟩)] w fun e w' => e = .returned (.int .i64 (anA l2 k Z s x).1) ∧ InvA W0 g11 g12 w' (anA l2 k Z s x).2 ∧ w.heap.size ≤ w'.heap.size ∧ ∀ j, g12 < j → j < w.heap.size → w'.heap[j]? = w.heap[j]? := by
  obtain ⟨a, o⟩ := s
  have HL := Aside0.mk hL
  have HI := Aside0.mk hI
  have N12 := Aside0.mk (show g11 ≠ g12 from Nat.ne_of_lt h12)
  have L12 := Aside0.mk h12
  have c1 := (blk_cell hI.b11 0).trans rfl
  have f1 := blk_frozen hI.b11 0
  clear hL hI h12
  go_enter Try.func27, Try.ntmps27
  go_upto_region 2 with (fail)
  rw [wrap_next]
  have B11 := Aside0.mk (show (w.setCell ⟨g11, 0, none⟩ (.int .i64 (wrap64 (a + 1)))).heap[g11]? = some (.cells #[.int .i64 (wrap64 (a + 1))] 3 (0, 0)) from blk_put HI.out.b11 0 _ rfl)
  have B12 := Aside0.mk (show (w.setCell ⟨g11, 0, none⟩ (.int .i64 (wrap64 (a + 1)))).heap[g12]? = some (.cells #[.bool o] 4 (0, 0)) from blk_far HI.out.b12 N12.out.symm _)
  have HB := Aside0.mk (show Below g11 W0 (w.setCell ⟨g11, 0, none⟩ (.int .i64 (wrap64 (a + 1)))) from HI.out.bel.setCell (Nat.le_refl _) _)
  have HK := Aside0.mk (show w.heap.size ≤ (w.setCell ⟨g11, 0, none⟩ (.int .i64 (wrap64 (a + 1)))).heap.size ∧ ∀ j, g12 < j → j < w.heap.size → (w.setCell ⟨g11, 0, none⟩ (.int .i64 (wrap64 (a + 1)))).heap[j]? = w.heap[j]? from ⟨by simp [World.setCell], fun j hj _ => Below.heap_setCell w _ _ j (by show j ≠ g11; have := L12.out; omega)⟩)
  clear c1 f1
  generalize w.setCell ⟨g11, 0, none⟩ (.int .i64 (wrap64 (a + 1))) = w1 at B11 B12 HB HK ⊢
  have HLw := Aside0.mk (HL.out.at HB.out)
  have c2_ := (blk_cell B12.out 0).trans rfl
  have f2_ := blk_frozen B12.out 0
  have c8_ := (blk_cell HLw.out.b8 0).trans rfl
  cases o
  all_goals
    go_upto_region 3 with (first | ((with_reducible refine gate_callee (f := 28) rfl ?_); refine goesW_ (some 14) rfl ?hw Try.func28 (by kernel_rfl) rfl #[.slice AZ Z.length cZ, .string x] rfl (by (simp only [List.map_toArray, List.map_cons, List.map_nil]); first | done | rfl) ?_; (case hw => rfl); (refine (contains_call HLw.out x).mono ?_); rintro e w9 ⟨rfl, rfl⟩; refine ⟨_, rfl, ?_⟩))
  · have B11 := Aside0.mk (show (w1.setCell ⟨g12, 0, none⟩ (.bool false)).heap[g11]? = some (.cells #[.int .i64 (wrap64 (a + 1))] 3 (0, 0)) from blk_far B11.out N12.out _)
    have B12 := Aside0.mk (show (w1.setCell ⟨g12, 0, none⟩ (.bool (false))).heap[g12]? = some (.cells #[.bool (false)] 4 (0, 0)) from blk_put B12.out 0 _ rfl)
    have HB := Aside0.mk (show Below g11 W0 (w1.setCell ⟨g12, 0, none⟩ (.bool (false))) from HB.out.setCell (Nat.le_of_lt L12.out) _)
    have HK := Aside0.mk (show w.heap.size ≤ (w1.setCell ⟨g12, 0, none⟩ (.bool (false))).heap.size ∧ ∀ j, g12 < j → j < w.heap.size → (w1.setCell ⟨g12, 0, none⟩ (.bool (false))).heap[j]? = w.heap[j]? from ⟨by simpa [World.setCell] using HK.out.1, fun j h1 h2 => (Below.heap_setCell w1 _ _ j (by show j ≠ g12; omega)).trans (HK.out.2 j h1 h2)⟩)
    clear c2_ f2_ c8_ HLw
    generalize w1.setCell ⟨g12, 0, none⟩ (.bool (false)) = w2 at B11 B12 HB HK ⊢
    have HLw := Aside0.mk (HL.out.at HB.out)
    have c4_ := (blk_cell HLw.out.b4 0).trans rfl
    have c10_ := (blk_cell HLw.out.b10 0).trans rfl
    go_wp2_with (first | ((with_reducible refine gate_callee (f := 11) rfl ?_); refine goesL_ (some 18) rfl rfl Try.func11 (by kernel_rfl) rfl #[.slice A2 l2.length c2, .int .i64 k] rfl (by (simp only [List.map_toArray, List.map_cons, List.map_nil]); first | done | rfl) ?_; (refine (answers_any A2 c2 l2 k).mono ?_); rintro e w3 ⟨gl, gr, rfl, hgl, hgr, hb⟩; refine ⟨_, rfl, ?_⟩; have HGL := Aside0.mk hgl; have HGR := Aside0.mk hgr; have BW := Aside0.mk B11.out; have B11 := Aside0.mk (blk_below B11.out hb); have B12 := Aside0.mk (blk_below B12.out hb); have HK := Aside0.mk (show w.heap.size ≤ _ ∧ ∀ j, g12 < j → j < w.heap.size → _ = w.heap[j]? from ⟨Nat.le_trans HK.out.1 hb.size, fun j h1 h2 => (hb.block j (Nat.lt_of_lt_of_le h2 HK.out.1)).trans (HK.out.2 j h1 h2)⟩); have HB := Aside0.mk (HB.out.trans (hb.mono (Nat.le_of_lt (blk_lt BW.out)))); have HLw := Aside0.mk (HL.out.at HB.out); clear hgl hgr hb BW c4_ c10_) | ((with_reducible refine gate_fn rfl ?_); refine goesC_ (some 20) rfl rfl Try.func34 (by kernel_rfl) rfl #[.string x] rfl rfl (by (simp only [List.map_toArray, List.map_cons, List.map_nil]); first | done | rfl) ?_; (refine (ask_any gl gr A2 c2 l2 k x HGL.out HGR.out (Kd.F_now HLw.out.an)).mono ?_); rintro e w4 ⟨rfl, hb⟩; refine ⟨_, rfl, ?_⟩; have BW := Aside0.mk B11.out; have B11 := Aside0.mk (blk_below B11.out hb); have B12 := Aside0.mk (blk_below B12.out hb); have HK := Aside0.mk (show w.heap.size ≤ _ ∧ ∀ j, g12 < j → j < w.heap.size → _ = w.heap[j]? from ⟨Nat.le_trans HK.out.1 hb.size, fun j h1 h2 => (hb.block j (Nat.lt_of_lt_of_le h2 HK.out.1)).trans (HK.out.2 j h1 h2)⟩); have HB := Aside0.mk (HB.out.trans (hb.mono (Nat.le_of_lt (blk_lt BW.out)))); clear hb BW))
    go_ret
    exact ⟨rfl, ⟨HB.out, B11.out, B12.out⟩, HK.out⟩
  · have B11 := Aside0.mk (show (w9.setCell ⟨g12, 0, none⟩ (.bool (Go.Lib.containsS Z x))).heap[g11]? = some (.cells #[.int .i64 (wrap64 (a + 1))] 3 (0, 0)) from blk_far B11.out N12.out _)
    have B12 := Aside0.mk (show (w9.setCell ⟨g12, 0, none⟩ (.bool (Go.Lib.containsS Z x))).heap[g12]? = some (.cells #[.bool (Go.Lib.containsS Z x)] 4 (0, 0)) from blk_put B12.out 0 _ rfl)
    have HB := Aside0.mk (show Below g11 W0 (w9.setCell ⟨g12, 0, none⟩ (.bool (Go.Lib.containsS Z x))) from HB.out.setCell (Nat.le_of_lt L12.out) _)
    have HK := Aside0.mk (show w.heap.size ≤ (w9.setCell ⟨g12, 0, none⟩ (.bool (Go.Lib.containsS Z x))).heap.size ∧ ∀ j, g12 < j → j < w.heap.size → (w9.setCell ⟨g12, 0, none⟩ (.bool (Go.Lib.containsS Z x))).heap[j]? = w.heap[j]? from ⟨by simpa [World.setCell] using HK.out.1, fun j h1 h2 => (Below.heap_setCell w9 _ _ j (by show j ≠ g12; omega)).trans (HK.out.2 j h1 h2)⟩)
    clear c2_ f2_ c8_ HLw
    generalize w9.setCell ⟨g12, 0, none⟩ (.bool (Go.Lib.containsS Z x)) = w2 at B11 B12 HB HK ⊢
    have HLw := Aside0.mk (HL.out.at HB.out)
    have c4_ := (blk_cell HLw.out.b4 0).trans rfl
    have c10_ := (blk_cell HLw.out.b10 0).trans rfl
    go_wp2_with (first | ((with_reducible refine gate_callee (f := 11) rfl ?_); refine goesL_ (some 18) rfl rfl Try.func11 (by kernel_rfl) rfl #[.slice A2 l2.length c2, .int .i64 k] rfl (by (simp only [List.map_toArray, List.map_cons, List.map_nil]); first | done | rfl) ?_; (refine (answers_any A2 c2 l2 k).mono ?_); rintro e w3 ⟨gl, gr, rfl, hgl, hgr, hb⟩; refine ⟨_, rfl, ?_⟩; have HGL := Aside0.mk hgl; have HGR := Aside0.mk hgr; have BW := Aside0.mk B11.out; have B11 := Aside0.mk (blk_below B11.out hb); have B12 := Aside0.mk (blk_below B12.out hb); have HK := Aside0.mk (show w.heap.size ≤ _ ∧ ∀ j, g12 < j → j < w.heap.size → _ = w.heap[j]? from ⟨Nat.le_trans HK.out.1 hb.size, fun j h1 h2 => (hb.block j (Nat.lt_of_lt_of_le h2 HK.out.1)).trans (HK.out.2 j h1 h2)⟩); have HB := Aside0.mk (HB.out.trans (hb.mono (Nat.le_of_lt (blk_lt BW.out)))); have HLw := Aside0.mk (HL.out.at HB.out); clear hgl hgr hb BW c4_ c10_) | ((with_reducible refine gate_fn rfl ?_); refine goesC_ (some 20) rfl rfl Try.func34 (by kernel_rfl) rfl #[.string x] rfl rfl (by (simp only [List.map_toArray, List.map_cons, List.map_nil]); first | done | rfl) ?_; (refine (ask_any gl gr A2 c2 l2 k x HGL.out HGR.out (Kd.F_now HLw.out.an)).mono ?_); rintro e w4 ⟨rfl, hb⟩; refine ⟨_, rfl, ?_⟩; have BW := Aside0.mk B11.out; have B11 := Aside0.mk (blk_below B11.out hb); have B12 := Aside0.mk (blk_below B12.out hb); have HK := Aside0.mk (show w.heap.size ≤ _ ∧ ∀ j, g12 < j → j < w.heap.size → _ = w.heap[j]? from ⟨Nat.le_trans HK.out.1 hb.size, fun j h1 h2 => (hb.block j (Nat.lt_of_lt_of_le h2 HK.out.1)).trans (HK.out.2 j h1 h2)⟩); have HB := Aside0.mk (HB.out.trans (hb.mono (Nat.le_of_lt (blk_lt BW.out)))); clear hb BW))
    go_ret
    exact ⟨rfl, ⟨HB.out, B11.out, B12.out⟩, HK.out⟩
end
end Go.Proofs.Ytbpgfjfkogdolaa.TreeAsksMemTreeAsks
