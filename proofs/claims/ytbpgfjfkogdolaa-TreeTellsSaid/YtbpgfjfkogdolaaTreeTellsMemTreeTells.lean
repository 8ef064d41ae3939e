/- What the law TreeTells meets on its ways, and what it keeps in memory. Under no condition but what stands at each. -/
import Derived.Test.YtbpgfjfkogdolaaTreeMindTreeTells
import Derived.Test.YtbpgfjfkogdolaaTreeThinkAllTreeTells
import Derived.Test.YtbpgfjfkogdolaaTreeFaultTreeTells
namespace Go.Proofs.Ytbpgfjfkogdolaa.TreeTellsMemTreeTells
open Go Go.RowKit Go.Proofs.YtbpgfjfkogdolaaW.PrintWords Go.Proofs.YtbpgfjfkogdolaaW.PrintLast Go.Proofs.YtbpgfjfkogdolaaW.PrintMore Go.Proofs.Ytbpgfjfkogdolaa.PTreeTells Go.Proofs.Ytbpgfjfkogdolaa.Fnv Go.Proofs.Ytbpgfjfkogdolaa.TreePlainTreeTells Go.Proofs.Ytbpgfjfkogdolaa.TreeMemTreeTells Go.Proofs.Ytbpgfjfkogdolaa.TreeEvTreeTells Go.Proofs.Ytbpgfjfkogdolaa.TreeTTreeTells Go.Proofs.Ytbpgfjfkogdolaa.TreeRightTreeTells Go.Proofs.Ytbpgfjfkogdolaa.TreeCheckTreeTells Go.Proofs.Ytbpgfjfkogdolaa.TreeTopTreeTells Go.Proofs.Ytbpgfjfkogdolaa.TreeAnswersTreeTells Go.Proofs.Ytbpgfjfkogdolaa.TreeMindTreeTells Go.Proofs.Ytbpgfjfkogdolaa.TreeThinkTreeTells Go.Proofs.Ytbpgfjfkogdolaa.TreeMindOfTreeTells Go.Proofs.Ytbpgfjfkogdolaa.TreeTellsLawTreeTells Go.Proofs.Ytbpgfjfkogdolaa.TreeStepsTreeTells Go.Proofs.Ytbpgfjfkogdolaa.TreeThinkMemTreeTells
set_option linter.unusedVariables false
set_option linter.unusedSimpArgs false
def asN : Nd := ⟨1, ⟨#[97]⟩, 0, []⟩
theorem first_tells : ∃ k, topF (fun (_ : Unit) _ => ((1 : Int), ())) k asN [] () = some (1, [0], 0, ()) := by
  have hw : Well 0 asN := ⟨⟨by decide, by decide, fun _ => ⟨rfl, by decide, by decide⟩, fun h => absurd h (by decide), fun h => absurd h (by decide)⟩, rfl⟩
  obtain ⟨⟨k, hk⟩, _⟩ := top_mind (fun (_ : Unit) _ => ((1 : Int), ())) 0 asN hw (by decide) (blankM 0 asN) (FormM.blank 0 asN (Well.good 0 asN hw)) [] (.inr ⟨rfl, rfl⟩) ()
  exact ⟨k, hk k (Nat.le_refl _)⟩
theorem heapN : Kd.Heap k25 := Kd.heap_fix (fun d hd => Kd.heap_iso _ (Kd.heap_pair (Kd.heap_int _) (Kd.heap_pair Kd.heap_string (Kd.heap_pair (Kd.heap_int _) (Kd.heap_slice _ hd)))))
theorem eq_loop (l : List Int) (hl : l.length ≤ 1000000) : ∀ (j i : Nat), i + j = l.length → slices_Equal_int_int.l0 (j + 1) l l (l.length : Int) (i : Int) = some true
  | 0, i, h => by rw [slices_Equal_int_int.l0, if_neg (by omega)]
  | j + 1, i, h => by
    have := eq_loop l hl j (i + 1) (by omega)
    rw [slices_Equal_int_int.l0, if_pos (by omega), if_pos (by omega), if_pos (by omega), if_pos (by omega), if_pos rfl, w64 (by omega) (by omega)]
    exact this
theorem eq_self (l : List Int) (hl : l.length ≤ 1000000) : slices_Equal_int_int.f (l.length + 1) l l = some true := by
  unfold slices_Equal_int_int.f
  rw [if_pos rfl]
  exact eq_loop l hl l.length 0 (by omega)
/-- What the law meets from a mind on. -/
def Fin2 (an0 : ByteArray → Int) (d : Nat) (n : Nd) (x : Md) (l1 : List Int) : Prop :=
  FormM d n x ∧ (∃ k, topF (fun (_ : Unit) y => (an0 y, ())) k n l1 () = some ((thinkD (fun (_ : Unit) y => (an0 y, ())) d n x ()).1, flat d (thinkD (fun (_ : Unit) y => (an0 y, ())) d n x ()).2.1, 0, ())) ∧
    (∃ k, tourref5_Mind_List.f k (thinkD (fun (_ : Unit) y => (an0 y, ())) d n x ()).2.1.f0 (thinkD (fun (_ : Unit) y => (an0 y, ())) d n x ()).2.1.f1 = some (flat d (thinkD (fun (_ : Unit) y => (an0 y, ())) d n x ()).2.1)) ∧
    slices_Equal_int_int.f ((flat d (thinkD (fun (_ : Unit) y => (an0 y, ())) d n x ()).2.1).length + 1) (flat d (thinkD (fun (_ : Unit) y => (an0 y, ())) d n x ()).2.1) (flat d (thinkD (fun (_ : Unit) y => (an0 y, ())) d n x ()).2.1) = some true
theorem fin2 (an0 : ByteArray → Int) (d : Nat) (n : Nd) (hw : Well d n) (hs : szD d n ≤ 200) (x : Md) (hx : FormM d n x) (mem : List Int) (hm : mem = flat d x ∨ mem = [] ∧ x = blankM d n) : Fin2 an0 d n x mem := by
  obtain ⟨⟨k, hk⟩, hF⟩ := top_mind (fun (_ : Unit) y => (an0 y, ())) d n hw hs x hx mem hm ()
  have hlen := flat_len d n _ hF
  obtain ⟨k2, hk2⟩ := list_ev d _ (FormM.deepM d n _ hF) (by omega)
  exact ⟨hx, ⟨k, hk k (Nat.le_refl _)⟩, ⟨k2, hk2 k2 (Nat.le_refl _)⟩, eq_self _ (by omega)⟩
theorem blankM_eta (d : Nat) (n : Nd) : blankM d n = ⟨0, (blankM d n).f1⟩ := by cases d <;> rfl
/-- What the law meets at a right tree. -/
structure RightT (an0 : ByteArray → Int) (d : Nat) (n : Nd) (l1 : List Int) (bl : List Md) : Prop where
  well : Well d n
  sz : szD d n ≤ 200
  size : ∃ k, tree_Size.f k n.f0 n.f1 n.f2 n.f3 = some (szD d n : Int)
  blank : ∃ k, tourref5_Blank.f k n.f0 n.f1 n.f2 n.f3 = some (0, bl)
  way : (l1 = [] ∧ Fin2 an0 d n ⟨0, bl⟩ l1) ∨ (0 < l1.length ∧ ∃ m left b, (∃ k, tourref5_MindOf.f k n.f0 n.f1 n.f2 n.f3 l1 = some (m.f0, m.f1, left, b)) ∧
    ((b = true ∧ left = [] ∧ Fin2 an0 d n m l1) ∨ (¬ (b = true ∧ left = []) ∧ ∃ k, topF (fun (_ : Unit) y => (an0 y, ())) k n l1 () = some (0, [], 7, ()))))
/-- From a mind on, what the calls answer. -/
theorem fin2_on {an0 : ByteArray → Int} {d : Nat} {n : Nd} {x : Md} {l1 : List Int} (hw : Well d n) (hs : szD d n ≤ 200) (h : Fin2 an0 d n x l1) : ∃ (q f0 : Int) (kids : List Md) (fl : List Int) (kt kl : Nat), ThinkC an0 (q, ⟨f0, kids⟩, ()) n x ∧ topF (fun (_ : Unit) y => (an0 y, ())) kt n l1 () = some (q, fl, 0, ()) ∧ tourref5_Mind_List.f kl f0 kids = some fl ∧ slices_Equal_int_int.f (fl.length + 1) fl fl = some true := by
  obtain ⟨hx, ⟨kt, h1⟩, ⟨kl, h2⟩, h3⟩ := h
  have hT := TreeThinkAllTreeTells.think_all an0 d n x hw (by omega) hx
  obtain ⟨⟨q, ⟨f0, kids⟩, u⟩, hz⟩ : ∃ z, thinkD (fun (_ : Unit) y => (an0 y, ())) d n x () = z := ⟨_, rfl⟩
  rw [hz] at h1 h2 h3 hT
  exact ⟨q, f0, kids, _, kt, kl, hT, h1, h2, h3⟩
/-- The law's ways. -/
theorem tells_ways (an0 : ByteArray → Int) (n : Nd) (l1 : List Int) : ∃ r c' kf, checkF kf n 0 = some (r, c') ∧ ((¬ r = 0 ∧ ∃ k, topF (fun (_ : Unit) y => (an0 y, ())) k n l1 () = some (0, [], r, ())) ∨ (r = 0 ∧ ∃ d, c' = szD d n ∧ ∃ bl, RightT an0 d n l1 bl)) := by
  obtain ⟨d, hd⟩ := TreeAnyTreeTells.deep_any n
  obtain ⟨r, c', ⟨kf, hkf⟩, hr⟩ := TreeAnyTreeTells.check_any d n 0 hd (by omega) (by omega)
  refine ⟨r, c', kf, hkf kf (Nat.le_refl _), ?_⟩
  by_cases h0 : r = 0
  · obtain ⟨hw, hc, hle⟩ := hr h0
    have hs : szD d n ≤ 200 := by omega
    refine .inr ⟨h0, d, by omega, (blankM d n).f1, hw, hs, ?_, ?_, ?_⟩
    · obtain ⟨k, hk⟩ := size_ev d n (Well.good d n hw).deep (by omega)
      exact ⟨k, hk k (Nat.le_refl _)⟩
    · obtain ⟨k, hk⟩ := blank_ev d n (Well.good d n hw).deep (by omega)
      have := hk k (Nat.le_refl _)
      rw [blankM_eta] at this
      exact ⟨k, this⟩
    · by_cases hl : l1 = []
      · have := fin2 an0 d n hw hs _ (FormM.blank d n (Well.good d n hw)) l1 (.inr ⟨hl, rfl⟩)
        rw [blankM_eta] at this
        exact .inl ⟨hl, this⟩
      · have hp : 0 < l1.length := List.length_pos_iff.mpr hl
        obtain ⟨m, left, b, ⟨k, hk⟩, hR⟩ := mind_ev d n l1 hw (by omega)
        obtain ⟨hy, hn⟩ := mind_fit hR
        refine .inr ⟨hp, m, left, b, ⟨k, hk k (Nat.le_refl _)⟩, ?_⟩
        by_cases hb : b = true ∧ left = []
        · exact .inl ⟨hb.1, hb.2, fin2 an0 d n hw hs m (hy hb).1 l1 (.inl (hy hb).2)⟩
        · obtain ⟨k3, hk3⟩ := top_no (fun (_ : Unit) y => (an0 y, ())) d n hw hs l1 hp (hn hb) ()
          exact .inr ⟨hb, k3, hk3 k3 (Nat.le_refl _)⟩
  · obtain ⟨k, hk⟩ := top_wrong (fun (_ : Unit) y => (an0 y, ())) n l1 () ⟨kf, hkf⟩ h0
    exact .inl ⟨h0, k, hk k (Nat.le_refl _)⟩
/-- What stays in the law's own boxes. -/
structure Lw (W w : World) (g3 g10 : Nat) (n : Nd) (A3 : Option Addr) (c3 : Nat) (v : Int) : Prop where
  bel : Below W.heap.size W w
  b3 : w.heap[g3]? = some (.cells #[.int .i64 n.f0, .string n.f1, .int .i64 n.f2, .slice A3 n.f3.length c3] 25 (0, 0))
  b10 : w.heap[g10]? = some (.cells #[.int .i64 v] 3 (0, 0))
theorem Lw.below {W w w' : World} {g3 g10 : Nat} {n : Nd} {A3 : Option Addr} {c3 : Nat} {v : Int} (h : Lw W w g3 g10 n A3 c3 v) (hb : Below w.heap.size w w') : Lw W w' g3 g10 n A3 c3 v :=
  ⟨h.bel.trans (hb.mono h.bel.size), blk_below h.b3 hb, blk_below h.b10 hb⟩
/-- A box of two cells, made and then filled, is new. -/
theorem below2 {w w1 : World} {g : Nat} (hb : Below w.heap.size w w1) (hg : w.heap.size ≤ g) (x0 x1 : Value) : Below w.heap.size w ((w1.setCell ⟨g, 0, none⟩ x0).setCell ⟨g, 1, none⟩ x1) := (hb.setCell hg x0).setCell hg x1
/-- What Answers makes, for Think. -/
theorem pure_answers {W0 : World} {A : Option Addr} {c : Nat} {l : List Int} {round : Int} {gl gr : Nat} (hl : W0.cell? ⟨gl, 0, none⟩ = some (.slice A l.length c)) (hr : W0.cell? ⟨gr, 0, none⟩ = some (.int .i64 round)) (hC : Kd.C (Kd.int .i64) W0 A l.length l) :
    TreeThinkMemTreeTells.Pure W0 34 #[.pointer (some ⟨gl, 0, none⟩), .pointer (some ⟨gr, 0, none⟩)] Try.f34 (ansV l round) :=
  ⟨Try.func34, by kernel_rfl, rfl, fun w x hb => by
    have e : ∀ {p : Addr} {v : Value}, W0.cell? p = some v → w.cell? p = some v := fun {p} {v} h => cellB hb h
    exact ask_any gl gr A c l round x (e hl) (e hr) (Kd.C_below hC hb)⟩
/-- A write into a block that is not among those that are kept. -/
theorem Lw.set {W w : World} {g3 g10 g : Nat} {n : Nd} {A3 : Option Addr} {c3 : Nat} {v : Int} (h : Lw W w g3 g10 n A3 c3 v) (hg : W.heap.size ≤ g) (h3 : g3 ≠ g) (h10 : g10 ≠ g) (i : Nat) (x : Value) : Lw W (w.setCell ⟨g, i, none⟩ x) g3 g10 n A3 c3 v :=
  ⟨h.bel.setCell hg x, blk_far h.b3 h3 _, blk_far h.b10 h10 _⟩
theorem cellS {w : World} {g b i j : Nat} {v x : Value} (h : w.cell? ⟨b, j, none⟩ = some v) (hn : b ≠ g) : (w.setCell ⟨g, i, none⟩ x).cell? ⟨b, j, none⟩ = some v := (cell_same (Below.heap_setCell w ⟨g, i, none⟩ x b hn)).trans h
theorem cell_ne {w : World} {b j g : Nat} {v : Value} (h : w.cell? ⟨b, j, none⟩ = some v) (hg : w.heap.size ≤ g) : b ≠ g := by
  have h1 := World.block_lt_of_cell? w _ h
  have h2 : b < w.heap.size := h1
  omega
end Go.Proofs.Ytbpgfjfkogdolaa.TreeTellsMemTreeTells
