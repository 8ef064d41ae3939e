/- Rows of whole numbers of a call's own. Under the conditions that stand at each. -/
import Derived.Test.YtkoopdoeehoigaaProg
import Derived.Below
import Derived.Deep.Draws
import Derived.Deep.AppendLies
import Derived.Maps.AppendAt
import Derived.OwnWalk
import Derived.Laws.BytesArg
import Derived.Laws.MakeOwn
import Derived.Laws.OwnMore
import Derived.Deep.OwnRows
import Derived.Tactics
import Derived.Lib.ConvBytes
import Derived.Laws.Slices
import Derived.WalkKit
import Derived.KernelRfl
import Derived.RowKit3
import Derived.Deep.LoopGhost
import Derived.Deep.QuietTactic
import Derived.BigQuiet
import Derived.WideLaws
import Derived.Deep.DeepCutAuto
import Derived.Deep.CutBlock
import Derived.Deep.RegionHeld3
import Derived.Laws.Rows
import Derived.Lib.AppendStr
import Derived.ArgAppend
import Derived.Laws.IdiomCopy
import Derived.OrdersHeld
import Derived.Laws.BitsLemmas
import Derived.RowKit
import Derived.Test.YtkoopdoeehoigaaFnv
import Derived.Test.YtkoopdoeehoigaaAry
import Derived.Test.YtkoopdoeehoigaaWWords
import Derived.Test.YtkoopdoeehoigaaWLast
import Derived.Test.YtkoopdoeehoigaaWTab
import Derived.Test.YtkoopdoeehoigaaWQPut
import Derived.Test.YtkoopdoeehoigaaWApart
import Derived.Test.YtkoopdoeehoigaaWArr
import Derived.Test.YtkoopdoeehoigaaWZeros
import Derived.Test.YtkoopdoeehoigaaWFoot
import Derived.Test.YtkoopdoeehoigaaWKept
import Derived.Test.YtkoopdoeehoigaaWShare
import Derived.Test.YtkoopdoeehoigaaWN
import Derived.Test.YtkoopdoeehoigaaWRepsOne
import Derived.Test.YtkoopdoeehoigaaWNEv
import Derived.Test.YtkoopdoeehoigaaWMore
import Derived.Outline
import Derived.Laws.MakeOwn
import Derived.Laws.CopyOwn
import Derived.Lib.SliceRun
namespace Go.Proofs.Ytkoopdoeehoigaa.RowMem
open Go Go.RowKit Go.Proofs.Ytkoopdoeehoigaa.Fnv Go.Proofs.YtkoopdoeehoigaaW.PrintWords Go.Proofs.YtkoopdoeehoigaaW.PrintLast Go.Proofs.YtkoopdoeehoigaaW.PrintMore
set_option linter.unusedVariables false
set_option linter.unusedSimpArgs false
theorem wrap_in {x : Int} (h0 : -9223372036854775808 ≤ x) (h1 : x ≤ 9223372036854775807) : wrap64 x = x := by
  unfold wrap64; omega
theorem madeCells_one (v : Value) (hv : v.cells = #[v]) (n : Nat) : madeCells v.cells (n * 1) = (List.replicate n v).toArray := by
  rw [hv]
  apply Array.ext
  · simp [size_madeCells]
  · intro i h1 h2
    simp [madeCells, Nat.mod_one]
/-- A made row, whole. -/
theorem make_event {P : Program} {w : World} {ops : Array Oper} {rest : List Oper} {o : Oper} {a : Act} {Q : Exit → Act → World → Prop} (hgd : o.guard = none) {N : Tmp} (_hd : o.dst = some N) (t e : TypeId) (x y : Operand) (ho : o.op = .makeSlice t x y) (n : Nat) (m : Int) (hm : m = n) (hx : a.eval x = .int .i64 m) (hy : a.eval y = .int .i64 m)
    (ht : P.underlying t = some (.slice e)) (hinfo : (P.info? e).map (fun i => (i.zero, i.size, i.bytes)) = some (some (.int .i64 0), 1, 8)) (hn : n ≤ 1000000)
    (h : ∀ g, g = w.heap.size → ∀ w1, w1.heap[g]? = some (.cells ((List.replicate n (0 : Int)).map (Value.int .i64)).toArray e (0, 0)) → Below w.heap.size w w1 → wpList P ops Q rest (a.put o.dst (.slice (some ⟨g, 0, none⟩) n n)) w1) : wpList P ops Q (o :: rest) a w := by
  subst hm
  obtain ⟨i, hi, hzz⟩ := Option.map_eq_some_iff.1 hinfo
  simp only [Prod.mk.injEq] at hzz
  obtain ⟨hz, hs, hb⟩ := hzz
  have hr := run_make (P := P) w t e i _ ht hi hz .i64 .i64 (n : Int) (n : Int) (by omega) (by omega) (by rw [hb]; omega) (by omega)
  simp only [Int.toNat_natCast, hs] at hr
  rw [madeCells_one _ rfl] at hr
  refine Kd.event_run hgd (w1 := w.alloc (.cells (List.replicate n (Value.int .i64 0)).toArray e)) (v := .slice (some ⟨w.heap.size, 0, none⟩) n n) (by simp [execOp, ho, hx, hy, hr]) (h _ rfl _ ?_ (below_alloc (Below.refl _ _) _))
  rw [List.map_replicate]
  exact blk_new w _
/-- A row that a literal makes. -/
theorem slice_event {P : Program} {ops : Array Oper} {rest : List Oper} {o : Oper} {a : Act} {Q : Exit → Act → World → Prop} {W : World} (hgd : o.guard = none) {N : Tmp} (_hd : o.dst = some N) {cs : Array Value} {t : TypeId} {n : Nat}
    (hrun : (execOp a.eval o).run P W = .ok (.value (.slice (some ⟨W.heap.size, 0, none⟩) n n)) (W.alloc (.cells cs t (0, 0))))
    (h : ∀ g, g = W.heap.size → ∀ w1, w1.heap[g]? = some (.cells cs t (0, 0)) → Below W.heap.size W w1 → wpList P ops Q rest (a.put o.dst (.slice (some ⟨g, 0, none⟩) n n)) w1) : wpList P ops Q (o :: rest) a W :=
  Kd.event_run hgd hrun (h _ rfl _ (blk_new W _) (below_alloc (Below.refl _ _) _))
/-- A row of whole numbers that fills its block. -/
def RowI (w : World) (g : Nat) (l : List Int) : Prop := w.heap[g]? = some (.cells (l.map (Value.int .i64)).toArray 3 (0, 0))
theorem RowI.below {w w' : World} {g : Nat} {l : List Int} (h : RowI w g l) (hb : Below w.heap.size w w') : RowI w' g l := blk_below h hb
theorem RowI.set {w : World} {g : Nat} {l : List Int} (h : RowI w g l) (i : Nat) (v : Int) : RowI (w.setCell ⟨g, i, none⟩ (.int .i64 v)) g (l.set i v) := blk_put h i _ (by simp [List.map_set])
theorem RowI.at {w : World} {g : Nat} {l : List Int} (h : RowI w g l) {i : Int} (h0 : 0 ≤ i) (h1 : i < l.length) : w.cell? ⟨g, i.toNat, none⟩ = some (.int .i64 (rd l i)) := by
  refine (blk_cell h i.toNat).trans ?_
  rw [List.getElem?_toArray, List.getElem?_map, List.getElem?_eq_getElem (by omega)]
  unfold rd
  rw [List.getD_eq_getElem?_getD, List.getElem?_eq_getElem (by omega)]
  rfl
theorem R_blk {w : World} {base g : Nat} {m : List Int} (h : RowI w g m) (hb : base ≤ g) (hl : m.length ≤ 1000000) : Kd.R (Kd.int .i64) 3 w base (fun _ => True) (.slice (some ⟨g, 0, none⟩) m.length m.length) m := by
  refine Kd.R_of_own (enc := fun x => Value.int .i64 x) ⟨by simp [encs], Or.inr ⟨g, m.length, _, rfl, hb, h, Nat.le_refl _, by simp [maxLen]; omega, by simp, by simp [encs]; exact List.take_of_length_le (by simp)⟩⟩ ?_
  intro k hk
  trivial
theorem C_at {w : World} {A : Option Addr} {l : List Int} (h : Kd.C (Kd.int .i64) w A l.length l) (hn : 0 < l.length) : ∃ ad, A = some ad ∧ ∀ i : Int, 0 ≤ i → i < l.length → w.cell? (ad.add i.toNat) = some (.int .i64 (rd l i)) := by
  obtain ⟨ad, rfl, hc⟩ := h.2.2 (by omega)
  refine ⟨ad, rfl, fun i h0 h1 => ?_⟩
  obtain ⟨cs, hl, hK, hcell⟩ := hc i.toNat (rd l i) (by unfold rd; rw [List.getD_eq_getElem?_getD, List.getElem?_eq_getElem (by omega)]; rfl)
  have hcs : cs = [.int .i64 (rd l i)] := hK
  subst hcs
  have := hcell 0 _ rfl
  simpa [show (Kd.int IntKind.i64).sz = 1 from rfl] using this
end Go.Proofs.Ytkoopdoeehoigaa.RowMem
