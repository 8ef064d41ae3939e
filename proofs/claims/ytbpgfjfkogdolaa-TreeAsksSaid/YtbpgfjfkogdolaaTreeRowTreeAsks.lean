/- The walker's row: parts of it as slices, what is laid into it; boxes beside it. Under the conditions that stand at each. -/
import Derived.Test.YtbpgfjfkogdolaaTreeAgainTreeAsks
namespace Go.Proofs.Ytbpgfjfkogdolaa.TreeRowTreeAsks
open Go Go.RowKit Go.Proofs.YtbpgfjfkogdolaaW.PrintWords Go.Proofs.YtbpgfjfkogdolaaW.PrintLast Go.Proofs.YtbpgfjfkogdolaaW.PrintMore Go.Proofs.Ytbpgfjfkogdolaa.PTreeAsks Go.Proofs.Ytbpgfjfkogdolaa.Fnv Go.Proofs.Ytbpgfjfkogdolaa.TreePlainTreeAsks Go.Proofs.Ytbpgfjfkogdolaa.TreeMemTreeAsks Go.Proofs.Ytbpgfjfkogdolaa.TreeCloneTreeAsks
set_option linter.unusedVariables false
variable {σ : Type} {W0 : World} {ok : Nat → Prop} {Inv : World → σ → Prop} {B gW gM : Nat} {av : Value} {an : σ → ByteArray → Int × σ} {w w1 : World} {m : List Int} {s : σ}

theorem St.far (E : Env W0 ok Inv B gW gM av an) (h : St Inv B gW gM av w m s) {g : Nat} (hg : B ≤ g) (n1 : gW ≠ g) (n2 : gM ≠ g) (i : Nat) (v : Value) : St Inv B gW gM av (w.setCell ⟨g, i, none⟩ v) m s :=
  ⟨blk_far h.hw n1 _, blk_far h.hm n2 _, E.stab h.iv ((Below.refl _ _).setCell hg _), by simpa [World.setCell] using h.le⟩
theorem St.box4 (E : Env W0 ok Inv B gW gM av an) (h : St Inv B gW gM av w m s) {g : Nat} (hg : B ≤ g) (n1 : gW ≠ g) (n2 : gM ≠ g) (a b c d : Value) : St Inv B gW gM av ((((w.setCell ⟨g, 0, none⟩ a).setCell ⟨g, 1, none⟩ b).setCell ⟨g, 2, none⟩ c).setCell ⟨g, 3, none⟩ d) m s :=
  St.far E (St.far E (St.far E (St.far E h hg n1 n2 0 a) hg n1 n2 1 b) hg n1 n2 2 c) hg n1 n2 3 d
theorem Kp.box4 {B gM : Nat} {w0 w : World} (h : Kp B gM w0 w) {g : Nat} (hg : w0.heap.size ≤ g) (a b c d : Value) : Kp B gM w0 ((((w.setCell ⟨g, 0, none⟩ a).setCell ⟨g, 1, none⟩ b).setCell ⟨g, 2, none⟩ c).setCell ⟨g, 3, none⟩ d) := by
  refine ⟨by simpa [World.setCell] using h.size, fun j h1 h2 h3 => ?_⟩
  have hj : j ≠ g := by omega
  rw [Below.heap_setCell _ _ _ j hj, Below.heap_setCell _ _ _ j hj, Below.heap_setCell _ _ _ j hj, Below.heap_setCell _ _ _ j hj]
  exact h.block j h1 h2 h3
theorem far4 {w : World} {g g' : Nat} {t : TypeId} {cs : Array Value} (h : w.heap[g']? = some (.cells cs t (0, 0))) (n : g' ≠ g) (a b c d : Value) : ((((w.setCell ⟨g, 0, none⟩ a).setCell ⟨g, 1, none⟩ b).setCell ⟨g, 2, none⟩ c).setCell ⟨g, 3, none⟩ d).heap[g']? = some (.cells cs t (0, 0)) :=
  blk_far (blk_far (blk_far (blk_far h (p := ⟨g, 0, none⟩) n a) (p := ⟨g, 1, none⟩) n b) (p := ⟨g, 2, none⟩) n c) (p := ⟨g, 3, none⟩) n d
theorem put4 {w : World} {g : Nat} {t : TypeId} {a0 b0 c0 d0 : Value} (h : w.heap[g]? = some (.cells #[a0, b0, c0, d0] t (0, 0))) (a b c d : Value) : ((((w.setCell ⟨g, 0, none⟩ a).setCell ⟨g, 1, none⟩ b).setCell ⟨g, 2, none⟩ c).setCell ⟨g, 3, none⟩ d).heap[g]? = some (.cells #[a, b, c, d] t (0, 0)) :=
  blk_put (blk_put (blk_put (blk_put h 0 a rfl) 1 b rfl) 2 c rfl) 3 d rfl

/-- A part of the row. -/
def slc (m : List Int) (p n : Nat) : List Int := (m.drop p).take n
theorem slc_len {m : List Int} {p n : Nat} (h : p + n ≤ m.length) : (slc m p n).length = n := by simp [slc]; omega
theorem mem_C (h : St Inv B gW gM av w m s) (p n : Nat) (hp : p + n ≤ m.length) (hm : m.length ≤ 1000000000) : Kd.C (Kd.int .i64) w (some ⟨gM, p, none⟩) n (slc m p n) := by
  refine ⟨slc_len hp, by omega, fun _ => ⟨_, rfl, fun j x hj => ⟨[.int .i64 x], rfl, rfl, fun i u hi => ?_⟩⟩⟩
  have hjn : j < n := by have := (List.getElem?_eq_some_iff.1 hj).1; rwa [slc_len hp] at this
  have hx : m[p + j]? = some x := by
    unfold slc at hj
    rw [List.getElem?_take_of_lt hjn, List.getElem?_drop] at hj
    exact hj
  cases i with
  | zero =>
    have hu : u = .int .i64 x := by simpa using hi.symm
    subst hu
    have e : (Addr.add ⟨gM, p, none⟩ (j * 1 + 0)) = ⟨gM, p + j, none⟩ := by
      unfold Addr.add
      split
      · next h0 => simp at h0; simp
      · simp
    show w.cell? (Addr.add ⟨gM, p, none⟩ (j * 1 + 0)) = _
    rw [e, blk_cell h.hm]
    simp [hx]
  | succ i => simp at hi
theorem clone_at (A : Addr) (l : List Int) (n c : Nat) (hn : l.length = n) {w : World} (hl : n ≤ 1000000000) (hC : Kd.C (Kd.int .i64) w (some A) n l) :
    Calls Try.prog 50 #[.slice (some A) n c] w fun e w' => ∃ A2 c2, e = .returned (.slice A2 n c2) ∧ Kd.R (Kd.int .i64) 3 w' w.heap.size (fun k => w.heap.size ≤ k) (.slice A2 n c2) l ∧ Below w.heap.size w w' := by
  subst hn
  refine (clone_any A l c hl hC).mono fun e w' h => ?_
  obtain ⟨v, rfl, hR, hb⟩ := h
  obtain ⟨A2, c2, rfl⟩ := Kd.R_slice hR
  exact ⟨A2, c2, rfl, hR, hb⟩
/-- A row that a call has made lives on where only the walker's row may turn. -/
theorem R_kp {b : Nat} {v : Value} {l : List Int} (hR : Kd.R (Kd.int .i64) 3 w b (fun k => b ≤ k) v l) (h1 : B ≤ b) (h2 : gM < b) (k : Kp B gM w w1) : Kd.R (Kd.int .i64) 3 w1 b (fun k => b ≤ k) v l :=
  Kd.R_step hR (fun j hj hlt => k.block j (by omega) hlt (by omega))
theorem R_cells {b : Nat} {A : Option Addr} {n c : Nat} {l : List Int} (hR : Kd.R (Kd.int .i64) 3 w b (fun k => b ≤ k) (.slice A n c) l) (hn : 0 < n) : ∃ ad, A = some ad ∧ ∀ j v, (l.map (Value.int .i64))[j]? = some v → w.cell? (ad.add j) = some v := by
  obtain ⟨h1, _, h3⟩ := Kd.R_reads' hR
  obtain ⟨ad, rfl, hc⟩ := h3.2.2 (by omega)
  refine ⟨ad, rfl, fun j v hj => ?_⟩
  rw [List.getElem?_map] at hj
  obtain ⟨x, hx, rfl⟩ := Option.map_eq_some_iff.mp hj
  obtain ⟨cs, hl, hK, hcell⟩ := hc j x hx
  have hcs : cs = [.int .i64 x] := hK
  subst hcs
  have := hcell 0 _ rfl
  have e : j * (Kd.int .i64).sz + 0 = j := by show j * 1 + 0 = j; omega
  rwa [e] at this
theorem St.row (E : Env W0 ok Inv B gW gM av an) (h : St Inv B gW gM av w m s) (p : Nat) (l : List Int) (hp : p + l.length ≤ m.length) :
    St Inv B gW gM av (w.setRow gM ((m.map (Value.int .i64)).toArray.toList.take p ++ (l.map (Value.int .i64) ++ (m.map (Value.int .i64)).toArray.toList.drop (p + (l.map (Value.int .i64)).length))).toArray) (laid m p l) s := by
  have e : (m.map (Value.int .i64)).toArray.toList.take p ++ (l.map (Value.int .i64) ++ (m.map (Value.int .i64)).toArray.toList.drop (p + (l.map (Value.int .i64)).length)) = (laid m p l).map (Value.int .i64) := by
    simp [laid]
  have hlen : (laid m p l).length = m.length := by simp [laid]; omega
  rw [e]
  refine ⟨?_, setRow_heap w gM _ _ _ _ h.hm, E.stab h.iv (below_setRow (Below.refl _ _) E.bM _), by simpa [World.setRow] using h.le⟩
  rw [hlen, setRow_other w gM gW _ E.ne]
  exact h.hw
theorem Kp.row {B gM : Nat} (w : World) (cs : Array Value) : Kp B gM w (w.setRow gM cs) := ⟨by simp [World.setRow], fun j _ _ h => setRow_other w gM j cs h⟩
end Go.Proofs.Ytbpgfjfkogdolaa.TreeRowTreeAsks
