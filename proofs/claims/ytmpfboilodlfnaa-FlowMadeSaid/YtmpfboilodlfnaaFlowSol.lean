/- What the least costs of ways on a grid are; Dijkstra's rounds keep what leads to them. Under no condition but what stands at each. -/
import Derived.Test.YtmpfboilodlfnaaWMore
import Derived.Test.YtmpfboilodlfnaaFlowHeap
namespace Go.Proofs.Ytmpfboilodlfnaa.FlowSol
open Go.RowKit Go.Proofs.YtmpfboilodlfnaaW.PrintWords Go.Proofs.Ytmpfboilodlfnaa.FlowHeap
set_option linter.unusedVariables false
/-- The cell next to a cell. -/
def stepP (W H c d : Int) : Int :=
  if W < 1 ∨ W > 64 ∨ H < 1 ∨ H > 64 ∨ c < 0 ∨ c ≥ W * H then -1
  else
    let x := c % W; let y := c / W
    if d = 0 then y * W + x
    else if d = 1 then (if x + 1 ≥ W then -1 else y * W + (x + 1))
    else if d = 2 then (if y + 1 ≥ H then -1 else (y + 1) * W + x)
    else if d = 3 then (if x - 1 < 0 then -1 else y * W + (x - 1))
    else if d = 4 then (if y - 1 < 0 then -1 else (y - 1) * W + x)
    else -1
theorem le_mul {a b c d : Int} (h1 : a ≤ b) (h2 : c ≤ d) (h3 : 0 ≤ a) (h4 : 0 ≤ d) : a * c ≤ b * d := by
  have h5 : a * c ≤ a * d := Int.mul_le_mul_of_nonneg_left h2 h3
  have h6 : a * d ≤ b * d := Int.mul_le_mul_of_nonneg_right h1 h4
  omega
theorem lay {W H x y : Int} (hW : 1 ≤ W) (hx : 0 ≤ x) (hx2 : x < W) (hy : 0 ≤ y) (hy2 : y < H) : 0 ≤ y * W + x ∧ y * W + x < W * H ∧ (y * W + x) % W = x ∧ (y * W + x) / W = y := by
  have h1 : 0 ≤ y * W := Int.mul_nonneg hy (by omega)
  have h2 : (y + 1) * W ≤ H * W := Int.mul_le_mul_of_nonneg_right (by omega) (by omega)
  rw [Int.add_mul, Int.one_mul] at h2
  refine ⟨by omega, by rw [Int.mul_comm W H]; omega, ?_, ?_⟩
  · rw [Int.add_comm, Int.add_mul_emod_self_right]; exact Int.emod_eq_of_lt hx hx2
  · rw [Int.add_comm, Int.add_mul_ediv_right _ _ (by omega), Int.ediv_eq_zero_of_lt hx hx2]; omega
theorem unlay {W H c : Int} (hW : 1 ≤ W) (h0 : 0 ≤ c) (h1 : c < W * H) : 0 ≤ c % W ∧ c % W < W ∧ 0 ≤ c / W ∧ c / W < H ∧ c / W * W + c % W = c := by
  refine ⟨Int.emod_nonneg _ (by omega), Int.emod_lt_of_pos _ (by omega), Int.ediv_nonneg h0 (by omega), Int.ediv_lt_of_lt_mul (by omega) (by rw [Int.mul_comm]; exact h1), ?_⟩
  rw [Int.mul_comm]; exact Int.mul_ediv_add_emod c W
/-- Next to each other: both ways. -/
theorem stepP_sym {W H c d n : Int} (hn : stepP W H c d = n) (h0 : 0 ≤ n) (hd : 1 ≤ d ∧ d ≤ 4) : 0 ≤ c ∧ c < W * H ∧ n < W * H ∧ ∃ e, 1 ≤ e ∧ e ≤ 4 ∧ stepP W H n e = c := by
  unfold stepP at hn
  split at hn
  · omega
  · rename_i hg
    have hW : 1 ≤ W := by omega
    have hc0 : 0 ≤ c := by omega
    have hc1 : c < W * H := by omega
    obtain ⟨a1, a2, a3, a4, a5⟩ := unlay hW hc0 hc1
    refine ⟨hc0, hc1, ?_⟩
    have back : ∀ x y, 0 ≤ x → x < W → 0 ≤ y → y < H → ∀ m, m = y * W + x → m < W * H ∧ ∀ e, stepP W H m e = if e = 0 then y * W + x else if e = 1 then (if x + 1 ≥ W then -1 else y * W + (x + 1))
        else if e = 2 then (if y + 1 ≥ H then -1 else (y + 1) * W + x) else if e = 3 then (if x - 1 < 0 then -1 else y * W + (x - 1)) else if e = 4 then (if y - 1 < 0 then -1 else (y - 1) * W + x) else -1 := by
      intro x y b1 b2 b3 b4 m hm
      obtain ⟨q1, q2, q3, q4⟩ := lay hW b1 b2 b3 b4
      rw [← hm] at q1 q2 q3 q4
      refine ⟨q2, fun e => ?_⟩
      unfold stepP
      rw [if_neg (by omega)]
      dsimp only
      rw [q3, q4]
    dsimp only at hn
    rcases (show d = 1 ∨ d = 2 ∨ d = 3 ∨ d = 4 by omega) with rfl | rfl | rfl | rfl
    · rw [if_neg (by omega), if_pos rfl] at hn
      split at hn
      · omega
      · obtain ⟨q2, q⟩ := back (c % W + 1) (c / W) (by omega) (by omega) a3 a4 n hn.symm
        exact ⟨q2, 3, by omega, by omega, by rw [q, if_neg (by omega), if_neg (by omega), if_neg (by omega), if_pos rfl, if_neg (by omega)]; omega⟩
    · rw [if_neg (by omega), if_neg (by omega), if_pos rfl] at hn
      split at hn
      · omega
      · obtain ⟨q2, q⟩ := back (c % W) (c / W + 1) a1 a2 (by omega) (by omega) n hn.symm
        exact ⟨q2, 4, by omega, by omega, by rw [q, if_neg (by omega), if_neg (by omega), if_neg (by omega), if_neg (by omega), if_pos rfl, if_neg (by omega), show c / W + 1 - 1 = c / W by omega]; exact a5⟩
    · rw [if_neg (by omega), if_neg (by omega), if_neg (by omega), if_pos rfl] at hn
      split at hn
      · omega
      · obtain ⟨q2, q⟩ := back (c % W - 1) (c / W) (by omega) (by omega) a3 a4 n hn.symm
        exact ⟨q2, 1, by omega, by omega, by rw [q, if_neg (by omega), if_pos rfl, if_neg (by omega)]; omega⟩
    · rw [if_neg (by omega), if_neg (by omega), if_neg (by omega), if_neg (by omega), if_pos rfl] at hn
      split at hn
      · omega
      · obtain ⟨q2, q⟩ := back (c % W) (c / W - 1) a1 a2 (by omega) (by omega) n hn.symm
        exact ⟨q2, 2, by omega, by omega, by rw [q, if_neg (by omega), if_neg (by omega), if_pos rfl, if_neg (by omega), show c / W - 1 + 1 = c / W by omega]; exact a5⟩
/-- A right grid. -/
structure Grid (W H : Int) (cost : List Int) : Prop where
  w1 : 1 ≤ W
  w2 : W ≤ 64
  h1 : 1 ≤ H
  h2 : H ≤ 64
  len : (cost.length : Int) = W * H
  c : ∀ x ∈ cost, 0 ≤ x ∧ x ≤ 1000
theorem Grid.big {W H : Int} {cost : List Int} (g : Grid W H cost) : 1 ≤ cost.length ∧ cost.length ≤ 4096 := by
  have h1 : 1 * 1 ≤ W * H := le_mul g.w1 g.h1 (by omega) (by have := g.h1; omega)
  have h2 : W * H ≤ 64 * 64 := le_mul g.w2 g.h2 (by have := g.w1; omega) (by omega)
  have := g.len
  omega
theorem rd_mem {l : List Int} {i : Int} (h0 : 0 ≤ i) (h1 : i < l.length) : rd l i ∈ l := by
  unfold rd
  rw [List.getD_eq_getElem?_getD, List.getElem?_eq_getElem (by omega)]
  exact List.getElem_mem _
theorem rd_out {l : List Int} {i : Int} (h1 : (l.length : Int) ≤ i) : rd l i = 0 := by
  unfold rd
  rw [List.getD_eq_getElem?_getD, List.getElem?_eq_none (by omega)]; rfl
theorem rd_set {l : List Int} {i j v : Int} (h0 : 0 ≤ i) (h1 : i < l.length) (h2 : 0 ≤ j) : rd (l.set i.toNat v) j = if i = j then v else rd l j := by
  unfold rd
  rw [List.getD_eq_getElem?_getD, List.getD_eq_getElem?_getD, List.getElem?_set]
  by_cases h : i = j
  · subst h; rw [if_pos rfl, if_pos (by omega), if_pos rfl]; rfl
  · rw [if_neg (by omega), if_neg h]
theorem Grid.rd {W H : Int} {cost : List Int} (g : Grid W H cost) (i : Int) (h0 : 0 ≤ i) : 0 ≤ rd cost i ∧ rd cost i ≤ 1000 := by
  by_cases h : i < cost.length
  · exact g.c _ (rd_mem h0 h)
  · rw [rd_out (by omega)]; omega
/-- What the costs of ways are. -/
structure Sol (W H : Int) (cost goals f : List Int) : Prop where
  len : f.length = cost.length
  low : ∀ i, 0 ≤ i → i < W * H → -1 ≤ rd f i
  top : ∀ i, 0 ≤ i → i < W * H → rd f i ≤ 1000 * (cost.length : Int)
  goal : ∀ i, i ∈ goals → 0 < rd cost i → rd f i = 0
  relax : ∀ i d n, 1 ≤ d → d ≤ 4 → stepP W H i d = n → 0 ≤ n → 0 < rd cost i → 0 ≤ rd f n → 0 ≤ rd f i ∧ rd f i ≤ rd f n + rd cost n
  att : ∀ i, 0 ≤ i → i < W * H → 0 ≤ rd f i → 0 < rd cost i ∧ ((i ∈ goals ∧ rd f i = 0) ∨ ∃ d n, 1 ≤ d ∧ d ≤ 4 ∧ stepP W H i d = n ∧ 0 ≤ n ∧ 0 ≤ rd f n ∧ 0 < rd cost n ∧ rd f i = rd f n + rd cost n)
/-- Fewer walls and more goals: no cost is greater. -/
theorem Sol.le {W H : Int} {cost cost' goals goals' f g : List Int} (hf : Sol W H cost goals f) (hg : Sol W H cost' goals' g) (hc : ∀ i, 0 < rd cost i → rd cost' i = rd cost i) (hG : ∀ i, i ∈ goals → i ∈ goals') :
    ∀ i, 0 ≤ i → i < W * H → 0 ≤ rd f i → 0 ≤ rd g i ∧ rd g i ≤ rd f i := by
  suffices h : ∀ (m : Nat) (i : Int), 0 ≤ i → i < W * H → 0 ≤ rd f i → (rd f i).toNat = m → 0 ≤ rd g i ∧ rd g i ≤ rd f i from fun i h0 h1 h2 => h _ i h0 h1 h2 rfl
  intro m
  induction m using Nat.strongRecOn with
  | ind m ih =>
    intro i h0 h1 h2 hm
    obtain ⟨hp, h | ⟨d, n, d1, d2, hs, n0, fn, cn, e⟩⟩ := hf.att i h0 h1 h2
    · have := hg.goal i (hG i h.1) (by rw [hc i hp]; exact hp)
      omega
    · obtain ⟨_, _, n1, _⟩ := stepP_sym hs n0 ⟨d1, d2⟩
      have hn := ih (rd f n).toNat (by omega) n n0 n1 fn rfl
      have hr := hg.relax i d n d1 d2 hs n0 (by rw [hc i hp]; exact hp) hn.1
      rw [hc n cn] at hr
      omega
theorem list_ext_rd {f g : List Int} (hl : f.length = g.length) (h : ∀ i : Int, 0 ≤ i → i < f.length → rd f i = rd g i) : f = g := by
  apply List.ext_getElem? 
  intro k
  by_cases hk : k < f.length
  · have := h (k : Int) (by omega) (by omega)
    unfold rd at this
    rw [List.getD_eq_getElem?_getD, List.getD_eq_getElem?_getD, Int.toNat_natCast, List.getElem?_eq_getElem hk, List.getElem?_eq_getElem (by omega)] at this
    rw [List.getElem?_eq_getElem hk, List.getElem?_eq_getElem (by omega)]
    exact congrArg some this
  · rw [List.getElem?_eq_none (by omega), List.getElem?_eq_none (by omega)]
theorem Sol.unique {W H : Int} {cost goals f g : List Int} (hl : (cost.length : Int) = W * H) (hf : Sol W H cost goals f) (hg : Sol W H cost goals g) : f = g := by
  refine list_ext_rd (hf.len.trans hg.len.symm) fun i h0 h1 => ?_
  have hi : i < W * H := by have := hf.len; omega
  have a := hf.low i h0 hi
  have b := hg.low i h0 hi
  by_cases h : 0 ≤ rd f i
  · have x := hf.le hg (fun _ _ => rfl) (fun _ h => h) i h0 hi h
    have y := hg.le hf (fun _ _ => rfl) (fun _ h => h) i h0 hi x.1
    omega
  · by_cases h' : 0 ≤ rd g i
    · have y := hg.le hf (fun _ _ => rfl) (fun _ h => h) i h0 hi h'
      omega
    · omega
def unset (f : List Int) : Nat := f.countP (fun x => decide (x < 0))
theorem unset_le (f : List Int) : unset f ≤ f.length := List.countP_le_length
theorem unset_set {f : List Int} {i v : Int} (h0 : 0 ≤ i) (h1 : i < f.length) (h2 : rd f i < 0) (h3 : 0 ≤ v) : unset (f.set i.toNat v) + 1 = unset f := by
  have hi : i.toNat < f.length := by omega
  have e : f[i.toNat] < 0 := by
    unfold rd at h2
    rw [List.getD_eq_getElem?_getD, List.getElem?_eq_getElem hi] at h2
    exact h2
  have hpos : 0 < unset f := List.countP_pos_iff.2 ⟨_, List.getElem_mem hi, by simpa using e⟩
  unfold unset at *
  rw [List.countP_set hi, if_pos (by simpa using e), if_neg (by simpa using h3)]
  omega
/-- Under way: out holds what is known, h what may come; only the ways into c by the directions from d on are not tried yet. -/
structure Inv (W H : Int) (cost goals : List Int) (G : Nat) (out : List Int) (h : List Far) (c d : Int) : Prop where
  len : out.length = cost.length
  low : ∀ i, 0 ≤ i → i < W * H → -1 ≤ rd out i
  heap : Heap h h.length
  room : 5 * unset out + h.length + (5 - d).toNat ≤ G + 5 * cost.length
  last : d ≤ 4 → 0 ≤ rd out c ∧ rd out c + 1000 ≤ 1000 * ((cost.length : Int) - unset out) ∧ ∀ i, 0 ≤ i → i < W * H → rd out i ≤ rd out c
  cell : ∀ x ∈ h, 0 ≤ x.2 ∧ x.2 < W * H ∧ 0 < rd cost x.2 ∧ 0 ≤ x.1 ∧ x.1 ≤ 1000 * ((cost.length : Int) - unset out)
  from_ : ∀ x ∈ h, (x.2 ∈ goals ∧ x.1 = 0) ∨ ∃ e n, 1 ≤ e ∧ e ≤ 4 ∧ stepP W H x.2 e = n ∧ 0 ≤ n ∧ 0 ≤ rd out n ∧ 0 < rd cost n ∧ x.1 = rd out n + rd cost n
  att : ∀ i, 0 ≤ i → i < W * H → 0 ≤ rd out i → 0 < rd cost i ∧ ((i ∈ goals ∧ rd out i = 0) ∨ ∃ e n, 1 ≤ e ∧ e ≤ 4 ∧ stepP W H i e = n ∧ 0 ≤ n ∧ 0 ≤ rd out n ∧ 0 < rd cost n ∧ rd out i = rd out n + rd cost n)
  most : ∀ i, 0 ≤ i → i < W * H → rd out i ≤ 1000 * ((cost.length : Int) - unset out)
  goal : ∀ i, i ∈ goals → 0 < rd cost i → rd out i = 0 ∨ rd out i < 0 ∧ ((0 : Int), i) ∈ h
  relax : ∀ i n e, 1 ≤ e → e ≤ 4 → stepP W H n e = i → 0 ≤ i → 0 < rd cost i → 0 ≤ rd out n → (n ≠ c ∨ e < d) → (0 ≤ rd out i ∧ rd out i ≤ rd out n + rd cost n) ∨ (rd out i < 0 ∧ (rd out n + rd cost n, i) ∈ h)
  mono : ∀ i, 0 ≤ i → i < W * H → 0 ≤ rd out i → ∀ x ∈ h, rd out i ≤ x.1
theorem Inv.all {W H : Int} {cost goals : List Int} {G : Nat} {out : List Int} {h : List Far} {c d c' d' : Int} (I : Inv W H cost goals G out h c d) (hd : 4 < d) (hd' : 4 < d') : Inv W H cost goals G out h c' d' :=
  { I with room := by have := I.room; omega, last := fun h => by omega, relax := fun i n e e1 e2 hs i0 hc hn _ => I.relax i n e e1 e2 hs i0 hc hn (.inr (by omega)) }
section
variable {W H : Int} {cost goals : List Int} {G : Nat} {out : List Int} {h : List Far}
/-- At the end. -/
theorem Inv.done (I : Inv W H cost goals G out [] (-1) 5) : Sol W H cost goals out where
  len := I.len
  low := I.low
  top := fun i i0 i1 => by have := I.most i i0 i1; omega
  goal := fun i hi hc => by
    rcases I.goal i hi hc with h | ⟨_, h⟩
    · exact h
    · simp at h
  relax := fun i d n d1 d2 hs n0 hc hn => by
    obtain ⟨i0, i1, n1, e, e1, e2, hb⟩ := stepP_sym hs n0 ⟨d1, d2⟩
    rcases I.relax i n e e1 e2 hb i0 hc hn (.inr (by omega)) with h | ⟨_, h⟩
    · exact h
    · simp at h
  att := I.att
/-- What is first is there already. -/
theorem Inv.skip (I : Inv W H cost goals G out h (-1) 5) (h0 : 0 < h.length) (hs : 0 ≤ rd out (at_ h 0).2) : Inv W H cost goals G out (popF h) (-1) 5 := by
  obtain ⟨_, p2, p3, p4, p5⟩ := pop_tells h h0 I.heap
  refine ⟨I.len, I.low, popF_heap h I.heap, by have := I.room; have := popF_length h; omega, fun h => by omega, fun x hx => I.cell x (p4 x hx), fun x hx => I.from_ x (p4 x hx), I.att, I.most, fun i hi hc => ?_, fun i n e e1 e2 hst i0 hc hn hne => ?_, fun i i0 i1 hi x hx => I.mono i i0 i1 hi x (p4 x hx)⟩
  · rcases I.goal i hi hc with h | ⟨ho, hm⟩
    · exact .inl h
    · rcases p5 _ hm with e | hm
      · rw [← e] at hs; exact absurd hs (by simp only; omega)
      · exact .inr ⟨ho, hm⟩
  · rcases I.relax i n e e1 e2 hst i0 hc hn hne with h | ⟨ho, hm⟩
    · exact .inl h
    · rcases p5 _ hm with e | hm
      · rw [← e] at hs; exact absurd hs (by simp only; omega)
      · exact .inr ⟨ho, hm⟩
/-- What is first is new. -/
theorem Inv.take (g : Grid W H cost) (hG : ∀ i, i ∈ goals → 0 ≤ i ∧ i < W * H) (I : Inv W H cost goals G out h (-1) 5) (h0 : 0 < h.length) (hs : rd out (at_ h 0).2 < 0) : Inv W H cost goals G (out.set (at_ h 0).2.toNat (at_ h 0).1) (popF h) (at_ h 0).2 1 ∧ 5 * unset (out.set (at_ h 0).2.toNat (at_ h 0).1) + (popF h).length + 6 = 5 * unset out + h.length := by
  obtain ⟨_, p2, p3, p4, p5⟩ := pop_tells h h0 I.heap
  generalize hx : at_ h 0 = x at *
  obtain ⟨x0, x1, xc, xn, xm⟩ := I.cell x p2
  have hl := g.len
  have hlen := I.len
  have hu := unset_set (v := x.1) x0 (by omega) hs xn
  have hR : ∀ j, 0 ≤ j → rd (out.set x.2.toNat x.1) j = if x.2 = j then x.1 else rd out j := fun j hj => rd_set x0 (by omega) hj
  generalize ho : out.set x.2.toNat x.1 = out1 at *
  have hlen1 : out1.length = out.length := by rw [← ho]; simp
  have hmono : ∀ y ∈ h, x.1 ≤ y.1 := fun y hy => by have := p3 y hy; unfold FlowHeap.le at this; omega
  have keep : ∀ n, 0 ≤ n → 0 ≤ rd out n → rd out1 n = rd out n := fun n n0 hn => by
    rw [hR n n0, if_neg (fun e => by rw [e] at hs; omega)]
  refine ⟨⟨by omega, fun i i0 i1 => ?_, popF_heap h I.heap, by have := I.room; have := popF_length h; omega, fun _ => ⟨by rw [hR _ x0, if_pos rfl]; exact xn, by rw [hR _ x0, if_pos rfl]; omega, fun i i0 i1 => ?_⟩, fun y hy => ?_, fun y hy => ?_, fun i i0 i1 hi => ?_, fun i i0 i1 => ?_, fun i hi hc => ?_, fun i n e e1 e2 hst i0 hc hn hne => ?_, fun i i0 i1 hi y hy => ?_⟩, by have := popF_length h; omega⟩
  · rw [hR i i0]; split; omega; exact I.low i i0 i1
  · rw [hR _ x0, if_pos rfl, hR i i0]
    split
    · omega
    · by_cases hi : 0 ≤ rd out i
      · exact I.mono i i0 i1 hi x p2
      · omega
  · obtain ⟨a, b, c, d, e⟩ := I.cell y (p4 y hy)
    exact ⟨a, b, c, d, by omega⟩
  · rcases I.from_ y (p4 y hy) with h | ⟨e, n, e1, e2, hst, n0, hn, cn, he⟩
    · exact .inl h
    · exact .inr ⟨e, n, e1, e2, hst, n0, by rw [keep n n0 hn]; exact hn, cn, by rw [keep n n0 hn]; exact he⟩
  · rw [hR i i0] at hi ⊢
    by_cases e : x.2 = i
    · rw [if_pos e]
      refine ⟨by rw [← e]; exact xc, ?_⟩
      rcases I.from_ x p2 with h | ⟨e', n, e1, e2, hst, n0, hn, cn, he⟩
      · rw [← e]; exact .inl h
      · exact .inr ⟨e', n, e1, e2, by rw [← e]; exact hst, n0, by rw [keep n n0 hn]; exact hn, cn, by rw [keep n n0 hn]; exact he⟩
    · rw [if_neg e] at hi ⊢
      obtain ⟨hc, h | ⟨e', n, e1, e2, hst, n0, hn, cn, he⟩⟩ := I.att i i0 i1 hi
      · exact ⟨hc, .inl h⟩
      · exact ⟨hc, .inr ⟨e', n, e1, e2, hst, n0, by rw [keep n n0 hn]; exact hn, cn, by rw [keep n n0 hn]; exact he⟩⟩
  · rw [hR i i0]
    split
    · omega
    · have := I.most i i0 i1; omega
  · have hiR : 0 ≤ i := (hG i hi).1
    rw [hR i hiR]
    rcases I.goal i hi hc with h | ⟨hn, hm⟩
    · rw [if_neg (fun e => by rw [e] at hs; omega)]; exact .inl h
    · by_cases e : x.2 = i
      · rw [if_pos e]
        have := hmono _ hm
        exact .inl (by simp only at this; omega)
      · rw [if_neg e]
        rcases p5 _ hm with e' | hm
        · exact absurd (by rw [← e']) e
        · exact .inr ⟨hn, hm⟩
  · obtain ⟨n0, n1, i1, _⟩ := stepP_sym hst i0 ⟨e1, e2⟩
    rw [hR n n0] at hn ⊢
    rw [hR i i0]
    by_cases en : x.2 = n
    · omega
    · rw [if_neg en] at hn ⊢
      rcases I.relax i n e e1 e2 hst i0 hc hn (.inr (by omega)) with ⟨h1, h2⟩ | ⟨ho, hm⟩
      · rw [if_neg (fun e => by rw [e] at hs; omega)]; exact .inl ⟨h1, h2⟩
      · by_cases ei : x.2 = i
        · rw [if_pos ei]
          have := hmono _ hm
          exact .inl ⟨xn, this⟩
        · rw [if_neg ei]
          rcases p5 _ hm with e' | hm
          · exact absurd (by rw [← e']) ei
          · exact .inr ⟨ho, hm⟩
  · rw [hR i i0] at hi ⊢
    split
    · exact hmono y (p4 y hy)
    · rename_i e
      rw [if_neg e] at hi
      exact I.mono i i0 i1 hi y (p4 y hy)

theorem pushF_mem' {l : List Far} {x y : Far} (h : y ∈ pushF l x) : y = x ∨ y ∈ l := (pushF_mem l x y).1 h
/-- A cell behind that is not known yet. -/
theorem Inv.push {c d n : Int} (g : Grid W H cost) (I : Inv W H cost goals G out h c d) (c0 : 0 ≤ c) (c1 : c < W * H) (d1 : 1 ≤ d) (d2 : d ≤ 4) (hs : stepP W H c d = n) (n0 : 0 ≤ n) (hc : 0 < rd cost n) (hn : rd out n < 0) : Inv W H cost goals G out (pushF h (rd out c + rd cost c, n)) c (d + 1) := by
  obtain ⟨l1, l2, l3⟩ := I.last d2
  obtain ⟨_, _, n1, e, e1, e2, hb⟩ := stepP_sym hs n0 ⟨d1, d2⟩
  have hcc := g.rd c c0
  refine ⟨I.len, I.low, pushF_heap h _ I.heap, by have := I.room; have := pushF_length h (rd out c + rd cost c, n); omega, fun h => I.last (by omega), fun y hy => ?_, fun y hy => ?_, I.att, I.most, fun i hi hic => ?_, fun i m e' e1' e2' hst i0 hic hm hne => ?_, fun i i0 i1 hi y hy => ?_⟩
  · rcases pushF_mem' hy with rfl | hy
    · exact ⟨n0, n1, hc, by simp only; omega, by simp only; omega⟩
    · exact I.cell y hy
  · rcases pushF_mem' hy with rfl | hy
    · exact .inr ⟨e, c, e1, e2, hb, c0, l1, (I.att c c0 c1 l1).1, rfl⟩
    · exact I.from_ y hy
  · rcases I.goal i hi hic with h | ⟨h1, h2⟩
    · exact .inl h
    · exact .inr ⟨h1, (pushF_mem _ _ _).2 (.inr h2)⟩
  · by_cases hx : m = c ∧ e' = d
    · obtain ⟨rfl, rfl⟩ := hx
      rw [hs] at hst
      subst hst
      exact .inr ⟨hn, (pushF_mem _ _ _).2 (.inl rfl)⟩
    · rcases I.relax i m e' e1' e2' hst i0 hic hm (by omega) with h | ⟨h1, h2⟩
      · exact .inl h
      · exact .inr ⟨h1, (pushF_mem _ _ _).2 (.inr h2)⟩
  · rcases pushF_mem' hy with rfl | hy
    · have := l3 i i0 i1; simp only; omega
    · exact I.mono i i0 i1 hi y hy
/-- A cell behind that is none, or closed, or known. -/
theorem Inv.pass {c d n : Int} (g : Grid W H cost) (I : Inv W H cost goals G out h c d) (c0 : 0 ≤ c) (d1 : 1 ≤ d) (d2 : d ≤ 4) (hs : stepP W H c d = n) (hn : n < 0 ∨ rd cost n ≤ 0 ∨ 0 ≤ rd out n) : Inv W H cost goals G out h c (d + 1) := by
  obtain ⟨l1, l2, l3⟩ := I.last d2
  refine ⟨I.len, I.low, I.heap, by have := I.room; omega, fun h => I.last (by omega), I.cell, I.from_, I.att, I.most, I.goal, fun i m e' e1' e2' hst i0 hic hm hne => ?_, I.mono⟩
  by_cases hx : m = c ∧ e' = d
  · obtain ⟨rfl, rfl⟩ := hx
    rw [hs] at hst
    subst hst
    obtain ⟨_, _, n1, _⟩ := stepP_sym hs i0 ⟨d1, d2⟩
    have := l3 n i0 n1
    have := g.rd m c0
    exact .inl (by omega)
  · exact I.relax i m e' e1' e2' hst i0 hic hm (by omega)
/-- At the begin. -/
theorem unset_none (n : Nat) : unset (List.replicate n (-1)) = n := by
  unfold unset
  rw [List.countP_replicate]; simp
theorem rd_none {n : Nat} {i : Int} (h0 : 0 ≤ i) (h1 : i < n) : rd (List.replicate n (-1)) i = -1 := by
  unfold rd
  rw [List.getD_eq_getElem?_getD, List.getElem?_replicate, if_pos (by omega)]; rfl
theorem Inv.start (g : Grid W H cost) : Inv W H cost [] 0 (List.replicate cost.length (-1)) [] (-1) 5 where
  len := by simp
  low := fun i i0 i1 => by rw [rd_none i0 (by rw [g.len]; exact i1)]; omega
  heap := fun i _ h => by simp at h
  room := by rw [unset_none]; simp
  last := fun h => by omega
  cell := fun x h => by simp at h
  from_ := fun x h => by simp at h
  att := fun i i0 i1 h => by rw [rd_none i0 (by rw [g.len]; exact i1)] at h; omega
  most := fun i i0 i1 => by rw [rd_none i0 (by rw [g.len]; exact i1), unset_none]; omega
  goal := fun i h => by simp at h
  relax := fun i n e e1 e2 hst i0 _ hn _ => by
    obtain ⟨n0, n1, _⟩ := stepP_sym hst i0 ⟨e1, e2⟩
    rw [rd_none n0 (by rw [g.len]; exact n1)] at hn; omega
  mono := fun i i0 i1 h => by rw [rd_none i0 (by rw [g.len]; exact i1)] at h; omega
theorem Inv.goal_open {c : Int} (g : Grid W H cost) (I : Inv W H cost goals G (List.replicate cost.length (-1)) h (-1) 5) (c0 : 0 ≤ c) (c1 : c < W * H) (hc : 0 < rd cost c) : Inv W H cost (goals ++ [c]) (G + 1) (List.replicate cost.length (-1)) (pushF h (0, c)) (-1) 5 := by
  have N : ∀ i, 0 ≤ i → i < W * H → rd (List.replicate cost.length (-1)) i = -1 := fun i i0 i1 => rd_none i0 (by rw [g.len]; exact i1)
  have hu := unset_none cost.length
  refine ⟨I.len, I.low, pushF_heap h _ I.heap, by have := I.room; have := pushF_length h (0, c); omega, fun h => by omega, fun y hy => ?_, fun y hy => ?_, fun i i0 i1 hi => ?_, I.most, fun i hi hic => ?_, fun i m e e1 e2 hst i0 hic hm hne => ?_, fun i i0 i1 hi y hy => ?_⟩
  · rcases pushF_mem' hy with rfl | hy
    · exact ⟨c0, c1, hc, by simp, by rw [hu]; simp⟩
    · exact I.cell y hy
  · rcases pushF_mem' hy with rfl | hy
    · exact .inl ⟨by simp, rfl⟩
    · rcases I.from_ y hy with h | h
      · exact .inl ⟨List.mem_append_left _ h.1, h.2⟩
      · exact .inr h
  · rw [N i i0 i1] at hi; omega
  · rcases List.mem_append.1 hi with hi | hi
    · rcases I.goal i hi hic with h | ⟨h1, h2⟩
      · exact .inl h
      · exact .inr ⟨h1, (pushF_mem _ _ _).2 (.inr h2)⟩
    · obtain rfl : i = c := by simpa using hi
      exact .inr ⟨by rw [N i c0 c1]; omega, (pushF_mem _ _ _).2 (.inl rfl)⟩
  · obtain ⟨n0, n1, _⟩ := stepP_sym hst i0 ⟨e1, e2⟩
    rw [N m n0 n1] at hm; omega
  · rw [N i i0 i1] at hi; omega
theorem Inv.goal_shut {c : Int} (g : Grid W H cost) (I : Inv W H cost goals G (List.replicate cost.length (-1)) h (-1) 5) (hc : ¬ 0 < rd cost c) : Inv W H cost (goals ++ [c]) (G + 1) (List.replicate cost.length (-1)) h (-1) 5 := by
  have N : ∀ i, 0 ≤ i → i < W * H → rd (List.replicate cost.length (-1)) i = -1 := fun i i0 i1 => rd_none i0 (by rw [g.len]; exact i1)
  refine ⟨I.len, I.low, I.heap, by have := I.room; omega, fun h => by omega, I.cell, fun y hy => ?_, fun i i0 i1 hi => ?_, I.most, fun i hi hic => ?_, I.relax, I.mono⟩
  · rcases I.from_ y hy with h | h
    · exact .inl ⟨List.mem_append_left _ h.1, h.2⟩
    · exact .inr h
  · rw [N i i0 i1] at hi; omega
  · rcases List.mem_append.1 hi with hi | hi
    · exact I.goal i hi hic
    · obtain rfl : i = c := by simpa using hi
      exact absurd hic hc
end
end Go.Proofs.Ytmpfboilodlfnaa.FlowSol
