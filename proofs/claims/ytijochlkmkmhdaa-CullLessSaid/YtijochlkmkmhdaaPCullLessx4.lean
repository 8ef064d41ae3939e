-- Printed by a program: the print with changes of this session (wip/printpatch.py).
import Derived.Test.YtijochlkmkmhdaaPCullLessx0
import Derived.Test.YtijochlkmkmhdaaPCullLessx2
import Derived.Test.YtijochlkmkmhdaaPCullLessx3
namespace Go.Proofs.Ytijochlkmkmhdaa.PCullLess
open Go.Proofs.Ytijochlkmkmhdaa.Fnv Go.Proofs.Ytijochlkmkmhdaa.Ary
open Go.RowKit Go.Proofs.YtijochlkmkmhdaaW.PrintWords Go.Proofs.YtijochlkmkmhdaaW.PrintLast Go.Proofs.YtijochlkmkmhdaaW.PrintMore
attribute [local go_sem] max2_int min2_int max_two min_two max_three min_three max_four min_four   -- for this text's walks alone
set_option linter.unusedVariables false
set_option linter.unusedSimpArgs false

/-! ### raster_covers: function 52 -/
-- rounds making descend
def raster_covers.pt (i : Int) (a b c : Int × Int) : Int × Int := if i = 0 then a else if i = 1 then b else c
def raster_covers.l0 : Nat → Int × Int → Int × Int → Int × Int → Int × Int → Int → Option Bool
 | 0, _, _, _, _, _ => none
 | k + 1, a, b, c, p, i => if i < 3 then ((raster_side.f (raster_covers.pt i a b c).1 (raster_covers.pt i a b c).2 (raster_covers.pt i b c a).1 (raster_covers.pt i b c a).2 p.1 p.2).bind fun n => if n < 0 then some false else if n = 0 then ((raster_owns.f (raster_covers.pt i a b c).1 (raster_covers.pt i a b c).2 (raster_covers.pt i b c a).1 (raster_covers.pt i b c a).2).bind fun o => if o = true then raster_covers.l0 k a b c p (wrap64 (i + 1)) else some false) else raster_covers.l0 k a b c p (wrap64 (i + 1))) else some true
def raster_covers.f (k : Nat) (l0 : List S46) (a1 a2 : Int) : Option Bool := if 3 ≤ l0.length then ((raster_side.f (rd_T46 l0 0).f0 (rd_T46 l0 0).f1 (rd_T46 l0 1).f0 (rd_T46 l0 1).f1 (rd_T46 l0 2).f0 (rd_T46 l0 2).f1).bind fun n => if n = 0 then some false else if n < 0 then raster_covers.l0 k ((rd_T46 l0 0).f0, (rd_T46 l0 0).f1) ((rd_T46 l0 2).f0, (rd_T46 l0 2).f1) ((rd_T46 l0 1).f0, (rd_T46 l0 1).f1) (wrap64 (wrap64 (a1 * 65536) + 32768), wrap64 (wrap64 (a2 * 65536) + 32768)) 0 else raster_covers.l0 k ((rd_T46 l0 0).f0, (rd_T46 l0 0).f1) ((rd_T46 l0 1).f0, (rd_T46 l0 1).f1) ((rd_T46 l0 2).f0, (rd_T46 l0 2).f1) (wrap64 (wrap64 (a1 * 65536) + 32768), wrap64 (wrap64 (a2 * 65536) + 32768)) 0) else none
theorem raster_covers.mono_l : ∀ k a b c p i, LeO (raster_covers.l0 k a b c p i) (raster_covers.l0 (k + 1) a b c p i)
 | 0 => fun _ _ _ _ _ r h => by simp [raster_covers.l0] at h
 | k + 1 => by
  intro a b c p i
  have ih := raster_covers.mono_l k
  unfold raster_covers.l0
  refine LeO.ite (LeO.bind (LeO.refl _) fun n => LeO.ite (LeO.refl _) (LeO.ite (LeO.bind (LeO.refl _) fun o => LeO.ite (ih _ _ _ _ _) (LeO.refl _)) (ih _ _ _ _ _))) (LeO.refl _)
theorem raster_covers.mono : ∀ l0 a1 a2 k, LeO (raster_covers.f k l0 a1 a2) (raster_covers.f (k + 1) l0 a1 a2) := by
 intro l0 a1 a2 k
 unfold raster_covers.f
 exact LeO.ite (LeO.bind (LeO.refl _) fun n => LeO.ite (LeO.refl _) (LeO.ite (raster_covers.mono_l _ _ _ _ _ _) (raster_covers.mono_l _ _ _ _ _ _))) (LeO.none _)
theorem raster_covers.three (w : World) (A B C : Obj) : (((w.alloc A).alloc B).alloc C).drew.heap[w.heap.size]? = some A ∧ (((w.alloc A).alloc B).alloc C).drew.heap[w.heap.size + 1]? = some B ∧ (((w.alloc A).alloc B).alloc C).drew.heap[w.heap.size + 1 + 1]? = some C ∧ Below w.heap.size w (((w.alloc A).alloc B).alloc C).drew := by
 have e : ∀ n, (((w.alloc A).alloc B).alloc C).drew.heap[n]? = if n = w.heap.size + 1 + 1 then some C else if n = w.heap.size + 1 then some B else if n = w.heap.size then some A else w.heap[n]? := by
  intro n
  show (((w.heap.push A).push B).push C)[n]? = _
  simp only [Array.getElem?_push, Array.size_push]
 refine ⟨?_, ?_, ?_, ((((Below.refl _ _).alloc (Nat.le_refl _) _).alloc (by simp) _).alloc (by simp; omega) _).drew⟩
 ·rw [e, if_neg (by omega), if_neg (by omega), if_pos rfl]
 ·rw [e, if_neg (by omega), if_pos rfl]
 ·rw [e, if_pos rfl]
theorem raster_covers.perm2 {p q r s : Prop} (h : p ∧ r ∧ q ∧ s) : p ∧ q ∧ r ∧ s := ⟨h.1, h.2.2.1, h.2.1, h.2.2.2⟩
theorem raster_covers.perm3 {p q r s : Prop} (h : q ∧ p ∧ r ∧ s) : p ∧ q ∧ r ∧ s := ⟨h.2.1, h.1, h.2.2.1, h.2.2.2⟩
theorem raster_covers.perm4 {p q r s : Prop} (h : q ∧ r ∧ p ∧ s) : p ∧ q ∧ r ∧ s := ⟨h.2.2.1, h.1, h.2.1, h.2.2.2⟩
theorem raster_covers.perm5 {p q r s : Prop} (h : r ∧ p ∧ q ∧ s) : p ∧ q ∧ r ∧ s := ⟨h.2.1, h.2.2.1, h.1, h.2.2.2⟩
theorem raster_covers.perm6 {p q r s : Prop} (h : r ∧ q ∧ p ∧ s) : p ∧ q ∧ r ∧ s := ⟨h.2.2.1, h.2.1, h.1, h.2.2.2⟩
theorem raster_covers.sz (h : 91 < Try.prog.types.size) : (Try.prog.types[91]'h).size = 4 := by
 have e : (Try.prog.types[91]?).map (fun i => i.size) = some 4 := by kernel_rfl
 rw [Array.getElem?_eq_getElem h] at e
 exact Option.some.inj e
/-- A block's store. -/
theorem raster_covers.put2 {W : World} {g t : Nat} {x y x' : Value} (h : W.heap[g]? = some (.cells #[x, y] t (0, 0))) : (W.setCell ⟨g, 0, none⟩ x').heap[g]? = some (.cells #[x', y] t (0, 0)) := blk_put h 0 x' rfl

set_option maxHeartbeats 8000000 in
set_option maxRecDepth 100000 in
theorem raster_covers.calls (k : Nat) (A0 : Option Addr) (c0 : Nat) (l0 : List S46) (a1 : Int) (a2 : Int) (r : Bool) (w : World) (hr0 : Kd.C k46 w A0 l0.length l0) (hc0 : l0.length ≤ c0) (h : raster_covers.f k l0 a1 a2 = some r) :
  Calls Try.prog 52 #[.slice A0 l0.length c0, .int .i64 a1, .int .i64 a2] w fun e w' => e = .returned (.bool r) ∧ Below w.heap.size w w' := by
 have hu46 := Try.underlying46
 have hu91 := Try.underlying91
 have hu92 := Try.underlying92
 have hsz := raster_covers.sz
 unfold raster_covers.f at h
 by_cases hl : 3 ≤ l0.length
 case neg => rw [if_neg hl] at h; cases h
 rw [if_pos hl] at h
 obtain ⟨ad, rfl, p00, p01⟩ := at_T46 hr0 0 (by omega) (by omega)
 obtain ⟨ad1, e1, p10, p11⟩ := at_T46 hr0 1 (by omega) (by omega)
 obtain rfl := Option.some.inj e1
 obtain ⟨ad2, e2, p20, p21⟩ := at_T46 hr0 2 (by omega) (by omega)
 obtain rfl := Option.some.inj e2
 clear e1 e2 hr0
 have b0 : 0 < (l0.length : Int) := by omega
 have b1 : 1 < (l0.length : Int) := by omega
 have b2 : 2 < (l0.length : Int) := by omega
 generalize rd_T46 l0 0 = pa at *
 generalize rd_T46 l0 1 = pb at *
 generalize rd_T46 l0 2 = pc at *
 obtain ⟨n, hs, H⟩ := Option.bind_eq_some_iff.mp h
 clear h
 have HS := Aside0.mk hs
 have HH := Aside0.mk H
 clear hs H
 simp only [show (0 : Int).toNat = 0 from rfl, show (1 : Int).toNat = 1 from rfl, show (2 : Int).toNat = 2 from rfl, Nat.zero_mul, Nat.one_mul, Nat.reduceMul] at p00 p01 p10 p11 p20 p21
 obtain ⟨bk, o, sp⟩ := ad
 obtain rfl : sp = none := by
  cases sp with
  | none => rfl
  | some s => exfalso; simp only [Addr.add, if_true, World.cell?] at p00; split at p00 <;> simp at p00
 simp only [Addr.add_lit] at p00 p01 p10 p11 p20 p21
 simp only [Nat.add_zero] at p00 p01
 have hlt : bk < w.heap.size := by
  unfold World.cell? at p00
  split at p00
  ·rename_i hh
   rcases Nat.lt_or_ge bk w.heap.size with h | h
   ·exact h
   ·simp [Array.getElem?_eq_none h] at hh
  ·cases p00
 have q0 : 0 < l0.length := by omega
 have q1 : 1 < l0.length := by omega
 have q2 : 2 < l0.length := by omega
 have hA : ∀ (w' : World) (O : Obj) (x : Nat), bk < w'.heap.size → (w'.alloc O).cell? ⟨bk, x, none⟩ = w'.cell? ⟨bk, x, none⟩ := fun w' O x h => World.cell?_alloc_lt _ _ _ h
 have hlt1 : bk < w.heap.size + 1 := by omega
 have hlt2 : bk < w.heap.size + 2 := by omega
 have hlt2' : bk < w.heap.size + 1 + 1 := by omega
 have n0 : w.heap.size ≠ bk := by omega
 have n1 : w.heap.size + 1 ≠ bk := by omega
 have n2 : w.heap.size + 1 + 1 ≠ bk := by omega
 have n2' : w.heap.size + 2 ≠ bk := by omega
 have m0 : bk ≠ w.heap.size := by omega
 have m1 : bk ≠ w.heap.size + 1 := by omega
 have m2 : bk ≠ w.heap.size + 1 + 1 := by omega
 have m2' : bk ≠ w.heap.size + 2 := by omega
 go_enter Try.func52, Try.ntmps52
 go_upto_region 1 with fail
 go_cut [7, 8, 9] (fun v7 v8 v9 w' => ∃ g7 g8 g9 : Nat, v7 = .pointer (some ⟨g7, 0, none⟩) ∧ v8 = .pointer (some ⟨g8, 0, none⟩) ∧ v9 = .pointer (some ⟨g9, 0, none⟩) ∧ g7 ≠ g8 ∧ g7 ≠ g9 ∧ g8 ≠ g9 ∧ w.heap.size ≤ g7 ∧ w.heap.size ≤ g8 ∧ w.heap.size ≤ g9 ∧
   w'.heap[g7]? = some (.cells #[.int .i64 pa.f0, .int .i64 pa.f1] 46 (0, 0)) ∧ w'.heap[g8]? = some (.cells #[.int .i64 pb.f0, .int .i64 pb.f1] 46 (0, 0)) ∧ w'.heap[g9]? = some (.cells #[.int .i64 pc.f0, .int .i64 pc.f1] 46 (0, 0)) ∧ Below w.heap.size w w')
 case first =>
  go_region
  all_goals (go_wp2_with fail; go_meet; refine ⟨_, _, _, rfl, rfl, rfl, by omega, by omega, by omega, by omega, by omega, by omega, ?_⟩)
  all_goals first | exact raster_covers.three _ _ _ _ | exact raster_covers.perm2 (raster_covers.three _ _ _ _) | exact raster_covers.perm3 (raster_covers.three _ _ _ _) | exact raster_covers.perm4 (raster_covers.three _ _ _ _) | exact raster_covers.perm5 (raster_covers.three _ _ _ _) | exact raster_covers.perm6 (raster_covers.three _ _ _ _)
 case rest =>
  clear n0 n1 n2 n2' m0 m1 m2 m2' hA hlt1 hlt2 hlt2' p00 p01 p10 p11 p20 p21 q0 q1 q2 b0 b1 b2
  obtain ⟨g7, g8, g9, rfl, rfl, rfl, d78, d79, d89, G7, G8, G9, B7, B8, B9, HB⟩ := hcut
  have d87 := d78.symm
  have d97 := d79.symm
  have d98 := d89.symm
  rename_i wc
  have c70 : wc.cell? ⟨g7, 0, none⟩ = some (.int .i64 pa.f0) := (blk_cell B7 0).trans rfl
  have c71 : wc.cell? ⟨g7, 1, none⟩ = some (.int .i64 pa.f1) := (blk_cell B7 1).trans rfl
  have c80 : wc.cell? ⟨g8, 0, none⟩ = some (.int .i64 pb.f0) := (blk_cell B8 0).trans rfl
  have c81 : wc.cell? ⟨g8, 1, none⟩ = some (.int .i64 pb.f1) := (blk_cell B8 1).trans rfl
  have c90 : wc.cell? ⟨g9, 0, none⟩ = some (.int .i64 pc.f0) := (blk_cell B9 0).trans rfl
  have c91 : wc.cell? ⟨g9, 1, none⟩ = some (.int .i64 pc.f1) := (blk_cell B9 1).trans rfl
  have HB' := Aside0.mk HB
  have B7' := Aside0.mk B7
  have B8' := Aside0.mk B8
  have B9' := Aside0.mk B9
  clear HB B7 B8 B9
  go_wp2_with fail
  refine (raster_side.calls _ _ _ _ _ _ n _ HS.out).mono ?_
  rintro e w1 ⟨rfl, hb⟩
  clear c70 c71 c80 c81 c90 c91
  have B7 := blk_below B7'.out hb
  have B8 := blk_below B8'.out hb
  have B9 := blk_below B9'.out hb
  have HB := Aside0.mk (below_step HB'.out hb)
  clear B7' B8' B9' HB' hb
  have f80 := blk_frozen B8 0
  have f81 := blk_frozen B8 1
  have f90 := blk_frozen B9 0
  have f91 := blk_frozen B9 1
  have c80 : w1.cell? ⟨g8, 0, none⟩ = some (.int .i64 pb.f0) := (blk_cell B8 0).trans rfl
  have c81 : w1.cell? ⟨g8, 1, none⟩ = some (.int .i64 pb.f1) := (blk_cell B8 1).trans rfl
  have c90 : w1.cell? ⟨g9, 0, none⟩ = some (.int .i64 pc.f0) := (blk_cell B9 0).trans rfl
  have c91 : w1.cell? ⟨g9, 1, none⟩ = some (.int .i64 pc.f1) := (blk_cell B9 1).trans rfl
  have B7' := Aside0.mk B7
  have B8' := Aside0.mk B8
  have B9' := Aside0.mk B9
  clear B7 B8 B9
  by_cases z : n = 0
  ·have zb : (n == 0) = true := beq_iff_eq.mpr z
   have hr : false = r := by have := HH.out; rw [if_pos z] at this; exact Option.some.inj this
   subst hr
   clear z HH
   go_wp2
   go_ret
   exact ⟨rfl, HB.out⟩
  ·have zb : (n == 0) = false := beq_eq_false_iff_ne.mpr z
   have H2 := HH.out
   rw [if_neg z] at H2
   clear z HH
   go_upto_region 7 with fail
   ·rename_i hneg K hK
    rw [if_pos hneg] at H2
    obtain ⟨qb, qc, w2, hw, B7, B8, B9, HB2, H3⟩ : ∃ (qb qc : S46) (w2 : World), ((((w1.setCell ⟨g8, 0, none⟩ (.int .i64 pc.f0)).setCell ⟨g8, 1, none⟩ (.int .i64 pc.f1)).setCell ⟨g9, 0, none⟩ (.int .i64 pb.f0)).setCell ⟨g9, 1, none⟩ (.int .i64 pb.f1)) = w2 ∧ w2.heap[g7]? = some (.cells #[.int .i64 pa.f0, .int .i64 pa.f1] 46 (0, 0)) ∧ w2.heap[g8]? = some (.cells #[.int .i64 qb.f0, .int .i64 qb.f1] 46 (0, 0)) ∧ w2.heap[g9]? = some (.cells #[.int .i64 qc.f0, .int .i64 qc.f1] 46 (0, 0)) ∧ Below w.heap.size w w2 ∧ raster_covers.l0 k (pa.f0, pa.f1) (qb.f0, qb.f1) (qc.f0, qc.f1) (wrap64 (wrap64 (a1 * 65536) + 32768), wrap64 (wrap64 (a2 * 65536) + 32768)) 0 = some r := by
     refine ⟨pc, pb, _, rfl, ?_, ?_, ?_, ?_, H2⟩
     ·exact blk_far (blk_far (blk_far (blk_far B7'.out (p := ⟨g8, 0, none⟩) d78 _) (p := ⟨g8, 1, none⟩) d78 _) (p := ⟨g9, 0, none⟩) d79 _) (p := ⟨g9, 1, none⟩) d79 _
     ·exact blk_far (blk_far (blk_put (blk_put B8'.out 0 _ rfl) 1 _ rfl) (p := ⟨g9, 0, none⟩) d89 _) (p := ⟨g9, 1, none⟩) d89 _
     ·exact blk_put (blk_put (blk_far (blk_far B9'.out (p := ⟨g8, 0, none⟩) d98 _) (p := ⟨g8, 1, none⟩) d98 _) 0 _ rfl) 1 _ rfl
     ·exact below_set (below_set (below_set (below_set HB.out G8) G8) G9) G9
    rw [hw]
    clear hw f80 f81 f90 f91 c80 c81 c90 c91 B7' B8' B9' HB H2 zb HS hneg
    replace B7 := Aside0.mk B7
    replace B8 := Aside0.mk B8
    replace B9 := Aside0.mk B9
    replace HB2 := Aside0.mk HB2
    replace H3 := Aside0.mk H3
    go_upto_region 7 with fail
    go_cut [11] (fun v11 w' => ∃ g11 : Nat, v11 = .pointer (some ⟨g11, 0, none⟩) ∧ w'.heap[g11]? = some (.cells #[.int .i64 (wrap64 (wrap64 (a1 * 65536) + 32768)), .int .i64 (wrap64 (wrap64 (a2 * 65536) + 32768))] 46 (0, 0)) ∧ Below w2.heap.size w2 w')
    case first =>
     go_wp2_with fail
     go_meet
     exact ⟨_, rfl, blk_new _ _, below_alloc (Below.refl _ _) _⟩
    case rest =>
     obtain ⟨g11, rfl, B11, hb⟩ := hcut
     replace B11 := Aside0.mk B11
     replace B7 := Aside0.mk (blk_below B7.out hb)
     replace B8 := Aside0.mk (blk_below B8.out hb)
     replace B9 := Aside0.mk (blk_below B9.out hb)
     replace HB2 := Aside0.mk (below_step HB2.out hb)
     clear hb
     have c70 : wc.cell? ⟨g7, 0, none⟩ = some (.int .i64 pa.f0) := (blk_cell B7.out 0).trans rfl
     have c71 : wc.cell? ⟨g7, 1, none⟩ = some (.int .i64 pa.f1) := (blk_cell B7.out 1).trans rfl
     have c80 : wc.cell? ⟨g8, 0, none⟩ = some (.int .i64 qb.f0) := (blk_cell B8.out 0).trans rfl
     have c81 : wc.cell? ⟨g8, 1, none⟩ = some (.int .i64 qb.f1) := (blk_cell B8.out 1).trans rfl
     have c90 : wc.cell? ⟨g9, 0, none⟩ = some (.int .i64 qc.f0) := (blk_cell B9.out 0).trans rfl
     have c91 : wc.cell? ⟨g9, 1, none⟩ = some (.int .i64 qc.f1) := (blk_cell B9.out 1).trans rfl
     generalize (wrap64 (wrap64 (a1 * 65536) + 32768)) = px at *
     generalize (wrap64 (wrap64 (a2 * 65536) + 32768)) = py at *
     go_wp2_with fail
     clear c70 c71 c80 c81 c90 c91 B7 B8 B9
     go_loopg [51] k (fun kq v51 w' => ∃ i : Int, v51 = .int .i64 i ∧ Aside0 (0 ≤ i) ∧ Aside0 (raster_covers.l0 kq (pa.f0, pa.f1) (qb.f0, qb.f1) (qc.f0, qc.f1) (px, py) i = some r) ∧ Aside0 (w'.heap[g11]? = some (.cells #[.int .i64 px, .int .i64 py] 46 (0, 0))) ∧ Aside0 (Below w.heap.size w w'))
     case atStart => exact ⟨0, rfl, ⟨Int.le_refl _⟩, H3, B11, HB2⟩
     case round =>
      clear H3 B11 HB2
      obtain ⟨i, rfl, h0, HA, B11, HB⟩ := hrel
      cases gk with
      | zero => exact absurd HA.out (by simp [raster_covers.l0])
      | succ k3 =>
       have H := HA.out
       clear HA
       simp only [raster_covers.l0] at H
       by_cases c1 : i < 3
       ·rw [if_pos c1] at H
        have c1b : decide (i < 3) = true := decide_eq_true c1
        go_upto_region 10 with fail
        go_cut [13] (fun v13 w' => ∃ g13 : Nat, v13 = .pointer (some ⟨g13, 0, none⟩) ∧ w'.heap[g13]? = some (.cells #[.int .i64 (raster_covers.pt i (pa.f0, pa.f1) (qb.f0, qb.f1) (qc.f0, qc.f1)).1, .int .i64 (raster_covers.pt i (pa.f0, pa.f1) (qb.f0, qb.f1) (qc.f0, qc.f1)).2, .int .i64 (raster_covers.pt i (qb.f0, qb.f1) (qc.f0, qc.f1) (pa.f0, pa.f1)).1, .int .i64 (raster_covers.pt i (qb.f0, qb.f1) (qc.f0, qc.f1) (pa.f0, pa.f1)).2] 91 (0, 0)) ∧ Below wr.heap.size wr w')
        case first =>
         clear H
         obtain rfl | rfl | rfl : i = 0 ∨ i = 1 ∨ i = 2 := by have := h0.out; omega
         ·go_wp2_with (first | ((with_reducible refine gate_dst (N := 53) rfl ?_); refine Kd.event_run rfl (v := .agg #[.int .i64 pa.f0, .int .i64 pa.f1, .int .i64 qb.f0, .int .i64 qb.f1]) (w1 := wr) (by kernel_rfl) ?_))
          go_meet
          exact ⟨_, rfl, blk_new _ _, below_alloc (Below.refl _ _) _⟩
         ·go_wp2_with (first | ((with_reducible refine gate_dst (N := 53) rfl ?_); refine Kd.event_run rfl (v := .agg #[.int .i64 qb.f0, .int .i64 qb.f1, .int .i64 qc.f0, .int .i64 qc.f1]) (w1 := wr) (by kernel_rfl) ?_))
          go_meet
          exact ⟨_, rfl, blk_new _ _, below_alloc (Below.refl _ _) _⟩
         ·go_wp2_with (first | ((with_reducible refine gate_dst (N := 53) rfl ?_); refine Kd.event_run rfl (v := .agg #[.int .i64 qc.f0, .int .i64 qc.f1, .int .i64 pa.f0, .int .i64 pa.f1]) (w1 := wr) (by kernel_rfl) ?_))
          go_meet
          exact ⟨_, rfl, blk_new _ _, below_alloc (Below.refl _ _) _⟩
        case rest =>
         obtain ⟨g13, rfl, B13, hb⟩ := hcut
         replace B13 := Aside0.mk B13
         replace B11 := Aside0.mk (blk_below B11.out hb)
         replace HB := Aside0.mk (below_step HB.out hb)
         clear hb
         have hi1 : 0 ≤ wrap64 (i + 1) := by
          obtain rfl | rfl | rfl : i = 0 ∨ i = 1 ∨ i = 2 := by have := h0.out; omega
          all_goals decide +kernel
         have hi1 := Aside0.mk hi1
         generalize raster_covers.pt i (pa.f0, pa.f1) (qb.f0, qb.f1) (qc.f0, qc.f1) = s at *
         generalize raster_covers.pt i (qb.f0, qb.f1) (qc.f0, qc.f1) (pa.f0, pa.f1) = t at *
         have c110 : wc.cell? ⟨g11, 0, none⟩ = some (.int .i64 px) := (blk_cell B11.out 0).trans rfl
         have c111 : wc.cell? ⟨g11, 1, none⟩ = some (.int .i64 py) := (blk_cell B11.out 1).trans rfl
         have c130 : wc.cell? ⟨g13, 0, none⟩ = some (.int .i64 s.1) := (blk_cell B13.out 0).trans rfl
         have c131 : wc.cell? ⟨g13, 1, none⟩ = some (.int .i64 s.2) := (blk_cell B13.out 1).trans rfl
         have c132 : wc.cell? ⟨g13, 2, none⟩ = some (.int .i64 t.1) := (blk_cell B13.out 2).trans rfl
         have c133 : wc.cell? ⟨g13, 3, none⟩ = some (.int .i64 t.2) := (blk_cell B13.out 3).trans rfl
         obtain ⟨m, hs, H2⟩ := Option.bind_eq_some_iff.mp H
         clear H
         replace hs := Aside0.mk hs
         replace H2 := Aside0.mk H2
         go_wp2_with fail
         refine (raster_side.calls _ _ _ _ _ _ m _ hs.out).mono ?_
         rintro e w4 ⟨rfl, hb⟩
         clear c110 c111 c130 c131 c132 c133 hs
         replace B13 := Aside0.mk (blk_below B13.out hb)
         replace B11 := Aside0.mk (blk_below B11.out hb)
         replace HB := Aside0.mk (below_step HB.out hb)
         clear hb
         have c130 : w4.cell? ⟨g13, 0, none⟩ = some (.int .i64 s.1) := (blk_cell B13.out 0).trans rfl
         have c131 : w4.cell? ⟨g13, 1, none⟩ = some (.int .i64 s.2) := (blk_cell B13.out 1).trans rfl
         have c132 : w4.cell? ⟨g13, 2, none⟩ = some (.int .i64 t.1) := (blk_cell B13.out 2).trans rfl
         have c133 : w4.cell? ⟨g13, 3, none⟩ = some (.int .i64 t.2) := (blk_cell B13.out 3).trans rfl
         by_cases z1 : m < 0
         ·have H3 := H2.out
          rw [if_pos z1] at H3
          obtain rfl := Option.some.inj H3
          clear H2 H3
          have z1b : decide (m < 0) = true := decide_eq_true z1
          go_wp2
          go_ret
          exact ⟨rfl, HB.out⟩
         ·have H3 := H2.out
          rw [if_neg z1] at H3
          clear H2
          have z1b : decide (m < 0) = false := decide_eq_false z1
          by_cases z2 : m = 0
          ·rw [if_pos z2] at H3
           obtain ⟨o, ho, H4⟩ := Option.bind_eq_some_iff.mp H3
           clear H3
           have z2b : (m == 0) = true := beq_iff_eq.mpr z2
           replace ho := Aside0.mk ho
           replace H4 := Aside0.mk H4
           clear z1 z2
           go_wp2_with fail
           refine (raster_owns.calls _ _ _ _ o _ ho.out).mono ?_
           rintro e w5 ⟨rfl, hb⟩
           clear c130 c131 c132 c133 ho
           replace B11 := Aside0.mk (blk_below B11.out hb)
           replace HB := Aside0.mk (below_step HB.out hb)
           clear hb
           cases o with
           | false =>
            have H5 := H4.out
            clear H4
            rw [if_neg (by decide)] at H5
            obtain rfl := Option.some.inj H5
            go_wp2
            go_ret
            exact ⟨rfl, HB.out⟩
           | true =>
            have H5 := H4.out
            clear H4
            rw [if_pos rfl] at H5
            replace H5 := Aside0.mk H5
            go_wp2
            go_roundg k3
            case measure => omega
            case rel => exact ⟨_, rfl, hi1, H5, B11, HB⟩
          ·rw [if_neg z2] at H3
           have z2b : (m == 0) = false := beq_eq_false_iff_ne.mpr z2
           replace H3 := Aside0.mk H3
           clear z1 z2
           go_wp2
           go_roundg k3
           case measure => omega
           case rel => exact ⟨_, rfl, hi1, H3, B11, HB⟩
       ·rw [if_neg c1] at H
        have c1b : decide (i < 3) = false := decide_eq_false c1
        obtain rfl := Option.some.inj H
        go_wp2
        go_ret
        exact ⟨rfl, HB.out⟩
   ·rename_i hneg K hK
    rw [if_neg (by omega)] at H2
    obtain ⟨qb, qc, w2, hw, B7, B8, B9, HB2, H3⟩ : ∃ (qb qc : S46) (w2 : World), w1 = w2 ∧ w2.heap[g7]? = some (.cells #[.int .i64 pa.f0, .int .i64 pa.f1] 46 (0, 0)) ∧ w2.heap[g8]? = some (.cells #[.int .i64 qb.f0, .int .i64 qb.f1] 46 (0, 0)) ∧ w2.heap[g9]? = some (.cells #[.int .i64 qc.f0, .int .i64 qc.f1] 46 (0, 0)) ∧ Below w.heap.size w w2 ∧ raster_covers.l0 k (pa.f0, pa.f1) (qb.f0, qb.f1) (qc.f0, qc.f1) (wrap64 (wrap64 (a1 * 65536) + 32768), wrap64 (wrap64 (a2 * 65536) + 32768)) 0 = some r :=
     ⟨pb, pc, _, rfl, B7'.out, B8'.out, B9'.out, HB.out, H2⟩
    rw [hw]
    clear hw f80 f81 f90 f91 c80 c81 c90 c91 B7' B8' B9' HB H2 zb HS hneg
    replace B7 := Aside0.mk B7
    replace B8 := Aside0.mk B8
    replace B9 := Aside0.mk B9
    replace HB2 := Aside0.mk HB2
    replace H3 := Aside0.mk H3
    go_upto_region 7 with fail
    go_cut [11] (fun v11 w' => ∃ g11 : Nat, v11 = .pointer (some ⟨g11, 0, none⟩) ∧ w'.heap[g11]? = some (.cells #[.int .i64 (wrap64 (wrap64 (a1 * 65536) + 32768)), .int .i64 (wrap64 (wrap64 (a2 * 65536) + 32768))] 46 (0, 0)) ∧ Below w2.heap.size w2 w')
    case first =>
     go_wp2_with fail
     go_meet
     exact ⟨_, rfl, blk_new _ _, below_alloc (Below.refl _ _) _⟩
    case rest =>
     obtain ⟨g11, rfl, B11, hb⟩ := hcut
     replace B11 := Aside0.mk B11
     replace B7 := Aside0.mk (blk_below B7.out hb)
     replace B8 := Aside0.mk (blk_below B8.out hb)
     replace B9 := Aside0.mk (blk_below B9.out hb)
     replace HB2 := Aside0.mk (below_step HB2.out hb)
     clear hb
     have c70 : wc.cell? ⟨g7, 0, none⟩ = some (.int .i64 pa.f0) := (blk_cell B7.out 0).trans rfl
     have c71 : wc.cell? ⟨g7, 1, none⟩ = some (.int .i64 pa.f1) := (blk_cell B7.out 1).trans rfl
     have c80 : wc.cell? ⟨g8, 0, none⟩ = some (.int .i64 qb.f0) := (blk_cell B8.out 0).trans rfl
     have c81 : wc.cell? ⟨g8, 1, none⟩ = some (.int .i64 qb.f1) := (blk_cell B8.out 1).trans rfl
     have c90 : wc.cell? ⟨g9, 0, none⟩ = some (.int .i64 qc.f0) := (blk_cell B9.out 0).trans rfl
     have c91 : wc.cell? ⟨g9, 1, none⟩ = some (.int .i64 qc.f1) := (blk_cell B9.out 1).trans rfl
     generalize (wrap64 (wrap64 (a1 * 65536) + 32768)) = px at *
     generalize (wrap64 (wrap64 (a2 * 65536) + 32768)) = py at *
     go_wp2_with fail
     clear c70 c71 c80 c81 c90 c91 B7 B8 B9
     go_loopg [51] k (fun kq v51 w' => ∃ i : Int, v51 = .int .i64 i ∧ Aside0 (0 ≤ i) ∧ Aside0 (raster_covers.l0 kq (pa.f0, pa.f1) (qb.f0, qb.f1) (qc.f0, qc.f1) (px, py) i = some r) ∧ Aside0 (w'.heap[g11]? = some (.cells #[.int .i64 px, .int .i64 py] 46 (0, 0))) ∧ Aside0 (Below w.heap.size w w'))
     case atStart => exact ⟨0, rfl, ⟨Int.le_refl _⟩, H3, B11, HB2⟩
     case round =>
      clear H3 B11 HB2
      obtain ⟨i, rfl, h0, HA, B11, HB⟩ := hrel
      cases gk with
      | zero => exact absurd HA.out (by simp [raster_covers.l0])
      | succ k3 =>
       have H := HA.out
       clear HA
       simp only [raster_covers.l0] at H
       by_cases c1 : i < 3
       ·rw [if_pos c1] at H
        have c1b : decide (i < 3) = true := decide_eq_true c1
        go_upto_region 10 with fail
        go_cut [13] (fun v13 w' => ∃ g13 : Nat, v13 = .pointer (some ⟨g13, 0, none⟩) ∧ w'.heap[g13]? = some (.cells #[.int .i64 (raster_covers.pt i (pa.f0, pa.f1) (qb.f0, qb.f1) (qc.f0, qc.f1)).1, .int .i64 (raster_covers.pt i (pa.f0, pa.f1) (qb.f0, qb.f1) (qc.f0, qc.f1)).2, .int .i64 (raster_covers.pt i (qb.f0, qb.f1) (qc.f0, qc.f1) (pa.f0, pa.f1)).1, .int .i64 (raster_covers.pt i (qb.f0, qb.f1) (qc.f0, qc.f1) (pa.f0, pa.f1)).2] 91 (0, 0)) ∧ Below wr.heap.size wr w')
        case first =>
         clear H
         obtain rfl | rfl | rfl : i = 0 ∨ i = 1 ∨ i = 2 := by have := h0.out; omega
         ·go_wp2_with (first | ((with_reducible refine gate_dst (N := 53) rfl ?_); refine Kd.event_run rfl (v := .agg #[.int .i64 pa.f0, .int .i64 pa.f1, .int .i64 qb.f0, .int .i64 qb.f1]) (w1 := wr) (by kernel_rfl) ?_))
          go_meet
          exact ⟨_, rfl, blk_new _ _, below_alloc (Below.refl _ _) _⟩
         ·go_wp2_with (first | ((with_reducible refine gate_dst (N := 53) rfl ?_); refine Kd.event_run rfl (v := .agg #[.int .i64 qb.f0, .int .i64 qb.f1, .int .i64 qc.f0, .int .i64 qc.f1]) (w1 := wr) (by kernel_rfl) ?_))
          go_meet
          exact ⟨_, rfl, blk_new _ _, below_alloc (Below.refl _ _) _⟩
         ·go_wp2_with (first | ((with_reducible refine gate_dst (N := 53) rfl ?_); refine Kd.event_run rfl (v := .agg #[.int .i64 qc.f0, .int .i64 qc.f1, .int .i64 pa.f0, .int .i64 pa.f1]) (w1 := wr) (by kernel_rfl) ?_))
          go_meet
          exact ⟨_, rfl, blk_new _ _, below_alloc (Below.refl _ _) _⟩
        case rest =>
         obtain ⟨g13, rfl, B13, hb⟩ := hcut
         replace B13 := Aside0.mk B13
         replace B11 := Aside0.mk (blk_below B11.out hb)
         replace HB := Aside0.mk (below_step HB.out hb)
         clear hb
         have hi1 : 0 ≤ wrap64 (i + 1) := by
          obtain rfl | rfl | rfl : i = 0 ∨ i = 1 ∨ i = 2 := by have := h0.out; omega
          all_goals decide +kernel
         have hi1 := Aside0.mk hi1
         generalize raster_covers.pt i (pa.f0, pa.f1) (qb.f0, qb.f1) (qc.f0, qc.f1) = s at *
         generalize raster_covers.pt i (qb.f0, qb.f1) (qc.f0, qc.f1) (pa.f0, pa.f1) = t at *
         have c110 : wc.cell? ⟨g11, 0, none⟩ = some (.int .i64 px) := (blk_cell B11.out 0).trans rfl
         have c111 : wc.cell? ⟨g11, 1, none⟩ = some (.int .i64 py) := (blk_cell B11.out 1).trans rfl
         have c130 : wc.cell? ⟨g13, 0, none⟩ = some (.int .i64 s.1) := (blk_cell B13.out 0).trans rfl
         have c131 : wc.cell? ⟨g13, 1, none⟩ = some (.int .i64 s.2) := (blk_cell B13.out 1).trans rfl
         have c132 : wc.cell? ⟨g13, 2, none⟩ = some (.int .i64 t.1) := (blk_cell B13.out 2).trans rfl
         have c133 : wc.cell? ⟨g13, 3, none⟩ = some (.int .i64 t.2) := (blk_cell B13.out 3).trans rfl
         obtain ⟨m, hs, H2⟩ := Option.bind_eq_some_iff.mp H
         clear H
         replace hs := Aside0.mk hs
         replace H2 := Aside0.mk H2
         go_wp2_with fail
         refine (raster_side.calls _ _ _ _ _ _ m _ hs.out).mono ?_
         rintro e w4 ⟨rfl, hb⟩
         clear c110 c111 c130 c131 c132 c133 hs
         replace B13 := Aside0.mk (blk_below B13.out hb)
         replace B11 := Aside0.mk (blk_below B11.out hb)
         replace HB := Aside0.mk (below_step HB.out hb)
         clear hb
         have c130 : w4.cell? ⟨g13, 0, none⟩ = some (.int .i64 s.1) := (blk_cell B13.out 0).trans rfl
         have c131 : w4.cell? ⟨g13, 1, none⟩ = some (.int .i64 s.2) := (blk_cell B13.out 1).trans rfl
         have c132 : w4.cell? ⟨g13, 2, none⟩ = some (.int .i64 t.1) := (blk_cell B13.out 2).trans rfl
         have c133 : w4.cell? ⟨g13, 3, none⟩ = some (.int .i64 t.2) := (blk_cell B13.out 3).trans rfl
         by_cases z1 : m < 0
         ·have H3 := H2.out
          rw [if_pos z1] at H3
          obtain rfl := Option.some.inj H3
          clear H2 H3
          have z1b : decide (m < 0) = true := decide_eq_true z1
          go_wp2
          go_ret
          exact ⟨rfl, HB.out⟩
         ·have H3 := H2.out
          rw [if_neg z1] at H3
          clear H2
          have z1b : decide (m < 0) = false := decide_eq_false z1
          by_cases z2 : m = 0
          ·rw [if_pos z2] at H3
           obtain ⟨o, ho, H4⟩ := Option.bind_eq_some_iff.mp H3
           clear H3
           have z2b : (m == 0) = true := beq_iff_eq.mpr z2
           replace ho := Aside0.mk ho
           replace H4 := Aside0.mk H4
           clear z1 z2
           go_wp2_with fail
           refine (raster_owns.calls _ _ _ _ o _ ho.out).mono ?_
           rintro e w5 ⟨rfl, hb⟩
           clear c130 c131 c132 c133 ho
           replace B11 := Aside0.mk (blk_below B11.out hb)
           replace HB := Aside0.mk (below_step HB.out hb)
           clear hb
           cases o with
           | false =>
            have H5 := H4.out
            clear H4
            rw [if_neg (by decide)] at H5
            obtain rfl := Option.some.inj H5
            go_wp2
            go_ret
            exact ⟨rfl, HB.out⟩
           | true =>
            have H5 := H4.out
            clear H4
            rw [if_pos rfl] at H5
            replace H5 := Aside0.mk H5
            go_wp2
            go_roundg k3
            case measure => omega
            case rel => exact ⟨_, rfl, hi1, H5, B11, HB⟩
          ·rw [if_neg z2] at H3
           have z2b : (m == 0) = false := beq_eq_false_iff_ne.mpr z2
           replace H3 := Aside0.mk H3
           clear z1 z2
           go_wp2
           go_roundg k3
           case measure => omega
           case rel => exact ⟨_, rfl, hi1, H3, B11, HB⟩
       ·rw [if_neg c1] at H
        have c1b : decide (i < 3) = false := decide_eq_false c1
        obtain rfl := Option.some.inj H
        go_wp2
        go_ret
        exact ⟨rfl, HB.out⟩

/-! ### raster_Hits: function 33 -/
def raster_Hits.j0 : Nat → Int → Int → Bool → Int → Int → Int → List (S46) → Option (Bool)
 | 0, _, _, _, _, _, _, _ => none
 | k + 1, x1, x2, x21, x157000, x157001, x157002, x157003 => if x21 = true then (some false) else (if x157000 = 1 then (if 0 < (x157003.length : Int) then (if 1 < (x157003.length : Int) then ((raster_on.f k ((rd_T46 x157003 0).f0) ((rd_T46 x157003 0).f1) ((rd_T46 x157003 1).f0) ((rd_T46 x157003 1).f1) x1 x2).bind fun t160 => (some t160)) else (none)) else (none)) else ((raster_covers.f k x157003 x1 x2).bind fun t161 => (some t161)))
def raster_Hits.f (k : Nat) (a0_0 : Int) (a0_1 : Int) (a0_2 : Int) (l0_3 : List (S46)) (a1 : Int) (a2 : Int) : Option (Bool) := (cull_Check.f k a0_0 a0_1 a0_2 l0_3).bind fun t157 => (if t157 = 0 then (if (mn a1 a2) < (-2000) then (raster_Hits.j0 k a1 a2 true a0_0 a0_1 a0_2 l0_3) else (raster_Hits.j0 k a1 a2 (decide ((mx a1 a2) > 2000)) a0_0 a0_1 a0_2 l0_3)) else (raster_Hits.j0 k a1 a2 true a0_0 a0_1 a0_2 l0_3))
theorem raster_Hits.mono_l : ∀ k, (∀ y0 y1 y2 y3 y4 y5 y6, LeO (raster_Hits.j0 k y0 y1 y2 y3 y4 y5 y6) (raster_Hits.j0 (k + 1) y0 y1 y2 y3 y4 y5 y6))
 | 0 => fun _ _ _ _ _ _ _ r h => by simp [raster_Hits.j0] at h
 | k + 1 => by
  have ih0 := raster_Hits.mono_l k
  ·intro y0 y1 y2 y3 y4 y5 y6
   unfold raster_Hits.j0
   repeat' first
   | (with_reducible exact ih0 _ _ _ _ _ _ _)
   | (with_reducible exact cull_Check.mono _ _ _ _ _)
   | (with_reducible exact raster_covers.mono _ _ _ _)
   | (with_reducible exact raster_on.mono _ _ _ _ _ _ _)
   | (with_reducible exact LeO.refl _)
   | (with_reducible exact LeO.none _)
   | (with_reducible refine LeO.ite ?_ ?_)
   | (with_reducible refine LeO.bind ?_ (fun _ => ?_))
   | exact ih0 _ _ _ _ _ _ _
   | exact cull_Check.mono _ _ _ _ _
   | exact raster_covers.mono _ _ _ _
   | exact raster_on.mono _ _ _ _ _ _ _
   | exact LeO.none _
   | refine LeO.ite ?_ ?_
   | refine LeO.bind ?_ (fun _ => ?_)
theorem raster_Hits.mono : ∀ a0 a1 a2 a3 a4 a5 k, LeO (raster_Hits.f k a0 a1 a2 a3 a4 a5) (raster_Hits.f (k + 1) a0 a1 a2 a3 a4 a5) := by
 intro a0 a1 a2 a3 a4 a5 k
 have ih0 := raster_Hits.mono_l k
 unfold raster_Hits.f
 repeat' first
   | (with_reducible exact ih0 _ _ _ _ _ _ _)
   | (with_reducible exact cull_Check.mono _ _ _ _ _)
   | (with_reducible exact raster_covers.mono _ _ _ _)
   | (with_reducible exact raster_on.mono _ _ _ _ _ _ _)
   | (with_reducible exact LeO.refl _)
   | (with_reducible exact LeO.none _)
   | (with_reducible refine LeO.ite ?_ ?_)
   | (with_reducible refine LeO.bind ?_ (fun _ => ?_))
   | exact ih0 _ _ _ _ _ _ _
   | exact cull_Check.mono _ _ _ _ _
   | exact raster_covers.mono _ _ _ _
   | exact raster_on.mono _ _ _ _ _ _ _
   | exact LeO.none _
   | refine LeO.ite ?_ ?_
   | refine LeO.bind ?_ (fun _ => ?_)
def raster_Hits.T4 : Bool × List (List Nat × List Nat) := (true, [([], []), ([0], [0]), ([1], [1]), ([2], [2]), ([], []), ([4], [4]), ([5], [5]), ([6], [6]), ([], []), ([], []), ([3, 7, 8, 9], [3, 7, 8, 9]), ([10, 10, 0, 1, 2, 3, 4, 5, 6, 7, 8, 9, 10], [10])])
def raster_Hits.B4 : List Nat := [0, 1, 3, 7, 0, 16, 48, 112, 0, 0, 1023, 2047]
theorem raster_Hits.tab4 : rtab .any (opsOf Try.f33 4) = raster_Hits.T4 := by kernel_rfl
theorem raster_Hits.bits4 : waitsOk raster_Hits.T4.2 raster_Hits.B4 = true := by kernel_rfl
set_option maxHeartbeats 8000000 in
set_option maxRecDepth 100000 in
theorem raster_Hits.calls (k : Nat) (a0_0 : Int) (a0_1 : Int) (a0_2 : Int) (A0_3 : Option Addr) (c0_3 : Nat) (l0_3 : List (S46)) (a1 : Int) (a2 : Int) (r : Bool) (w : World) (hr0_3 : Kd.C k46 w A0_3 l0_3.length l0_3) (hc0_3 : l0_3.length ≤ c0_3) (h : raster_Hits.f k a0_0 a0_1 a0_2 l0_3 a1 a2 = some r) :
  Calls Try.prog 33 #[.agg #[.int .i64 a0_0, .int .i64 a0_1, .int .i64 a0_2, .slice A0_3 l0_3.length c0_3], .int .i64 a1, .int .i64 a2] w fun e w' => e = .returned (.bool r) ∧ Below w.heap.size w w' := by
 have hu33 := Try.underlying33
 have hu46 := Try.underlying46
 have HR0_3 := Aside0.mk hr0_3
 have HC0_3 := Aside0.mk hc0_3
 clear hr0_3 hc0_3
 have HB := Aside0.mk (Below.refl w.heap.size w)
 have H : ((cull_Check.f k a0_0 a0_1 a0_2 l0_3).bind fun t157 => (if t157 = 0 then (if (mn a1 a2) < (-2000) then (raster_Hits.j0 k a1 a2 true a0_0 a0_1 a0_2 l0_3) else (raster_Hits.j0 k a1 a2 (decide ((mx a1 a2) > 2000)) a0_0 a0_1 a0_2 l0_3)) else (raster_Hits.j0 k a1 a2 true a0_0 a0_1 a0_2 l0_3))) = some r := h
 clear h
 have HC4 := Aside0.mk H
 clear H
 go_enter Try.func33, Try.ntmps33
 go_upto_region 1 with (first | ((with_reducible refine gate_dst (N := 3) rfl ?_); (try (refine gate_guard (by rfl) ?_; dsimp only)); refine box_event ?hg (N := 3) ?hd (cs := #[.int .i64 a0_0, .int .i64 a0_1, .int .i64 a0_2, .slice A0_3 l0_3.length c0_3]) (t := 33) ?hr ?_; (case hd => rfl); (case hg => rfl); (case hr => first | (go_simp; done) | (go_simp; rfl)); intro gb156 hg w5 hbox hb; have n0_ := Aside0.mk (below_step (by repeat (first | (with_reducible first | exact HB.out | apply below_alloc | apply pw_below_drewN | apply below_drew1) | exact HB.out)) hb); have n1_ := Aside0.mk (hbox); have n2_ := Aside0.mk ((by rw [hg]; exact (below_size (by repeat (first | (with_reducible first | exact HB.out | apply below_alloc | apply pw_below_drewN | apply below_drew1) | exact HB.out))) : w.heap.size ≤ gb156)); have n3_ := Aside0.mk ((by rw [hg]; exact (below_size (by repeat (first | (with_reducible first | exact HB.out | apply below_alloc | apply pw_below_drewN | apply below_drew1) | exact HB.out))) : w.heap.size ≤ gb156)); clear HB; have HB := n0_; have BK156 := n1_; have GW156 := n2_; have GE156 := n3_; clear n0_ n1_ n2_ n3_; clear hb hbox hg))
 (try simp only [Act.put, List.setIfInBounds_toArray, List.set_cons_zero, List.set_cons_succ])
 go_cut [21] (fun v21 wc => ∃ (kq : Nat) (x21_3 : Bool), v21 = .bool x21_3 ∧ Aside0 (raster_Hits.j0 kq a1 a2 x21_3 a0_0 a0_1 a0_2 l0_3 = some r) ∧ Aside0 (kq ≤ k) ∧ Aside0 (wc.heap[gb156]? = some (.cells #[.int .i64 a0_0, .int .i64 a0_1, .int .i64 a0_2, (.slice A0_3 l0_3.length c0_3)] 33 (0, 0))) ∧ Aside0 (Below w.heap.size w wc))
 case first =>
  have H := HC4.out
  clear HC4
  replace H := Option.bind_eq_some_iff.mp H
  obtain ⟨t157, A60, H⟩ := H
  replace H : (if t157 = 0 then (if (mn a1 a2) < (-2000) then (raster_Hits.j0 k a1 a2 true a0_0 a0_1 a0_2 l0_3) else (raster_Hits.j0 k a1 a2 (decide ((mx a1 a2) > 2000)) a0_0 a0_1 a0_2 l0_3)) else (raster_Hits.j0 k a1 a2 true a0_0 a0_1 a0_2 l0_3)) = some r := H
  have A6 := Aside0.mk A60
  clear A60
  by_cases c7 : t157 = 0
  ·rw [if_pos c7] at H
   have c7b0 : (t157 == 0) = true := beq_iff_eq.mpr c7
   have c7b1 : (t157 != 0) = false := bne_eq_false_iff_eq.mpr c7
   clear c7
   (first | rw [c7b0] | (simp only [i64_w, i32_w]; rw [c7b0]) | skip)
   obtain ⟨ji8, hji8⟩ : ∃ j_ : Int, (mn a1 a2) = j_ := ⟨_, rfl⟩
   replace H : (if (ji8) < (-2000) then (raster_Hits.j0 k a1 a2 true a0_0 a0_1 a0_2 l0_3) else (raster_Hits.j0 k a1 a2 (decide ((mx a1 a2) > 2000)) a0_0 a0_1 a0_2 l0_3)) = some r := by first | (rw [hji8] at H; exact H) | (simp only [hji8] at H ⊢; exact H)
   (try rw [hji8] at A6)
   have hji8_ : (if a2 < a1 then a2 else a1) = ji8 := hji8
   by_cases c9 : (ji8) < (-2000)
   ·rw [if_pos c9] at H
    have c9b0 : decide ((ji8) < (-2000)) = true := decide_eq_true c9
    clear c9
    have H' := Aside0.mk H
    clear H
    have hcz10_0 : w5.cell? ⟨gb156, 0, none⟩ = some (.int .i64 a0_0) := (blk_cell BK156.out 0).trans rfl
    have hcz10_1 : w5.cell? ⟨gb156, 1, none⟩ = some (.int .i64 a0_1) := (blk_cell BK156.out 1).trans rfl
    have hcz10_2 : w5.cell? ⟨gb156, 2, none⟩ = some (.int .i64 a0_2) := (blk_cell BK156.out 2).trans rfl
    have hcz10_3 : w5.cell? ⟨gb156, 3, none⟩ = some (.slice A0_3 l0_3.length c0_3) := (blk_cell BK156.out 3).trans rfl
    have hfz10_0 := blk_frozen BK156.out 0
    have hfz10_1 := blk_frozen BK156.out 1
    have hfz10_2 := blk_frozen BK156.out 2
    have hfz10_3 := blk_frozen BK156.out 3
    go_wp2_with (first | ((with_reducible refine gate_callee (f := 27) rfl ?_); refine goesL_ (some 8) rfl rfl Try.func27 (by kernel_rfl) rfl #[.agg #[.int .i64 a0_0, .int .i64 a0_1, .int .i64 a0_2, .slice A0_3 l0_3.length c0_3]] rfl (by (try simp only [List.map_toArray, List.map_cons, List.map_nil]); first | done | rfl | (simp only [List.length_drop, List.length_take]; rfl)) ?_; (with_reducible refine (cull_Check.calls k a0_0 a0_1 a0_2 _ _ l0_3 t157 _ ?side1 ?side2 A6.out).mono ?_); (case side1 => repeat (first | exact (Kd.C_below HR0_3.out HB.out) | (with_reducible refine Kd.C_alloc ?_ _) | (with_reducible refine Kd.C_drewN ?_ _) | (with_reducible refine Kd.C_drew ?_))); (case side2 => exact HC0_3.out); rintro e w11 ⟨rfl, hb⟩; refine ⟨_, rfl, ?_⟩; have n0_ := Aside0.mk (blk_below (g := gb156) (o := .cells #[.int .i64 a0_0, .int .i64 a0_1, .int .i64 a0_2, .slice A0_3 l0_3.length c0_3] 33 (0, 0)) (by (with_reducible repeat (first | refine blk_drewN ?_ _ | refine blk_drew ?_ | refine blk_alloc ?_ _)); exact BK156.out) hb); have n1_ := Aside0.mk (below_step (by repeat (first | (with_reducible first | exact HB.out | apply below_alloc | apply pw_below_drewN | apply below_drew1 | refine below_set ?_ GE156.out) | exact HB.out)) hb); clear BK156; clear HB; have BK156 := n0_; have HB := n1_; clear n0_ n1_; (try clear hb); (try clear hb2); (try clear hk); (try clear hi)))
    go_meet
    case rel => exact ⟨_, (true), (by first | rfl | (simp; done) | (simp [*]; done)), H', ⟨by first | omega | exact Nat.le_refl _⟩, ⟨by (with_reducible repeat (first | refine blk_drewN ?_ _ | refine blk_drew ?_ | refine blk_alloc ?_ _)); exact BK156.out⟩, ⟨by repeat (first | (with_reducible first | exact HB.out | apply below_alloc | apply pw_below_drewN | apply below_drew1 | refine below_set ?_ GE156.out) | exact HB.out)⟩⟩
   ·rw [if_neg c9] at H
    have c9b0 : decide ((ji8) < (-2000)) = false := decide_eq_false c9
    clear c9
    obtain ⟨ji12, hji12⟩ : ∃ j_ : Int, (mx a1 a2) = j_ := ⟨_, rfl⟩
    replace H : (raster_Hits.j0 k a1 a2 (decide ((ji12) > 2000)) a0_0 a0_1 a0_2 l0_3) = some r := by first | (rw [hji12] at H; exact H) | (simp only [hji12] at H ⊢; exact H)
    (try rw [hji12] at A6)
    have hji12_ : (if a1 < a2 then a2 else a1) = ji12 := hji12
    have H' := Aside0.mk H
    clear H
    have hcz13_0 : w5.cell? ⟨gb156, 0, none⟩ = some (.int .i64 a0_0) := (blk_cell BK156.out 0).trans rfl
    have hcz13_1 : w5.cell? ⟨gb156, 1, none⟩ = some (.int .i64 a0_1) := (blk_cell BK156.out 1).trans rfl
    have hcz13_2 : w5.cell? ⟨gb156, 2, none⟩ = some (.int .i64 a0_2) := (blk_cell BK156.out 2).trans rfl
    have hcz13_3 : w5.cell? ⟨gb156, 3, none⟩ = some (.slice A0_3 l0_3.length c0_3) := (blk_cell BK156.out 3).trans rfl
    have hfz13_0 := blk_frozen BK156.out 0
    have hfz13_1 := blk_frozen BK156.out 1
    have hfz13_2 := blk_frozen BK156.out 2
    have hfz13_3 := blk_frozen BK156.out 3
    go_wp2_with (first | ((with_reducible refine gate_callee (f := 27) rfl ?_); refine goesL_ (some 8) rfl rfl Try.func27 (by kernel_rfl) rfl #[.agg #[.int .i64 a0_0, .int .i64 a0_1, .int .i64 a0_2, .slice A0_3 l0_3.length c0_3]] rfl (by (try simp only [List.map_toArray, List.map_cons, List.map_nil]); first | done | rfl | (simp only [List.length_drop, List.length_take]; rfl)) ?_; (with_reducible refine (cull_Check.calls k a0_0 a0_1 a0_2 _ _ l0_3 t157 _ ?side1 ?side2 A6.out).mono ?_); (case side1 => repeat (first | exact (Kd.C_below HR0_3.out HB.out) | (with_reducible refine Kd.C_alloc ?_ _) | (with_reducible refine Kd.C_drewN ?_ _) | (with_reducible refine Kd.C_drew ?_))); (case side2 => exact HC0_3.out); rintro e w14 ⟨rfl, hb⟩; refine ⟨_, rfl, ?_⟩; have n0_ := Aside0.mk (blk_below (g := gb156) (o := .cells #[.int .i64 a0_0, .int .i64 a0_1, .int .i64 a0_2, .slice A0_3 l0_3.length c0_3] 33 (0, 0)) (by (with_reducible repeat (first | refine blk_drewN ?_ _ | refine blk_drew ?_ | refine blk_alloc ?_ _)); exact BK156.out) hb); have n1_ := Aside0.mk (below_step (by repeat (first | (with_reducible first | exact HB.out | apply below_alloc | apply pw_below_drewN | apply below_drew1 | refine below_set ?_ GE156.out) | exact HB.out)) hb); clear BK156; clear HB; have BK156 := n0_; have HB := n1_; clear n0_ n1_; (try clear hb); (try clear hb2); (try clear hk); (try clear hi)))
    go_meet
    case rel => exact ⟨_, (decide ((ji12) > 2000)), (by first | rfl | (simp; done) | (simp only [← hji12] <;> (first | rfl | simp)) | (simp [*]; done)), H', ⟨by first | omega | exact Nat.le_refl _⟩, ⟨by (with_reducible repeat (first | refine blk_drewN ?_ _ | refine blk_drew ?_ | refine blk_alloc ?_ _)); exact BK156.out⟩, ⟨by repeat (first | (with_reducible first | exact HB.out | apply below_alloc | apply pw_below_drewN | apply below_drew1 | refine below_set ?_ GE156.out) | exact HB.out)⟩⟩
  ·rw [if_neg c7] at H
   have c7b0 : (t157 == 0) = false := beq_eq_false_iff_ne.mpr c7
   have c7b1 : (t157 != 0) = true := bne_iff_ne.mpr c7
   (first | rw [c7b0] | (simp only [i64_w, i32_w]; rw [c7b0]) | skip)
   have H' := Aside0.mk H
   clear H
   have hcz15_0 : w5.cell? ⟨gb156, 0, none⟩ = some (.int .i64 a0_0) := (blk_cell BK156.out 0).trans rfl
   have hcz15_1 : w5.cell? ⟨gb156, 1, none⟩ = some (.int .i64 a0_1) := (blk_cell BK156.out 1).trans rfl
   have hcz15_2 : w5.cell? ⟨gb156, 2, none⟩ = some (.int .i64 a0_2) := (blk_cell BK156.out 2).trans rfl
   have hcz15_3 : w5.cell? ⟨gb156, 3, none⟩ = some (.slice A0_3 l0_3.length c0_3) := (blk_cell BK156.out 3).trans rfl
   have hfz15_0 := blk_frozen BK156.out 0
   have hfz15_1 := blk_frozen BK156.out 1
   have hfz15_2 := blk_frozen BK156.out 2
   have hfz15_3 := blk_frozen BK156.out 3
   go_wp2_with (first | ((with_reducible refine gate_callee (f := 27) rfl ?_); refine goesL_ (some 8) rfl rfl Try.func27 (by kernel_rfl) rfl #[.agg #[.int .i64 a0_0, .int .i64 a0_1, .int .i64 a0_2, .slice A0_3 l0_3.length c0_3]] rfl (by (try simp only [List.map_toArray, List.map_cons, List.map_nil]); first | done | rfl | (simp only [List.length_drop, List.length_take]; rfl)) ?_; (with_reducible refine (cull_Check.calls k a0_0 a0_1 a0_2 _ _ l0_3 t157 _ ?side1 ?side2 A6.out).mono ?_); (case side1 => repeat (first | exact (Kd.C_below HR0_3.out HB.out) | (with_reducible refine Kd.C_alloc ?_ _) | (with_reducible refine Kd.C_drewN ?_ _) | (with_reducible refine Kd.C_drew ?_))); (case side2 => exact HC0_3.out); rintro e w16 ⟨rfl, hb⟩; refine ⟨_, rfl, ?_⟩; have n0_ := Aside0.mk (blk_below (g := gb156) (o := .cells #[.int .i64 a0_0, .int .i64 a0_1, .int .i64 a0_2, .slice A0_3 l0_3.length c0_3] 33 (0, 0)) (by (with_reducible repeat (first | refine blk_drewN ?_ _ | refine blk_drew ?_ | refine blk_alloc ?_ _)); exact BK156.out) hb); have n1_ := Aside0.mk (below_step (by repeat (first | (with_reducible first | exact HB.out | apply below_alloc | apply pw_below_drewN | apply below_drew1 | refine below_set ?_ GE156.out) | exact HB.out)) hb); clear BK156; clear HB; have BK156 := n0_; have HB := n1_; clear n0_ n1_; (try clear hb); (try clear hb2); (try clear hk); (try clear hi)))
   go_meet
   case rel => exact ⟨_, (true), (by first | rfl | (simp; done) | (simp [*]; done)), H', ⟨by first | omega | exact Nat.le_refl _⟩, ⟨by (with_reducible repeat (first | refine blk_drewN ?_ _ | refine blk_drew ?_ | refine blk_alloc ?_ _)); exact BK156.out⟩, ⟨by repeat (first | (with_reducible first | exact HB.out | apply below_alloc | apply pw_below_drewN | apply below_drew1 | refine below_set ?_ GE156.out) | exact HB.out)⟩⟩
 case rest =>
  clear HC4
  try clear c2
  try clear p2
  try clear c3
  try clear c7
  try clear c7b0
  try clear c7b1
  try clear c9
  try clear c9b0
  try clear hcz10_0
  try clear hcz10_1
  try clear hcz10_2
  try clear hcz10_3
  try clear hcz13_0
  try clear hcz13_1
  try clear hcz13_2
  try clear hcz13_3
  try clear hcz15_0
  try clear hcz15_1
  try clear hcz15_2
  try clear hcz15_3
  try clear hfz10_0
  try clear hfz10_1
  try clear hfz10_2
  try clear hfz10_3
  try clear hfz13_0
  try clear hfz13_1
  try clear hfz13_2
  try clear hfz13_3
  try clear hfz15_0
  try clear hfz15_1
  try clear hfz15_2
  try clear hfz15_3
  obtain ⟨kq, x21_3, rfl, HA, HJ3, BK156, HB⟩ := hcut
  cases kq with
  | zero => exact absurd HA.out (by simp [raster_Hits.j0])
  | succ kj3 =>
   have H := HA.out
   clear HA
   simp only [raster_Hits.j0] at H
   by_cases c17 : x21_3 = true
   ·subst c17
    have H1 : (some false) = some r := by rw [if_pos rfl] at H; exact H
    clear H
    have H := H1
    clear H1
    obtain rfl := Option.some.inj H
    go_wp2
    go_ret
    exact ⟨by first | rfl | (simp [errW_none, errW_some] <;> rfl) | (simp [*, errW_none, errW_some] <;> rfl), by repeat (first | (with_reducible first | exact HB.out | apply below_alloc | apply pw_below_drewN | apply below_drew1 | refine below_set ?_ GE156.out) | exact HB.out)⟩
   ·replace c17 := Bool.eq_false_iff.mpr c17
    subst c17
    have H1 : (if a0_0 = 1 then (if 0 < (l0_3.length : Int) then (if 1 < (l0_3.length : Int) then ((raster_on.f kj3 ((rd_T46 l0_3 0).f0) ((rd_T46 l0_3 0).f1) ((rd_T46 l0_3 1).f0) ((rd_T46 l0_3 1).f1) a1 a2).bind fun t160 => (some t160)) else (none)) else (none)) else ((raster_covers.f kj3 l0_3 a1 a2).bind fun t161 => (some t161))) = some r := by rw [if_neg (show ¬ (false = true) by decide)] at H; exact H
    clear H
    have H := H1
    clear H1
    by_cases c18 : a0_0 = 1
    ·rw [if_pos c18] at H
     have c18b0 : (a0_0 == 1) = true := beq_iff_eq.mpr c18
     have c18b1 : (a0_0 != 1) = false := bne_eq_false_iff_eq.mpr c18
     clear c18
     by_cases c19 : 0 < (l0_3.length : Int)
     ·rw [if_pos c19] at H
      have c19b0 : decide (0 < (l0_3.length : Int)) = true := decide_eq_true c19
      have c19b1 : decide (0 < l0_3.length) = true := decide_eq_true (by omega)
      clear c19
      by_cases c20 : 1 < (l0_3.length : Int)
      ·rw [if_pos c20] at H
       have c20b0 : decide (1 < (l0_3.length : Int)) = true := decide_eq_true c20
       have c20b1 : decide (1 < l0_3.length) = true := decide_eq_true (by omega)
       clear c20
       replace H := Option.bind_eq_some_iff.mp H
       obtain ⟨t160, A210, H⟩ := H
       replace H : (some t160) = some r := H
       have A21 := Aside0.mk A210
       clear A210
       obtain rfl := Option.some.inj H
       have hcz22_0 : wc.cell? ⟨gb156, 0, none⟩ = some (.int .i64 a0_0) := (blk_cell BK156.out 0).trans rfl
       have hcz22_1 : wc.cell? ⟨gb156, 1, none⟩ = some (.int .i64 a0_1) := (blk_cell BK156.out 1).trans rfl
       have hcz22_2 : wc.cell? ⟨gb156, 2, none⟩ = some (.int .i64 a0_2) := (blk_cell BK156.out 2).trans rfl
       have hcz22_3 : wc.cell? ⟨gb156, 3, none⟩ = some (.slice A0_3 l0_3.length c0_3) := (blk_cell BK156.out 3).trans rfl
       have hfz22_0 := blk_frozen BK156.out 0
       have hfz22_1 := blk_frozen BK156.out 1
       have hfz22_2 := blk_frozen BK156.out 2
       have hfz22_3 := blk_frozen BK156.out 3
       try go_wp2
       have n0_ := Aside0.mk (blk_drew BK156.out)
       have n1_ := Aside0.mk (below_drew1 HB.out)
       clear BK156
       clear HB
       have BK156 := n0_
       have HB := n1_
       clear n0_ n1_
       have p158 : 0 ≤ (0 : Int) := (by omega)
       have q158 : 0 < (l0_3.length : Int) := of_decide_eq_true (by first | (with_reducible assumption) | assumption)
       obtain ⟨ad158, e158, hx158_0, hx158_1⟩ := at_T46 HR0_3.out 0 p158 q158
       have hw158_1 := hx158_1
       (try rw [show ((0 : Int)).toNat = 0 from rfl] at hw158_1)
       (try rw [show 0 * 2 = 0 from rfl] at hw158_1)
       (try rw [Addr.add_zero'] at hw158_1)
       have hw158_0 := hx158_0
       (try rw [show ((0 : Int)).toNat = 0 from rfl] at hw158_0)
       (try rw [show 0 * 2 = 0 from rfl] at hw158_0)
       (try rw [Addr.add_zero'] at hw158_0)
       cases e158
       have qi158 : (0 < l0_3.length) = True := eq_true (by omega)
       (try rw [show ((0 : Int)).toNat = 0 from rfl] at hx158_0)
       (try rw [show 0 * 2 = 0 from rfl] at hx158_0)
       (try rw [Addr.add_zero'] at hx158_0)
       (try rw [show ((0 : Int)).toNat = 0 from rfl] at hx158_1)
       (try rw [show 0 * 2 = 0 from rfl] at hx158_1)
       (try rw [Addr.add_zero'] at hx158_1)
       replace hx158_0 := (HB.out.cell (World.block_lt_of_cell? w _ hx158_0)).trans hx158_0
       replace hx158_1 := (HB.out.cell (World.block_lt_of_cell? w _ hx158_1)).trans hx158_1
       replace p158 := eq_true p158
       replace q158 := eq_true q158
       have p159 : 0 ≤ (1 : Int) := (by omega)
       have q159 : 1 < (l0_3.length : Int) := of_decide_eq_true (by first | (with_reducible assumption) | assumption)
       obtain ⟨ad159, e159, hx159_0, hx159_1⟩ := at_T46 HR0_3.out 1 p159 q159
       have hw159_1 := hx159_1
       (try rw [show ((1 : Int)).toNat = 1 from rfl] at hw159_1)
       (try rw [show 1 * 2 = 2 from rfl] at hw159_1)
       (try simp only [Nat.reduceMul, Nat.reduceEqDiff, Go.Addr.add, ↓reduceIte] at hw159_1)
       have hw159_0 := hx159_0
       (try rw [show ((1 : Int)).toNat = 1 from rfl] at hw159_0)
       (try rw [show 1 * 2 = 2 from rfl] at hw159_0)
       (try simp only [Nat.reduceMul, Nat.reduceEqDiff, Go.Addr.add, ↓reduceIte] at hw159_0)
       obtain rfl : ad158 = ad159 := (by injection e159)
       (try simp only [show (1 : Int).toNat = 1 from rfl, Nat.reduceMul, Nat.reduceEqDiff, Go.Addr.add, ↓reduceIte] at hx159_0)
       (try simp only [show (1 : Int).toNat = 1 from rfl, Nat.reduceMul, Nat.reduceEqDiff, Go.Addr.add, ↓reduceIte] at hx159_1)
       have qi159 : (1 < l0_3.length) = True := eq_true (by omega)
       (try rw [show ((1 : Int)).toNat = 1 from rfl] at hx159_0)
       (try rw [show 1 * 2 = 2 from rfl] at hx159_0)
       (try rw [show ((1 : Int)).toNat = 1 from rfl] at hx159_1)
       (try rw [show 1 * 2 = 2 from rfl] at hx159_1)
       replace hx159_0 := (HB.out.cell (World.block_lt_of_cell? w _ hx159_0)).trans hx159_0
       replace hx159_1 := (HB.out.cell (World.block_lt_of_cell? w _ hx159_1)).trans hx159_1
       replace p159 := eq_true p159
       replace q159 := eq_true q159
       refine start_ (n := 12) (S := fun w' => w'.cell? ⟨gb156, 0, none⟩ = some (.int .i64 a0_0) ∧ w'.cell? ⟨gb156, 1, none⟩ = some (.int .i64 a0_1) ∧ w'.cell? ⟨gb156, 2, none⟩ = some (.int .i64 a0_2) ∧ w'.cell? ⟨gb156, 3, none⟩ = some (.slice (some ad158) l0_3.length c0_3) ∧ w'.cell? ad158 = some (.int .i64 ((rd_T46 l0_3 0).f0)) ∧ w'.cell? ⟨ad158.block, ad158.off + 1, none⟩ = some (.int .i64 ((rd_T46 l0_3 0).f1)) ∧ w'.cell? ⟨ad158.block, ad158.off + 2, none⟩ = some (.int .i64 ((rd_T46 l0_3 1).f0)) ∧ w'.cell? ⟨ad158.block, ad158.off + 2 + 1, none⟩ = some (.int .i64 ((rd_T46 l0_3 1).f1))) (ds := []) #[false, false, false, false, false, false, false, false, false, false, false, false] (by kernel_rfl) rfl rfl ⟨(blk_cell BK156.out 0).trans rfl, (blk_cell BK156.out 1).trans rfl, (blk_cell BK156.out 2).trans rfl, (blk_cell BK156.out 3).trans rfl, ((HB.out.cell (World.block_lt_of_cell? w _ hw158_0)).trans hw158_0), ((HB.out.cell (World.block_lt_of_cell? w _ hw158_1)).trans hw158_1), ((HB.out.cell (World.block_lt_of_cell? w _ hw159_0)).trans hw159_0), ((HB.out.cell (World.block_lt_of_cell? w _ hw159_1)).trans hw159_1)⟩ (fun hHeld => ?_); refine with_tabW raster_Hits.tab4 raster_Hits.bits4 (fun HT_ HW_ => ?_)
       generalize wc.drew = w23 at BK156 HB hx158_0 hx158_1 hx159_0 hx159_1 hHeld ⊢
       refine pure_ (i := 0) (N := some 25) (v := ?_) (a' := ?_) #[true, false, false, false, false, false, false, false, false, false, false, false] rfl rfl (any_of HT_.out (by kernel_rfl)) (fun _ _ _ h => h) (Or.inl ⟨by rfl, ?_⟩) ?_ ?_
       rotate_left
       ·intro w'
        go_simp
        with_reducible rfl
       rotate_left
       ·simp only [Act.put, List.setIfInBounds_toArray, List.set_cons_zero, List.set_cons_succ, i64_w, i32_w]
        rfl
       refine pure_ (i := 4) (N := some 29) (v := ?_) (a' := ?_) #[true, false, false, false, true, false, false, false, false, false, false, false] rfl rfl (any_of HT_.out (by kernel_rfl)) (fun _ _ _ h => h) (Or.inl ⟨by rfl, ?_⟩) ?_ ?_
       rotate_left
       ·intro w'
        go_simp
        with_reducible rfl
       rotate_left
       ·simp only [Act.put, List.setIfInBounds_toArray, List.set_cons_zero, List.set_cons_succ, i64_w, i32_w]
        rfl
       refine pure_ (i := 8) (N := some 33) (v := ?_) (a' := ?_) #[true, false, false, false, true, false, false, false, true, false, false, false] rfl rfl (any_of HT_.out (by kernel_rfl)) (fun _ _ _ h => h) (Or.inl ⟨by rfl, ?_⟩) ?_ ?_
       rotate_left
       ·intro w'
        go_simp
        with_reducible rfl
       rotate_left
       ·simp only [Act.put, List.setIfInBounds_toArray, List.set_cons_zero, List.set_cons_succ, i64_w, i32_w]
        rfl
       refine pure_ (i := 9) (N := some 34) (v := ?_) (a' := ?_) #[true, false, false, false, true, false, false, false, true, true, false, false] rfl rfl (any_of HT_.out (by kernel_rfl)) (fun _ _ _ h => h) (Or.inl ⟨by rfl, ?_⟩) ?_ ?_
       rotate_left
       ·intro w'
        go_simp
        with_reducible rfl
       rotate_left
       ·simp only [Act.put, List.setIfInBounds_toArray, List.set_cons_zero, List.set_cons_succ, i64_w, i32_w]
        rfl
       refine take_ (i := 1) (N := some 26) (v := ?_) (a' := ?_) #[true, true, false, false, true, false, false, false, true, true, false, false] rfl rfl (take_ofW HT_.out HW_.out (by kernel_rfl)) (fun _ _ _ h => h) (Or.inl ⟨by rfl, ?_⟩) hHeld ?_ ?_
       rotate_left
       ·rintro w' ⟨s0, s1, s2, s3, s4, s5, s6, s7⟩
        go_simp
        with_reducible rfl
       rotate_left
       ·simp only [Act.put, List.setIfInBounds_toArray, List.set_cons_zero, List.set_cons_succ, i64_w, i32_w]
        rfl
       refine pure_ (i := 2) (N := some 27) (v := ?_) (a' := ?_) #[true, true, true, false, true, false, false, false, true, true, false, false] rfl rfl (any_of HT_.out (by kernel_rfl)) (fun _ _ _ h => h) (Or.inl ⟨by rfl, ?_⟩) ?_ ?_
       rotate_left
       ·intro w'
        go_simp
        with_reducible rfl
       rotate_left
       ·simp only [Act.put, List.setIfInBounds_toArray, List.set_cons_zero, List.set_cons_succ, i64_w, i32_w]
        rfl
       refine take_ (i := 3) (N := some 28) (v := ?_) (a' := ?_) #[true, true, true, true, true, false, false, false, true, true, false, false] rfl rfl (take_ofW HT_.out HW_.out (by kernel_rfl)) (fun _ _ _ h => h) (Or.inl ⟨by rfl, ?_⟩) hHeld ?_ ?_
       rotate_left
       ·rintro w' ⟨s0, s1, s2, s3, s4, s5, s6, s7⟩
        go_simp
        with_reducible rfl
       rotate_left
       ·simp only [Act.put, List.setIfInBounds_toArray, List.set_cons_zero, List.set_cons_succ, i64_w, i32_w]
        rfl
       refine take_ (i := 5) (N := some 30) (v := ?_) (a' := ?_) #[true, true, true, true, true, true, false, false, true, true, false, false] rfl rfl (take_ofW HT_.out HW_.out (by kernel_rfl)) (fun _ _ _ h => h) (Or.inl ⟨by rfl, ?_⟩) hHeld ?_ ?_
       rotate_left
       ·rintro w' ⟨s0, s1, s2, s3, s4, s5, s6, s7⟩
        go_simp
        with_reducible rfl
       rotate_left
       ·simp only [Act.put, List.setIfInBounds_toArray, List.set_cons_zero, List.set_cons_succ, i64_w, i32_w]
        rfl
       refine pure_ (i := 6) (N := some 31) (v := ?_) (a' := ?_) #[true, true, true, true, true, true, true, false, true, true, false, false] rfl rfl (any_of HT_.out (by kernel_rfl)) (fun _ _ _ h => h) (Or.inl ⟨by rfl, ?_⟩) ?_ ?_
       rotate_left
       ·intro w'
        go_simp
        with_reducible rfl
       rotate_left
       ·simp only [Act.put, List.setIfInBounds_toArray, List.set_cons_zero, List.set_cons_succ, i64_w, i32_w]
        rfl
       refine take_ (i := 7) (N := some 32) (v := ?_) (a' := ?_) #[true, true, true, true, true, true, true, true, true, true, false, false] rfl rfl (take_ofW HT_.out HW_.out (by kernel_rfl)) (fun _ _ _ h => h) (Or.inl ⟨by rfl, ?_⟩) hHeld ?_ ?_
       rotate_left
       ·rintro w' ⟨s0, s1, s2, s3, s4, s5, s6, s7⟩
        go_simp
        with_reducible rfl
       rotate_left
       ·simp only [Act.put, List.setIfInBounds_toArray, List.set_cons_zero, List.set_cons_succ, i64_w, i32_w]
        rfl
       refine one_ (i := 10) (N := some 35) #[true, true, true, true, true, true, true, true, true, true, true, false] rfl rfl (one_of HT_.out (by kernel_rfl)) (by decide) (fun K hK => ?_)
       refine goes_ Try.func51 (by kernel_rfl) rfl #[.agg #[.int .i64 ((rd_T46 l0_3 0).f0), .int .i64 ((rd_T46 l0_3 0).f1)], .agg #[.int .i64 ((rd_T46 l0_3 1).f0), .int .i64 ((rd_T46 l0_3 1).f1)], .int .i64 a1, .int .i64 a2] (by rfl) rfl rfl (by (try simp only [List.map_toArray, List.map_cons, List.map_nil]); first | done | rfl | (simp only [List.length_drop, List.length_take]; rfl)) ?_
       with_reducible refine (raster_on.calls kj3 ((rd_T46 l0_3 0).f0) ((rd_T46 l0_3 0).f1) ((rd_T46 l0_3 1).f0) ((rd_T46 l0_3 1).f1) a1 a2 t160 _ A21.out).mono ?_
       rintro e w24 ⟨rfl, hb⟩
       refine ⟨_, rfl, ?_⟩
       have n0_ := Aside0.mk (blk_below (g := gb156) (o := .cells #[.int .i64 a0_0, .int .i64 a0_1, .int .i64 a0_2, .slice (some ad158) l0_3.length c0_3] 33 (0, 0)) (by (with_reducible repeat (first | refine blk_drewN ?_ _ | refine blk_drew ?_ | refine blk_alloc ?_ _)); exact BK156.out) hb)
       have n1_ := Aside0.mk (below_step (by repeat (first | (with_reducible first | exact HB.out | apply below_alloc | apply pw_below_drewN | apply below_drew1 | refine below_set ?_ GE156.out) | exact HB.out)) hb)
       clear BK156
       clear HB
       have BK156 := n0_
       have HB := n1_
       clear n0_ n1_
       (try clear hb)
       (try clear hb2)
       (try clear hk)
       (try clear hi)
       refine hK.out _ _ ⟨(blk_cell BK156.out 0).trans rfl, (blk_cell BK156.out 1).trans rfl, (blk_cell BK156.out 2).trans rfl, (blk_cell BK156.out 3).trans rfl, ((HB.out.cell (World.block_lt_of_cell? w _ hw158_0)).trans hw158_0), ((HB.out.cell (World.block_lt_of_cell? w _ hw158_1)).trans hw158_1), ((HB.out.cell (World.block_lt_of_cell? w _ hw159_0)).trans hw159_0), ((HB.out.cell (World.block_lt_of_cell? w _ hw159_1)).trans hw159_1)⟩ (fun hHeld => ?_)
       clear hK K
       refine norm_ (a' := ?_) ?_ ?_
       rotate_left
       ·show Act.put _ (some 35) _ = _
        simp only [Act.put, List.setIfInBounds_toArray, List.set_cons_zero, List.set_cons_succ, i64_w, i32_w]
        rfl
       refine pure_ (i := 11) (N := some 6) (v := ?_) (a' := ?_) #[true, true, true, true, true, true, true, true, true, true, true, true] rfl rfl (any_of HT_.out (by kernel_rfl)) (fun _ _ _ h => h) (Or.inl ⟨by rfl, ?_⟩) ?_ ?_
       rotate_left
       ·intro w'
        go_simp
        with_reducible rfl
       rotate_left
       ·simp only [Act.put, List.setIfInBounds_toArray, List.set_cons_zero, List.set_cons_succ, i64_w, i32_w]
        rfl
       refine done_ (done_of HT_.out (by kernel_rfl)) ?_
       try go_wp2
       go_ret
       exact ⟨by first | rfl | (simp [errW_none, errW_some] <;> rfl) | (simp [*, errW_none, errW_some] <;> rfl), by repeat (first | (with_reducible first | exact HB.out | apply below_alloc | apply pw_below_drewN | apply below_drew1 | refine below_set ?_ GE156.out) | exact HB.out)⟩
      ·rw [if_neg c20] at H
       exact absurd H (by simp)
     ·rw [if_neg c19] at H
      exact absurd H (by simp)
    ·rw [if_neg c18] at H
     have c18b0 : (a0_0 == 1) = false := beq_eq_false_iff_ne.mpr c18
     have c18b1 : (a0_0 != 1) = true := bne_iff_ne.mpr c18
     replace H := Option.bind_eq_some_iff.mp H
     obtain ⟨t161, A250, H⟩ := H
     replace H : (some t161) = some r := H
     have A25 := Aside0.mk A250
     clear A250
     obtain rfl := Option.some.inj H
     have hcz26_0 : wc.cell? ⟨gb156, 0, none⟩ = some (.int .i64 a0_0) := (blk_cell BK156.out 0).trans rfl
     have hcz26_1 : wc.cell? ⟨gb156, 1, none⟩ = some (.int .i64 a0_1) := (blk_cell BK156.out 1).trans rfl
     have hcz26_2 : wc.cell? ⟨gb156, 2, none⟩ = some (.int .i64 a0_2) := (blk_cell BK156.out 2).trans rfl
     have hcz26_3 : wc.cell? ⟨gb156, 3, none⟩ = some (.slice A0_3 l0_3.length c0_3) := (blk_cell BK156.out 3).trans rfl
     have hfz26_0 := blk_frozen BK156.out 0
     have hfz26_1 := blk_frozen BK156.out 1
     have hfz26_2 := blk_frozen BK156.out 2
     have hfz26_3 := blk_frozen BK156.out 3
     go_wp2_with (first | ((with_reducible refine gate_callee (f := 52) rfl ?_); refine goesL_ (some 40) rfl rfl Try.func52 (by kernel_rfl) rfl #[.slice A0_3 l0_3.length c0_3, .int .i64 a1, .int .i64 a2] rfl (by (try simp only [List.map_toArray, List.map_cons, List.map_nil]); first | done | rfl | (simp only [List.length_drop, List.length_take]; rfl)) ?_; (with_reducible refine (raster_covers.calls kj3 _ _ l0_3 a1 a2 t161 _ ?side1 ?side2 A25.out).mono ?_); (case side1 => repeat (first | exact (Kd.C_below HR0_3.out HB.out) | (with_reducible refine Kd.C_alloc ?_ _) | (with_reducible refine Kd.C_drewN ?_ _) | (with_reducible refine Kd.C_drew ?_))); (case side2 => exact HC0_3.out); rintro e w27 ⟨rfl, hb⟩; refine ⟨_, rfl, ?_⟩; have n0_ := Aside0.mk (blk_below (g := gb156) (o := .cells #[.int .i64 a0_0, .int .i64 a0_1, .int .i64 a0_2, .slice A0_3 l0_3.length c0_3] 33 (0, 0)) (by (with_reducible repeat (first | refine blk_drewN ?_ _ | refine blk_drew ?_ | refine blk_alloc ?_ _)); exact BK156.out) hb); have n1_ := Aside0.mk (below_step (by repeat (first | (with_reducible first | exact HB.out | apply below_alloc | apply pw_below_drewN | apply below_drew1 | refine below_set ?_ GE156.out) | exact HB.out)) hb); clear BK156; clear HB; have BK156 := n0_; have HB := n1_; clear n0_ n1_; (try clear hb); (try clear hb2); (try clear hk); (try clear hi)))
     go_ret
     exact ⟨by first | rfl | (simp [errW_none, errW_some] <;> rfl) | (simp [*, errW_none, errW_some] <;> rfl), by repeat (first | (with_reducible first | exact HB.out | apply below_alloc | apply pw_below_drewN | apply below_drew1 | refine below_set ?_ GE156.out) | exact HB.out)⟩

end Go.Proofs.Ytijochlkmkmhdaa.PCullLess
