/- What the printed law RasterTiles computes is true, for all whole numbers of 64 bits. Under no other condition. -/
import Derived.Test.YtijochlkmkmhdaaPRasterTilesx
namespace Go.Proofs.Ytijochlkmkmhdaa.PureRasterTiles
open Go.RowKit Go.Proofs.YtijochlkmkmhdaaW.PrintWords Go.Proofs.YtijochlkmkmhdaaW.PrintLast Go.Proofs.YtijochlkmkmhdaaW.PrintMore Go.Proofs.Ytijochlkmkmhdaa.PRasterTiles

theorem wrap_in {x : Int} (h0 : -9223372036854775808 ≤ x) (h1 : x ≤ 9223372036854775807) : wrap64 x = x := by
  unfold wrap64; omega

def chk (x y w h : Int) : Int := if 1 ≤ w ∧ w ≤ 64 ∧ 1 ≤ h ∧ h ≤ 64 then (if -1000 ≤ x ∧ x ≤ 1000 ∧ -1000 ≤ y ∧ y ≤ 1000 then 0 else 1) else 2

theorem check_eq (k : Nat) (x y w h : Int) : raster_Check.f (k + 1) x y w h = some (chk x y w h) := by
  unfold raster_Check.f raster_Check.j0 chk mn mx
  simp only [decide_eq_true_eq]
  repeat' split
  all_goals first | rfl | (exfalso; omega) | (exfalso; simp_all <;> omega)

theorem fault_eq (k : Nat) (x y w h : Int) : tourref5_AreaFault.f (k + 1) x y w h = some (chk x y w h) := by
  unfold tourref5_AreaFault.f tourref5_AreaFault.j0 chk
  simp only [decide_eq_true_eq]
  repeat' split
  all_goals first | rfl | (exfalso; omega) | (exfalso; simp_all <;> omega)

theorem rd_mid (pre L : List S23) (t : S23) (i : Int) (hi : i = pre.length) : rd_T23 (pre ++ t :: L) i = t := by
  subst hi
  unfold rd_T23
  simp

theorem loops (X Y W H w h : Int) (hW : 1 ≤ W ∧ W ≤ 64) (hH : 1 ≤ H ∧ H ≤ 64) (hw : 1 ≤ w) (hh : 1 ≤ h) : ∀ d : Nat,
    (∀ y, 0 ≤ y → y ≤ H + 63 → (H - y) * 300 + 170 ≤ d → ∃ L : List S23, L.length ≤ d ∧
      (∀ k acc, d < k → acc.length + d < 4398046511104 → raster_Tiles.l0 k w h acc y X Y W H = some (acc ++ L, 0)) ∧
      (∀ k pre, d < k → pre.length + d < 4398046511104 → tourlaw5_RasterTiles.l0 k w h (pre ++ L) 0 pre.length y X Y W H = some true)) ∧
    (∀ y x, 0 ≤ y → y < H → 0 ≤ x → x ≤ W + 63 → (H - y) * 300 + (W - x) + 100 ≤ d → ∃ L : List S23, L.length ≤ d ∧
      (∀ k acc, d < k → acc.length + d < 4398046511104 → raster_Tiles.l1 k w h acc y x X Y W H = some (acc ++ L, 0)) ∧
      (∀ k pre, d < k → pre.length + d < 4398046511104 → tourlaw5_RasterTiles.l1 k w h (pre ++ L) 0 pre.length y x X Y W H = some true)) := by
  have hm1 : mn w 64 ≤ 64 ∧ 1 ≤ mn w 64 := by unfold mn; split <;> omega
  have hm2 : mn h 64 ≤ 64 ∧ 1 ≤ mn h 64 := by unfold mn; split <;> omega
  have base : ∀ (d : Nat) y, H ≤ y → ∃ L : List S23, L.length ≤ d ∧
      (∀ k acc, d < k → acc.length + d < 4398046511104 → raster_Tiles.l0 k w h acc y X Y W H = some (acc ++ L, 0)) ∧
      (∀ k pre, d < k → pre.length + d < 4398046511104 → tourlaw5_RasterTiles.l0 k w h (pre ++ L) 0 pre.length y X Y W H = some true) := by
    intro d y hy
    refine ⟨[], by simp, fun k acc hk _ => ?_, fun k pre hk _ => ?_⟩
    · obtain ⟨k, rfl⟩ : ∃ m, k = m + 1 := ⟨k - 1, by omega⟩
      simp only [raster_Tiles.l0]
      rw [if_neg (by omega), List.append_nil]
    · obtain ⟨k, rfl⟩ : ∃ m, k = m + 1 := ⟨k - 1, by omega⟩
      simp only [tourlaw5_RasterTiles.l0]
      rw [if_neg (by omega), List.append_nil]
      simp
  intro d
  induction d with
  | zero => exact ⟨fun y _ _ hd => base 0 y (by omega), fun y x _ _ _ _ hd => by omega⟩
  | succ d ih =>
    obtain ⟨ih0, ih1⟩ := ih
    refine ⟨fun y hy0 hy1 hd => ?_, fun y x hy0 hy1 hx0 hx1 hd => ?_⟩
    · by_cases hy : y < H
      · obtain ⟨L, hL, h1, h2⟩ := ih1 y 0 hy0 hy (by omega) (by omega) (by omega)
        refine ⟨L, by omega, fun k acc hk hb => ?_, fun k pre hk hb => ?_⟩
        · obtain ⟨k, rfl⟩ : ∃ m, k = m + 1 := ⟨k - 1, by omega⟩
          simp only [raster_Tiles.l0]
          rw [if_pos hy]
          exact h1 k acc (by omega) (by omega)
        · obtain ⟨k, rfl⟩ : ∃ m, k = m + 1 := ⟨k - 1, by omega⟩
          simp only [tourlaw5_RasterTiles.l0]
          rw [if_pos hy]
          exact h2 k pre (by omega) (by omega)
      · exact base (d + 1) y (by omega)
    · by_cases hx : x < W
      · have w1 : wrap64 (x + mn w 64) = x + mn w 64 := wrap_in (by omega) (by omega)
        obtain ⟨L, hL, h1, h2⟩ := ih1 y (x + mn w 64) hy0 hy1 (by omega) (by omega) (by omega)
        refine ⟨(⟨wrap64 (X + x), wrap64 (Y + y), mn w (wrap64 (W - x)), mn h (wrap64 (H - y))⟩ : S23) :: L, by simp; omega, fun k acc hk hb => ?_, fun k pre hk hb => ?_⟩
        · obtain ⟨k, rfl⟩ : ∃ m, k = m + 1 := ⟨k - 1, by omega⟩
          simp only [raster_Tiles.l1]
          rw [if_pos hx, if_pos (by omega), w1, h1 k _ (by omega) (by simp; omega)]
          simp
        · obtain ⟨k, rfl⟩ : ∃ m, k = m + 1 := ⟨k - 1, by omega⟩
          simp only [tourlaw5_RasterTiles.l1]
          rw [if_pos hx, if_neg (by simp; omega), if_pos (by omega), if_pos (by simp; omega), rd_mid _ _ _ _ rfl, if_neg (by simp), w1, wrap_in (x := (pre.length : Int) + 1) (by omega) (by omega)]
          have := h2 k (pre ++ [⟨wrap64 (X + x), wrap64 (Y + y), mn w (wrap64 (W - x)), mn h (wrap64 (H - y))⟩]) (by omega) (by simp; omega)
          simpa using this
      · have w1 : wrap64 (y + mn h 64) = y + mn h 64 := wrap_in (by omega) (by omega)
        obtain ⟨L, hL, h1, h2⟩ := ih0 (y + mn h 64) (by omega) (by omega) (by omega)
        refine ⟨L, by omega, fun k acc hk hb => ?_, fun k pre hk hb => ?_⟩
        · obtain ⟨k, rfl⟩ : ∃ m, k = m + 1 := ⟨k - 1, by omega⟩
          simp only [raster_Tiles.l1]
          rw [if_neg hx, w1]
          exact h1 k acc (by omega) (by omega)
        · obtain ⟨k, rfl⟩ : ∃ m, k = m + 1 := ⟨k - 1, by omega⟩
          simp only [tourlaw5_RasterTiles.l1]
          rw [if_neg hx, w1]
          exact h2 k pre (by omega) (by omega)

theorem tiles_eq (k : Nat) (X Y W H w h : Int) (hk : 100000 < k) : ∃ L e, raster_Tiles.f k X Y W H w h = some (L, e) ∧ e = (if chk X Y W H = 0 then (if w < 1 ∨ h < 1 then 1 else 0) else chk X Y W H) ∧
    (e ≠ 0 → L = []) ∧ (e = 0 → tourlaw5_RasterTiles.l0 k w h L 0 0 0 X Y W H = some true) := by
  obtain ⟨k, rfl⟩ : ∃ m, k = m + 1 := ⟨k - 1, by omega⟩
  unfold raster_Tiles.f
  rw [check_eq]
  simp only [Option.bind_some]
  by_cases hc : chk X Y W H = 0
  · rw [if_pos hc, if_pos hc]
    by_cases hw : w < 1
    · rw [if_pos hw, if_pos (by omega)]
      exact ⟨[], 1, by simp [raster_Tiles.j0], rfl, by simp, by simp⟩
    · rw [if_neg hw]
      by_cases hh : h < 1
      · rw [if_pos (by omega)]
        exact ⟨[], 1, by simp [raster_Tiles.j0, hh], rfl, by simp, by simp⟩
      · rw [if_neg (by omega)]
        unfold chk at hc
        split at hc <;> try (simp at hc; done)
        split at hc <;> try (simp at hc; done)
        rename_i h1 h2
        obtain ⟨L, _, h3, h4⟩ := (loops X Y W H w h (by omega) (by omega) (by omega) (by omega) 30000).1 0 (by omega) (by omega) (by omega)
        refine ⟨L, 0, ?_, rfl, by simp, fun _ => ?_⟩
        · simp only [raster_Tiles.j0]
          rw [if_neg (by simpa using hh), h3 k [] (by omega) (by simp)]
          simp
        · have := h4 (k + 1) [] (by omega) (by simp)
          simpa using this
  · rw [if_neg hc, if_neg hc]
    exact ⟨[], _, rfl, rfl, by simp, fun h => absurd h hc⟩

theorem pure (X Y W H w h : Int) : ∃ k, tourlaw5_RasterTiles.f k X Y W H w h = some true := by
  refine ⟨100004, ?_⟩
  have h0 : ∃ l, raster_Tiles.f 100004 0 0 2 1 1 1 = some (l, 0) ∧ l.length = 2 := by
    refine ⟨[⟨0, 0, 1, 1⟩, ⟨1, 0, 1, 1⟩], by simp [raster_Tiles.f, raster_Tiles.j0, raster_Tiles.l0, raster_Tiles.l1, raster_Check.f, raster_Check.j0, mn, mx, wrap64], rfl⟩
  obtain ⟨l, hl, hll⟩ := h0
  unfold tourlaw5_RasterTiles.f
  rw [hl]
  simp only [Option.bind_some, if_true]
  rw [hll, show (((2 : Nat) : Int) != 2) = false from rfl]
  simp only [tourlaw5_RasterTiles.j0, fault_eq, Option.bind_some]
  rw [if_neg (by simp)]
  have key : ∀ e, e = (if chk X Y W H = 0 then (if w < 1 ∨ h < 1 then 1 else 0) else chk X Y W H) → tourlaw5_RasterTiles.j2 100002 w h e X Y W H = some true := by
    intro e he
    obtain ⟨L, e', h1, h2, h3, h4⟩ := tiles_eq 100001 X Y W H w h (by omega)
    obtain rfl : e' = e := by rw [h2, he]
    simp only [tourlaw5_RasterTiles.j2]
    rw [h1]
    simp only [Option.bind_some]
    by_cases h5 : e' = 0
    · rw [if_pos h5, h5]
      exact h4 h5
    · rw [if_neg h5, h3 h5]
      simp
  have hmn : (mn w h < 1) ↔ (w < 1 ∨ h < 1) := by unfold mn; split <;> omega
  by_cases hc : chk X Y W H = 0
  · rw [if_pos hc]
    simp only [tourlaw5_RasterTiles.j1]
    by_cases hm : mn w h < 1
    · rw [if_pos (by simpa using hm)]
      exact key 1 (by rw [if_pos hc, if_pos (hmn.1 hm)])
    · rw [if_neg (by simpa using hm), hc]
      exact key 0 (by rw [if_pos hc, if_neg (fun h => hm (hmn.2 h))])
  · rw [if_neg hc]
    simp only [tourlaw5_RasterTiles.j1]
    rw [if_neg (by simp)]
    exact key _ (by rw [if_neg hc])

theorem walk (x : S23) {p : Prop} (_ : p) (w : Int) (_ : (Lit.int .i64 w).wf = true) (h : Int) (_ : (Lit.int .i64 h).wf = true) (W : World) :
    Calls Try.prog 3 #[.agg #[.int .i64 x.f0, .int .i64 x.f1, .int .i64 x.f2, .int .i64 x.f3], .int .i64 w, .int .i64 h] W fun e w' => e = .returned (.bool true) ∧ Below W.heap.size W w' := by
  obtain ⟨k, hk⟩ := pure x.f0 x.f1 x.f2 x.f3 w h
  exact tourlaw5_RasterTiles.calls k _ _ _ _ _ _ true W hk
end Go.Proofs.Ytijochlkmkmhdaa.PureRasterTiles
