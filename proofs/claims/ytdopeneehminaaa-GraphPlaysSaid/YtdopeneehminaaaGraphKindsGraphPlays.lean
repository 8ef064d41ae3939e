/- Operations of three numbers, as a kind of data. Under no condition. -/
import Derived.Test.YtdopeneehminaaaGraphStepGraphPlays
namespace Go.Proofs.Ytdopeneehminaaa.PGraphPlays
open Go Go.RowKit Go.Proofs.YtdopeneehminaaaW.PrintWords Go.Proofs.YtdopeneehminaaaW.PrintLast Go.Proofs.YtdopeneehminaaaW.PrintMore
set_option linter.unusedVariables false
structure S67 where
 f0 : Int
 f1 : Int
 f2 : Int
def z67 : S67 := ⟨(0 : Int), (0 : Int), (0 : Int)⟩
def k67 : Kd S67 := Kd.iso (Kd.pair (Kd.int .i64) (Kd.pair (Kd.int .i64) (Kd.int .i64))) (fun x : S67 => (x.f0, x.f1, x.f2))
theorem k67_open {w : World} {x : S67} {cs : List Value} (h : k67.K w x cs) : cs = [.int .i64 x.f0, .int .i64 x.f1, .int .i64 x.f2] := by
 obtain ⟨_, _, rfl, rfl, ⟨_, _, rfl, rfl, rfl⟩⟩ := h
 exact rfl
def rd_T67 (xs : List S67) (i : Int) : S67 := xs.getD i.toNat z67
theorem at_T67 {w : World} {A : Option Addr} {n : Nat} {xs : List S67} (h : Kd.C k67 w A n xs) (i : Int) (h0 : 0 ≤ i) (h1 : i < n) : ∃ ad , A = some ad ∧ w.cell? (ad.add (i.toNat * 3)) = some (.int .i64 (rd_T67 xs i).f0) ∧ w.cell? ⟨(ad.add (i.toNat * 3)).block, (ad.add (i.toNat * 3)).off + 1, none⟩ = some (.int .i64 (rd_T67 xs i).f1) ∧ w.cell? ⟨(ad.add (i.toNat * 3)).block, (ad.add (i.toNat * 3)).off + 2, none⟩ = some (.int .i64 (rd_T67 xs i).f2) := by
 obtain ⟨ad, c, e, _, hK, hc0⟩ := Kd.C_get h z67 i h0 h1
 have hc : ∀ j u, c[j]? = some u → w.cell? (ad.add (i.toNat * 3 + j)) = some u := hc0
 obtain rfl := k67_open hK
 exact ⟨ad, e, hc 0 _ rfl, by rw [← add_field _ _ 1 (by omega)]; exact hc 1 _ rfl, by rw [← add_field _ _ 2 (by omega)]; exact hc 2 _ rfl⟩
end Go.Proofs.Ytdopeneehminaaa.PGraphPlays
namespace Go.Proofs.Ytdopeneehminaaa.GraphKindsGraphPlays
open Go Go.RowKit Go.Proofs.YtdopeneehminaaaW.PrintWords Go.Proofs.YtdopeneehminaaaW.PrintLast Go.Proofs.YtdopeneehminaaaW.PrintMore
/-- Within a region that draws: other facts from here on, where all that is left is among the last ones. -/
theorem swap_go {P : Program} {md : Region.Mode} {ops : Array Oper} {Q : Exit → Act → World → Prop} {S S' : World → Prop} {ds ds' : List Nat} : ∀ (fuel : Nat) (l : Array Bool) (a : Act) (w : World), (∀ i, l.getD i true = false → i ∈ ds) → wpAnyLast P md ops Q S' ds' fuel l a w → wpAnyLast P md ops Q S ds fuel l a w
  | 0, _, _, _, _, h => h
  | fuel + 1, l, a, w, hd, h => ⟨h.1, fun i hi => wpOp_mono (fun a' w' h' => ⟨fun hn => absurd (hd i (mem_ready.1 hi).1) hn, swap_go fuel _ a' w' (fun j hj => hd j (by
      rcases Nat.lt_or_ge j l.size with hjl | hjl
      · by_cases e : i = j
        · subst e; simp [hjl] at hj
        · simpa [Array.getElem?_setIfInBounds, e, hjl] using hj
      · simp [Array.getElem?_eq_none hjl, Array.getElem?_setIfInBounds] at hj
        split at hj
        · split at hj <;> simp at hj
        · simp at hj)) h'.2⟩) (h.2 i hi)⟩
theorem swap_ {P : Program} {md : Region.Mode} {ops : Array Oper} {Q : Exit → Act → World → Prop} {S : World → Prop} {ds : List Nat} (S' : World → Prop) {fuel : Nat} {l : Array Bool} {a : Act} {w : World} (hd : ((List.range l.size).all fun i => l.getD i true || ds.contains i) = true) (h : wpAnyLast P md ops Q S' [] fuel l a w) : wpAnyLast P md ops Q S ds fuel l a w :=
  swap_go fuel l a w (fun i hi => by
    have hl : i < l.size := by
      rcases Nat.lt_or_ge i l.size with h | h
      · exact h
      · simp [Array.getElem?_eq_none h] at hi
    have h1 := List.all_eq_true.1 hd i (List.mem_range.2 hl)
    rw [hi] at h1
    simpa using h1) h
end Go.Proofs.Ytdopeneehminaaa.GraphKindsGraphPlays
