/- What an argument of the kind of a tree's node reads as: a node, of any depth. Under no condition. -/
import Derived.Test.YtbpgfjfkogdolaaTreeMemTreeTells
import Derived.Test.YtbpgfjfkogdolaaOpen
namespace Go.Proofs.Ytbpgfjfkogdolaa.TreeOpensTreeTells
open Go Go.RowKit Go.Proofs.YtbpgfjfkogdolaaW.PrintWords Go.Proofs.YtbpgfjfkogdolaaW.PrintLast Go.Proofs.YtbpgfjfkogdolaaW.PrintMore Go.Proofs.Ytbpgfjfkogdolaa.PTreeTells Go.Proofs.Ytbpgfjfkogdolaa.Fnv Go.Proofs.Ytbpgfjfkogdolaa.TreePlainTreeTells Go.Proofs.Ytbpgfjfkogdolaa.TreeMemTreeTells Go.Proofs.Ytbpgfjfkogdolaa.Opens
set_option linter.unusedVariables false
theorem node_opens {W : World} (H : Type) (enc : TypeId × Value → H) (base : Nat) (spare : Nat → Bool) (held : Bool) : ∀ (F fuel : Nat) (cs : List Value) (x : DataW H × List MemPlace), fuel ≤ F → DataW.trod enc Try.prog W base spare held fuel 25 cs = some x → ∃ n : Nd, (k25).K W n cs := by
  intro F
  induction F with
  | zero =>
    intro fuel cs x hf hx
    obtain rfl : fuel = 0 := by omega
    simp [DataW.trod] at hx
  | succ F ih =>
    intro fuel cs x hf hx
    cases fuel with
    | zero => simp [DataW.trod] at hx
    | succ fuel =>
      unfold DataW.trod at hx
      rw [Try.underlying25] at hx
      dsimp only at hx
      split at hx
      · rename_i hl
        simp only [List.mapM_cons, List.mapM_nil, Option.bind_eq_bind, Option.pure_def, Option.bind_some, Option.map_eq_some_iff, Option.bind_eq_some_iff] at hx
        obtain ⟨_, ⟨y0, h0, _, ⟨y1, h1, _, ⟨y2, h2, _, ⟨y3, h3, _⟩, _⟩, _⟩, _⟩, _⟩ := hx
        rw [show Try.prog.cellsOf 25 = 4 by kernel_rfl] at hl
        rw [show Try.prog.cellsOf 3 = 1 by kernel_rfl] at h0 h2
        rw [show Try.prog.cellsOf 9 = 1 by kernel_rfl] at h1
        rw [show Try.prog.cellsOf 23 = 1 by kernel_rfl] at h3
        match cs, hl with
        | [c0, c1, c2, c3], _ =>
          obtain ⟨f0, e0, _, _⟩ := DataW.trod_int Try.underlying3 (show DataW.trod enc Try.prog W base spare held fuel 3 [c0] = some y0 from h0)
          obtain ⟨f1, e1, _, _⟩ := DataW.trod_string Try.underlying9 (show DataW.trod enc Try.prog W base spare held fuel 9 [c1] = some y1 from h1)
          obtain ⟨f2, e2, _, _⟩ := DataW.trod_int Try.underlying3 (show DataW.trod enc Try.prog W base spare held fuel 3 [c2] = some y2 from h2)
          injection e0 with e0 _
          injection e1 with e1 _
          injection e2 with e2 _
          subst e0 e1 e2
          rcases DataW.trod_slice Try.underlying23 (show DataW.trod enc Try.prog W base spare held fuel 23 [c3] = some y3 from h3) with ⟨e3, _⟩ | ⟨a, len, cap, elems, rest, n, hn, e3, _, hb, hlc, hm, hlen, hel, _, _⟩
          · injection e3 with e3 _
            subst e3
            exact ⟨⟨f0, f1, f2, []⟩, k25_mk W ⟨f0, f1, f2, []⟩ (Nat.le_refl _) (Kd.C_nil _ _)⟩
          · injection e3 with e3 _
            subst e3
            unfold maxLen at hm
            rw [show Try.prog.cellsOf 25 = 4 by kernel_rfl] at hel
            obtain ⟨xs, hxl, hxs⟩ := exists_list (Q := fun i (p : Nd) => ∃ c, c.length = 4 ∧ (k25).K W p c ∧ ∀ j u, c[j]? = some u → W.cell? (a.add (i * 4 + j)) = some u) len (by
              intro i hi
              have h := hel i hi
              rw [List.getElem?_eq_getElem (by omega)] at h
              obtain ⟨cs', h4, h5⟩ := Option.bind_eq_some_iff.mp h
              obtain ⟨p, hp⟩ := ih n cs' _ (by omega) h5
              obtain ⟨hbb, hl4, hcell⟩ := World.cells?_some h4
              refine ⟨p, cs', hl4, hp, fun j u hu => ?_⟩
              have hj : j < 4 := by rw [← hl4]; exact (List.getElem?_eq_some_iff.1 hu).1
              have := hcell j hj
              rw [← hu, ← this, Go.Addr.add_add])
            refine ⟨⟨f0, f1, f2, xs⟩, ?_⟩
            have := k25_mk W ⟨f0, f1, f2, xs⟩ (A3 := some a) (c3 := cap) (by show xs.length ≤ cap; omega) ⟨rfl, by show xs.length ≤ _; omega, fun _ => ⟨a, rfl, fun j p hj => hxs j p hj⟩⟩
            rw [← hxl]
            exact this
      · cases hx
end Go.Proofs.Ytbpgfjfkogdolaa.TreeOpensTreeTells
