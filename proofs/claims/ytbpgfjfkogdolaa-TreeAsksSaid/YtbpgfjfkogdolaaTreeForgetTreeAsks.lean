/- (*walker).forget: the numbers of a node and of all below it become zero. Under the conditions that stand at it. -/
import Derived.Test.YtbpgfjfkogdolaaTreeMemTreeAsks
import Derived.Outline
namespace Go.Proofs.Ytbpgfjfkogdolaa.TreeForgetTreeAsks
open Go Go.RowKit Go.Proofs.YtbpgfjfkogdolaaW.PrintWords Go.Proofs.YtbpgfjfkogdolaaW.PrintLast Go.Proofs.YtbpgfjfkogdolaaW.PrintMore Go.Proofs.Ytbpgfjfkogdolaa.PTreeAsks Go.Proofs.Ytbpgfjfkogdolaa.Fnv Go.Proofs.Ytbpgfjfkogdolaa.TreePlainTreeAsks Go.Proofs.Ytbpgfjfkogdolaa.TreeMemTreeAsks
set_option linter.unusedVariables false
set_option linter.unusedSimpArgs false
variable {σ : Type} {W0 : World} {ok : Nat → Prop} {Inv : World → σ → Prop} {B gW gM : Nat} {av : Value} {an : σ → ByteArray → Int × σ}

set_option maxHeartbeats 4000000 in
set_option maxRecDepth 100000 in
theorem forget_any (E : Env W0 ok Inv B gW gM av an) (k : Nat) (n0 n2 : Int) (n1 : ByteArray) (A3 : Option Addr) (c3 : Nat) (n3 : List Nd) (a : Int) {w : World} {m m2 : List Int} {s : σ} (h : St Inv B gW gM av w m s) (hT : Tr W0 ok A3 n3) (hc : n3.length ≤ c3) (hF : forgetF k ⟨n0, n1, n2, n3⟩ a m = some m2) :
    Calls Try.prog 49 #[.pointer (some ⟨gW, 0, none⟩), .agg #[.int .i64 n0, .string n1, .int .i64 n2, .slice A3 n3.length c3], .int .i64 a] w fun e w' => e = .returned (.tuple #[]) ∧ St Inv B gW gM av w' m2 s ∧ Kp B gM w w' := by
  unfold forgetF at hF
  obtain ⟨z, hz, hF⟩ := Option.bind_eq_some_iff.mp hF
  by_cases hr : 0 ≤ a ∧ a < wrap64 (a + z) ∧ wrap64 (a + z) ≤ m.length
  · rw [if_pos hr] at hF
    obtain rfl := Option.some.inj hF
    obtain ⟨hr0, hr1, hr2⟩ := hr
    generalize hβ : wrap64 (a + z) = b at *
    obtain ⟨α, rfl⟩ : ∃ α : Nat, a = α := ⟨a.toNat, by omega⟩
    obtain ⟨β, rfl⟩ : ∃ β : Nat, b = β := ⟨b.toNat, by omega⟩
    have h1 : α < β := by omega
    have h2 : β ≤ m.length := by omega
    simp only [Int.toNat_natCast]
    have HE := Aside0.mk E
    have HS := Aside0.mk h
    have HT := Aside0.mk hT
    have HC := Aside0.mk hc
    have HZ : Aside0 (tree_Size.f k n0 n1 n2 n3 = some z) := ⟨hz⟩
    have HN := Aside0.mk hβ
    clear E h hT hc hz hF hβ
    go_enter Try.func49, Try.ntmps49
    go_wp2_with (first | ((with_reducible refine gate_dst (N := 4) rfl ?_); refine box_event ?hg (N := 4) ?hd (cs := #[.int .i64 n0, .string n1, .int .i64 n2, .slice A3 n3.length c3]) (t := 25) ?hr ?_; (case hd => rfl); (case hg => rfl); (case hr => first | (go_simp; done) | (go_simp; rfl)); intro gb hg w1 hbox hb1; have BK := Aside0.mk hbox; have HB := Aside0.mk hb1; have HG := Aside0.mk hg; have HS1 := Aside0.mk (HS.out.below HE.out hb1); clear hg hbox hb1))
    have HS2 := Aside0.mk (HS1.out.drew HE.out)
    have BK2 := Aside0.mk (blk_drew BK.out)
    have K2 := Aside0.mk ((Kp.of (B := B) (g := gM) HB.out).trans (Kp.of (Below.refl _ _).drew))
    have hwr := HN.out
    have hle : α ≤ β := by omega
    have hnl : (m.length = α) = False := by simp; omega
    refine start_ (n := 11) (S := fun w' => w'.cell? ⟨gW, 0, none⟩ = some (.slice (some ⟨gM, 0, none⟩) m.length m.length) ∧ w'.cell? ⟨gb, 0, none⟩ = some (.int .i64 n0) ∧ w'.cell? ⟨gb, 1, none⟩ = some (.string n1) ∧ w'.cell? ⟨gb, 2, none⟩ = some (.int .i64 n2) ∧ w'.cell? ⟨gb, 3, none⟩ = some (.slice A3 n3.length c3)) (ds := [10]) #[false, false, false, false, false, false, false, false, false, false, false] (by kernel_rfl) rfl rfl ⟨(blk_cell HS2.out.hw 0).trans rfl, (blk_cell BK2.out 0).trans rfl, (blk_cell BK2.out 1).trans rfl, (blk_cell BK2.out 2).trans rfl, (blk_cell BK2.out 3).trans rfl⟩ (fun hHeld => ?_)
    refine pure_ (i := 0) (N := some 6) (v := ?_) (a' := ?_) #[true, false, false, false, false, false, false, false, false, false, false] rfl rfl (by kernel_rfl) (fun _ _ _ h => h) (Or.inl ⟨by rfl, ?_⟩) ?_ ?_
    rotate_left
    · intro w'
      go_simp
      with_reducible rfl
    rotate_left
    · simp only [Act.put, List.setIfInBounds_toArray, List.set_cons_zero, List.set_cons_succ, i64_w, i32_w]
      rfl
    refine pure_ (i := 1) (N := some 7) (v := ?_) (a' := ?_) #[true, true, false, false, false, false, false, false, false, false, false] rfl rfl (by kernel_rfl) (fun _ _ _ h => h) (Or.inl ⟨by rfl, ?_⟩) ?_ ?_
    rotate_left
    · intro w'
      go_simp
      with_reducible rfl
    rotate_left
    · simp only [Act.put, List.setIfInBounds_toArray, List.set_cons_zero, List.set_cons_succ, i64_w, i32_w]
      rfl
    refine pure_ (i := 2) (N := some 8) (v := ?_) (a' := ?_) #[true, true, true, false, false, false, false, false, false, false, false] rfl rfl (by kernel_rfl) (fun _ _ _ h => h) (Or.inl ⟨by rfl, ?_⟩) ?_ ?_
    rotate_left
    · intro w'
      go_simp
      with_reducible rfl
    rotate_left
    · simp only [Act.put, List.setIfInBounds_toArray, List.set_cons_zero, List.set_cons_succ, i64_w, i32_w]
      rfl
    refine pure_ (i := 4) (N := some 10) (v := ?_) (a' := ?_) #[true, true, true, false, true, false, false, false, false, false, false] rfl rfl (by kernel_rfl) (fun _ _ _ h => h) (Or.inl ⟨by rfl, ?_⟩) ?_ ?_
    rotate_left
    · intro w'
      go_simp
      with_reducible rfl
    rotate_left
    · simp only [Act.put, List.setIfInBounds_toArray, List.set_cons_zero, List.set_cons_succ, i64_w, i32_w]
      rfl
    refine pure_ (i := 5) (N := some 11) (v := ?_) (a' := ?_) #[true, true, true, false, true, true, false, false, false, false, false] rfl rfl (by kernel_rfl) (fun _ _ _ h => h) (Or.inl ⟨by rfl, ?_⟩) ?_ ?_
    rotate_left
    · intro w'
      go_simp
      with_reducible rfl
    rotate_left
    · simp only [Act.put, List.setIfInBounds_toArray, List.set_cons_zero, List.set_cons_succ, i64_w, i32_w]
      rfl
    refine take_ (i := 3) (N := some 9) (v := ?_) (a' := ?_) #[true, true, true, true, true, true, false, false, false, false, false] rfl rfl (by kernel_rfl) (fun _ _ _ h => h) (Or.inl ⟨by rfl, ?_⟩) hHeld ?_ ?_
    rotate_left
    · rintro w' ⟨s0, s1, s2, s3, s4⟩
      go_simp
      with_reducible rfl
    rotate_left
    · simp only [Act.put, List.setIfInBounds_toArray, List.set_cons_zero, List.set_cons_succ, i64_w, i32_w]
      rfl
    refine take_ (i := 6) (N := some 12) (v := ?_) (a' := ?_) #[true, true, true, true, true, true, true, false, false, false, false] rfl rfl (by kernel_rfl) (fun _ _ _ h => h) (Or.inl ⟨by rfl, ?_⟩) hHeld ?_ ?_
    rotate_left
    · rintro w' ⟨s0, s1, s2, s3, s4⟩
      go_simp
      with_reducible rfl
    rotate_left
    · simp only [Act.put, List.setIfInBounds_toArray, List.set_cons_zero, List.set_cons_succ, i64_w, i32_w]
      rfl
    refine one_ (i := 7) (N := some 13) #[true, true, true, true, true, true, true, true, false, false, false] rfl rfl (by kernel_rfl) (by decide) (fun K hK => ?_)
    refine goes_ Try.func15 (by kernel_rfl) rfl #[.agg #[.int .i64 n0, .string n1, .int .i64 n2, .slice A3 n3.length c3]] (by rfl) rfl rfl (by simp only [List.map_toArray, List.map_cons, List.map_nil]; rfl) ?_
    with_reducible refine (tree_Size.calls k n0 n1 n2 _ _ n3 z _ (HT.out.now (HE.out.tree HS2.out.iv)) HC.out HZ.out).mono ?_
    rintro e w3 ⟨rfl, hb⟩
    refine ⟨_, rfl, ?_⟩
    have HS3 := Aside0.mk (HS2.out.below HE.out hb)
    have BK3 := Aside0.mk (blk_below BK2.out hb)
    have K3 := Aside0.mk (K2.out.trans (Kp.of (B := B) (g := gM) hb))
    clear hb
    refine hK.out _ _ ⟨(blk_cell HS3.out.hw 0).trans rfl, (blk_cell BK3.out 0).trans rfl, (blk_cell BK3.out 1).trans rfl, (blk_cell BK3.out 2).trans rfl, (blk_cell BK3.out 3).trans rfl⟩ (fun hHeld => ?_)
    clear hK K
    refine norm_ (a' := ?_) ?_ ?_
    rotate_left
    · show Act.put _ (some 13) _ = _
      simp only [Act.put, List.setIfInBounds_toArray, List.set_cons_zero, List.set_cons_succ, i64_w, i32_w]
      rfl
    refine pure_ (i := 8) (N := some 14) (v := ?_) (a' := ?_) #[true, true, true, true, true, true, true, true, true, false, false] rfl rfl (by kernel_rfl) (fun _ _ _ h => h) (Or.inl ⟨by rfl, ?_⟩) ?_ ?_
    rotate_left
    · intro w'
      go_simp
      with_reducible rfl
    rotate_left
    · simp only [Act.put, List.setIfInBounds_toArray, List.set_cons_zero, List.set_cons_succ, i64_w, i32_w]
      rfl
    refine pure_ (i := 9) (N := some 15) (v := ?_) (a' := ?_) #[true, true, true, true, true, true, true, true, true, true, false] rfl rfl (by kernel_rfl) (fun _ _ _ h => h) (Or.inl ⟨by rfl, ?_⟩) ?_ ?_
    rotate_left
    · intro w'
      go_simp
      with_reducible rfl
    rotate_left
    · simp only [Act.put, List.setIfInBounds_toArray, List.set_cons_zero, List.set_cons_succ, i64_w, i32_w]
      rfl
    refine last_ (i := 10) (N := none) #[true, true, true, true, true, true, true, true, true, true, true] rfl rfl (by kernel_rfl) (by decide) (fun K hK => ?_)
    have hcl : ∀ ty, (Builtin.clear_ #[22] ty #[.slice (some ⟨gM, α, none⟩) (β - α) (m.length - α)]).run Try.prog w3 = .ok (.tuple #[]) (w3.setCells gM α (List.replicate (β - α) (.int .i64 0))) := clear_at HE.out HS3.out α β h1 h2 _
    generalize HW : w3.setCells gM α (List.replicate (β - α) (.int .i64 0)) = w4 at hcl
    refine value_ (w1 := w4) (v := .tuple #[]) (by rfl) rfl ?_ ?_
    · go_simp
    have HS4 := Aside0.mk (HW ▸ HS3.out.wipe HE.out α β h1 h2)
    have K4 := Aside0.mk (HW ▸ K3.out.trans (Kp.setCells (List.replicate (β - α) (.int .i64 0)) w3 α))
    refine hK.out _ _ ?_
    clear hK K
    refine done_ (by kernel_rfl) ?_
  
    go_end0
    exact ⟨rfl, HS4.out, K4.out⟩
  · rw [if_neg hr] at hF
    exact absurd hF (by simp)
end Go.Proofs.Ytbpgfjfkogdolaa.TreeForgetTreeAsks
