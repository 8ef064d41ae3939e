/- The walk of the reference's Think, a kind of node at a time. Under no condition but what stands at each. -/
import Derived.Test.YtbpgfjfkogdolaaTreeThinkMemTreeTells
import Derived.Outline
namespace Go.Proofs.Ytbpgfjfkogdolaa.TreeThinkWalkTreeTells
open Go Go.RowKit Go.Proofs.YtbpgfjfkogdolaaW.PrintWords Go.Proofs.YtbpgfjfkogdolaaW.PrintLast Go.Proofs.YtbpgfjfkogdolaaW.PrintMore Go.Proofs.Ytbpgfjfkogdolaa.PTreeTells Go.Proofs.Ytbpgfjfkogdolaa.Fnv Go.Proofs.Ytbpgfjfkogdolaa.TreeTickTreeTells Go.Proofs.Ytbpgfjfkogdolaa.TreePlainTreeTells Go.Proofs.Ytbpgfjfkogdolaa.TreeMemTreeTells Go.Proofs.Ytbpgfjfkogdolaa.TreeMindTreeTells Go.Proofs.Ytbpgfjfkogdolaa.TreeThinkTreeTells Go.Proofs.Ytbpgfjfkogdolaa.TreeStepsTreeTells Go.Proofs.Ytbpgfjfkogdolaa.TreeTopTreeTells Go.Proofs.Ytbpgfjfkogdolaa.TreeThinkMemTreeTells Go.Proofs.Ytbpgfjfkogdolaa.TreeEvTreeTells
set_option linter.unusedVariables false
set_option linter.unusedSimpArgs false
section
variable {an0 : ByteArray → Int} {Q : Nat → Prop} {W : World} {g : FuncId} {lb : Array Value} {fn : Func} {n0 n2 m0 : Int} {n1 : ByteArray} {n3 : List Nd} {A3 Am : Option Addr} {L c3 cm : Nat} {m1 : List Md}
set_option maxHeartbeats 8000000 in
set_option maxRecDepth 100000 in
theorem think_ask (hL : n3.length = L) (hLm : m1.length = L) (hP : Pure W g lb fn an0) (hc3 : L ≤ c3) (hcm : L ≤ cm) (hT : Tr W Al A3 n3) (hM : FM W Q Am m1) (hQ : ∀ k, W.heap.size ≤ k → Q k) (e : n0 = 1) :
    Calls Try.prog 18 #[.agg #[.int .i64 n0, .string n1, .int .i64 n2, .slice A3 L c3], .agg #[.int .i64 m0, .slice Am L cm], .func (.func g) #[] lb] W fun e w' => Ret Q W w' e (leafV 1 (an0 n1)) m0 m1 := by
  have HL := Aside0.mk hL
  have HLm := Aside0.mk hLm
  have HP := Aside0.mk hP
  have HC3 := Aside0.mk hc3
  have HCM := Aside0.mk hcm
  have HT := Aside0.mk hT
  have HM := Aside0.mk hM
  have HQ := Aside0.mk hQ
  clear hL hLm hP hc3 hcm hT hM hQ
  have Bk1 : (n0 == 1) = true := beqT e
  have Bk2 : (n0 == 2) = false := beqF (by omega)
  have Bk5 : (n0 == 5) = false := beqF (by omega)
  have Bk6 : (n0 == 6) = false := beqF (by omega)
  go_enter Try.func18, Try.ntmps18
  go_upto_region 3 with (first | ((with_reducible refine gate_dst (N := 3) rfl ?_); refine box_event ?hg (N := 3) ?hd (cs := #[.int .i64 n0, .string n1, .int .i64 n2, .slice A3 L c3]) (t := 25) ?hr ?_; (case hd => rfl); (case hg => rfl); (case hr => first | (go_simp; done) | (go_simp; rfl)); intro g3 hg w1 hbox hb; have E3 := Aside0.mk hg; have BK3 := Aside0.mk hbox; have HB1 := Aside0.mk hb; clear hg hbox hb) | ((with_reducible refine gate_dst (N := 4) rfl ?_); refine box_event ?hg (N := 4) ?hd (cs := #[.int .i64 m0, .slice Am L cm]) (t := 40) ?hr ?_; (case hd => rfl); (case hg => rfl); (case hr => first | (go_simp; done) | (go_simp; rfl)); intro g4 hg w2 hbox hb; have E4 := Aside0.mk hg; have BK4 := Aside0.mk hbox; have HB2 := Aside0.mk hb; clear hg hbox hb) | ((with_reducible refine gate_dst (N := 7) rfl ?_); refine box_event ?hg (N := 7) ?hd (cs := #[.int .i64 0, .slice none 0 0]) (t := 40) ?hr ?_; (case hd => rfl); (case hg => rfl); (case hr => first | (go_simp; done) | (go_simp; rfl)); intro g7 hg w3 hbox hb; have HS := Aside0.mk (show Bs Q W w3 g3 g4 g7 n0 n1 n2 n3 A3 L c3 m0 m1 Am cm from Bs.start HT.out HM.out E3.out BK3.out HB1.out E4.out BK4.out HB2.out hg hbox hb); clear hg hbox hb E3 BK3 HB1 E4 BK4 HB2; have c30 := (blk_cell HS.out.b3 0).trans rfl; have c31 := (blk_cell HS.out.b3 1).trans rfl; have c32 := (blk_cell HS.out.b3 2).trans rfl; have c33 := (blk_cell HS.out.b3 3).trans rfl; have c40 := (blk_cell HS.out.b4 0).trans rfl; have c41 := (blk_cell HS.out.b4 1).trans rfl))
  clear c30 c31 c32 c33 c40 c41
  have HS := Aside0.mk HS.out.drew
  by_cases c1 : an0 n1 = 1
  · have A1 := Aside0.mk c1
    have V1 : (an0 n1 == 1) = true := beqT c1
    clear c1
    refine start_ (n := 9) (S := fun w' => w'.cell? ⟨g3, 1, none⟩ = some (.string n1) ∧ w'.cell? ⟨g4, 0, none⟩ = some (.int .i64 m0) ∧ w'.cell? ⟨g4, 1, none⟩ = some (.slice Am L cm)) (ds := [8]) #[false, false, false, false, false, false, false, false, false] (by kernel_rfl) rfl rfl ⟨(blk_cell HS.out.b3 1).trans rfl, (blk_cell HS.out.b4 0).trans rfl, (blk_cell HS.out.b4 1).trans rfl⟩ (fun hHeld => ?_)
    generalize w3.drew = wd at HS hHeld ⊢
    refine pure_ (i := 0) (N := some 23) (v := ?_) (a' := ?_) #[true, false, false, false, false, false, false, false, false] rfl rfl (by kernel_rfl) (fun _ _ _ h => h) (Or.inl ⟨by rfl, ?_⟩) ?_ ?_
    rotate_left
    · intro w'
      go_simp
      with_reducible rfl
    rotate_left
    · simp only [Act.put, List.setIfInBounds_toArray, List.set_cons_zero, List.set_cons_succ, i64_w, i32_w]
      rfl
    refine pure_ (i := 1) (N := some 24) (v := ?_) (a' := ?_) #[true, true, false, false, false, false, false, false, false] rfl rfl (by kernel_rfl) (fun _ _ _ h => h) (Or.inl ⟨by rfl, ?_⟩) ?_ ?_
    rotate_left
    · intro w'
      go_simp
      with_reducible rfl
    rotate_left
    · simp only [Act.put, List.setIfInBounds_toArray, List.set_cons_zero, List.set_cons_succ, i64_w, i32_w]
      rfl
    refine take_ (i := 2) (N := some 25) (v := ?_) (a' := ?_) #[true, true, true, false, false, false, false, false, false] rfl rfl (by kernel_rfl) (fun _ _ _ h => h) (Or.inl ⟨by rfl, ?_⟩) hHeld ?_ ?_
    rotate_left
    · rintro w' ⟨s0, s1, s2⟩
      go_simp
      with_reducible rfl
    rotate_left
    · simp only [Act.put, List.setIfInBounds_toArray, List.set_cons_zero, List.set_cons_succ, i64_w, i32_w]
      rfl
    refine take_ (i := 6) (N := some 29) (v := ?_) (a' := ?_) #[true, true, true, false, false, false, true, false, false] rfl rfl (by kernel_rfl) (fun _ _ _ h => h) (Or.inl ⟨by rfl, ?_⟩) hHeld ?_ ?_
    rotate_left
    · rintro w' ⟨s0, s1, s2⟩
      go_simp
      with_reducible rfl
    rotate_left
    · simp only [Act.put, List.setIfInBounds_toArray, List.set_cons_zero, List.set_cons_succ, i64_w, i32_w]
      rfl
    refine one_ (i := 3) (N := some 26) #[true, true, true, true, false, false, true, false, false] rfl rfl (by kernel_rfl) (by decide) (fun K hK => ?_)
    refine goesT_ (t := 23) (lb := lb) HP.out.hf HP.out.hname HP.out.hb #[.string n1] (by rfl) rfl rfl (by rfl) (by simp only [List.map_toArray, List.map_cons, List.map_nil]; rfl) ?_
    refine (HP.out.ask _ n1 HS.out.bel).mono ?_
    rintro e wa ⟨rfl, hb⟩
    refine ⟨_, rfl, ?_⟩
    have HS := Aside0.mk (HS.out.below hb)
    clear hb
    refine hK.out _ _ ⟨(blk_cell HS.out.b3 1).trans rfl, (blk_cell HS.out.b4 0).trans rfl, (blk_cell HS.out.b4 1).trans rfl⟩ (fun hHeld => ?_)
    clear hK K
    refine norm_ (a' := ?_) ?_ ?_
    rotate_left
    · show Act.put _ (some 26) _ = _
      simp only [Act.put, List.setIfInBounds_toArray, List.set_cons_zero, List.set_cons_succ, i64_w, i32_w]
      rfl
    refine pure_ (i := 4) (N := some 27) (v := ?_) (a' := ?_) #[true, true, true, true, true, false, true, false, false] rfl rfl (by kernel_rfl) (fun _ _ _ h => h) (Or.inl ⟨by rfl, ?_⟩) ?_ ?_
    rotate_left
    · intro w'
      go_simp
      with_reducible rfl
    rotate_left
    · simp only [Act.put, List.setIfInBounds_toArray, List.set_cons_zero, List.set_cons_succ, i64_w, i32_w]
      rfl
    refine one_ (i := 5) (N := some 28) #[true, true, true, true, true, true, true, false, false] rfl rfl (by kernel_rfl) (by decide) (fun K hK => ?_)
    refine goes_ Try.func36 (by kernel_rfl) rfl #[.bool (true)] (by rfl) rfl rfl (by simp only [List.map_toArray, List.map_cons, List.map_nil]; rfl) ?_
    with_reducible refine (tourref5_one.calls (true) (1) _ rfl).mono ?_
    rintro e wb ⟨rfl, hb0⟩
    refine ⟨_, rfl, ?_⟩
    have HS := Aside0.mk (HS.out.below hb0.below)
    clear hb0
    refine hK.out _ _ ⟨(blk_cell HS.out.b3 1).trans rfl, (blk_cell HS.out.b4 0).trans rfl, (blk_cell HS.out.b4 1).trans rfl⟩ (fun hHeld => ?_)
    clear hK K
    refine norm_ (a' := ?_) ?_ ?_
    rotate_left
    · show Act.put _ (some 28) _ = _
      simp only [Act.put, List.setIfInBounds_toArray, List.set_cons_zero, List.set_cons_succ, i64_w, i32_w]
      rfl
    refine pure_ (i := 7) (N := some 6) (v := ?_) (a' := ?_) #[true, true, true, true, true, true, true, true, false] rfl rfl (by kernel_rfl) (fun _ _ _ h => h) (Or.inl ⟨by rfl, ?_⟩) ?_ ?_
    rotate_left
    · intro w'
      go_simp
      with_reducible rfl
    rotate_left
    · simp only [Act.put, List.setIfInBounds_toArray, List.set_cons_zero, List.set_cons_succ, i64_w, i32_w]
      rfl
    refine last_ (i := 8) (N := none) #[true, true, true, true, true, true, true, true, true] rfl rfl (by kernel_rfl) (by decide) (fun K hK => ?_)
    have cz0 := (blk_cell HS.out.b7 0).trans rfl
    have cz1 := (blk_cell HS.out.b7 1).trans rfl
    have fz0 := blk_frozen HS.out.b7 0
    have fz1 := blk_frozen HS.out.b7 1
    refine skip_ (w1 := ?_) (by rfl) rfl ?_ ?_
    rotate_left
    · go_simp
      rfl
    refine hK.out _ _ ?_
    clear hK K
    refine done_ (by kernel_rfl) ?_
    try go_wp2
    refine bodyPost_ret (results_tc rfl _ _ g7 40 #[.int .i64 m0, .slice Am L cm] (0, 0) _ rfl (put2 HS.out.b7 _ _) Try.underlying40 rfl (by kernel_rfl)) rfl ?_
    rw [← HLm.out]; rw [show leafV 1 (an0 n1) = 1 from by unfold leafV; have := A1.out; simp_all]
    exact HS.out.fin (Kd.F_mono HS.out.mind fun _ hk => hk.1) (by rw [HLm.out]; exact HCM.out) _ _
  · have A1 := Aside0.mk c1
    have V1 : (an0 n1 == 1) = false := beqF c1
    clear c1
    refine start_ (n := 9) (S := fun w' => w'.cell? ⟨g3, 1, none⟩ = some (.string n1) ∧ w'.cell? ⟨g4, 0, none⟩ = some (.int .i64 m0) ∧ w'.cell? ⟨g4, 1, none⟩ = some (.slice Am L cm)) (ds := [8]) #[false, false, false, false, false, false, false, false, false] (by kernel_rfl) rfl rfl ⟨(blk_cell HS.out.b3 1).trans rfl, (blk_cell HS.out.b4 0).trans rfl, (blk_cell HS.out.b4 1).trans rfl⟩ (fun hHeld => ?_)
    generalize w3.drew = wd at HS hHeld ⊢
    refine pure_ (i := 0) (N := some 23) (v := ?_) (a' := ?_) #[true, false, false, false, false, false, false, false, false] rfl rfl (by kernel_rfl) (fun _ _ _ h => h) (Or.inl ⟨by rfl, ?_⟩) ?_ ?_
    rotate_left
    · intro w'
      go_simp
      with_reducible rfl
    rotate_left
    · simp only [Act.put, List.setIfInBounds_toArray, List.set_cons_zero, List.set_cons_succ, i64_w, i32_w]
      rfl
    refine pure_ (i := 1) (N := some 24) (v := ?_) (a' := ?_) #[true, true, false, false, false, false, false, false, false] rfl rfl (by kernel_rfl) (fun _ _ _ h => h) (Or.inl ⟨by rfl, ?_⟩) ?_ ?_
    rotate_left
    · intro w'
      go_simp
      with_reducible rfl
    rotate_left
    · simp only [Act.put, List.setIfInBounds_toArray, List.set_cons_zero, List.set_cons_succ, i64_w, i32_w]
      rfl
    refine take_ (i := 2) (N := some 25) (v := ?_) (a' := ?_) #[true, true, true, false, false, false, false, false, false] rfl rfl (by kernel_rfl) (fun _ _ _ h => h) (Or.inl ⟨by rfl, ?_⟩) hHeld ?_ ?_
    rotate_left
    · rintro w' ⟨s0, s1, s2⟩
      go_simp
      with_reducible rfl
    rotate_left
    · simp only [Act.put, List.setIfInBounds_toArray, List.set_cons_zero, List.set_cons_succ, i64_w, i32_w]
      rfl
    refine take_ (i := 6) (N := some 29) (v := ?_) (a' := ?_) #[true, true, true, false, false, false, true, false, false] rfl rfl (by kernel_rfl) (fun _ _ _ h => h) (Or.inl ⟨by rfl, ?_⟩) hHeld ?_ ?_
    rotate_left
    · rintro w' ⟨s0, s1, s2⟩
      go_simp
      with_reducible rfl
    rotate_left
    · simp only [Act.put, List.setIfInBounds_toArray, List.set_cons_zero, List.set_cons_succ, i64_w, i32_w]
      rfl
    refine one_ (i := 3) (N := some 26) #[true, true, true, true, false, false, true, false, false] rfl rfl (by kernel_rfl) (by decide) (fun K hK => ?_)
    refine goesT_ (t := 23) (lb := lb) HP.out.hf HP.out.hname HP.out.hb #[.string n1] (by rfl) rfl rfl (by rfl) (by simp only [List.map_toArray, List.map_cons, List.map_nil]; rfl) ?_
    refine (HP.out.ask _ n1 HS.out.bel).mono ?_
    rintro e wa ⟨rfl, hb⟩
    refine ⟨_, rfl, ?_⟩
    have HS := Aside0.mk (HS.out.below hb)
    clear hb
    refine hK.out _ _ ⟨(blk_cell HS.out.b3 1).trans rfl, (blk_cell HS.out.b4 0).trans rfl, (blk_cell HS.out.b4 1).trans rfl⟩ (fun hHeld => ?_)
    clear hK K
    refine norm_ (a' := ?_) ?_ ?_
    rotate_left
    · show Act.put _ (some 26) _ = _
      simp only [Act.put, List.setIfInBounds_toArray, List.set_cons_zero, List.set_cons_succ, i64_w, i32_w]
      rfl
    refine pure_ (i := 4) (N := some 27) (v := ?_) (a' := ?_) #[true, true, true, true, true, false, true, false, false] rfl rfl (by kernel_rfl) (fun _ _ _ h => h) (Or.inl ⟨by rfl, ?_⟩) ?_ ?_
    rotate_left
    · intro w'
      go_simp
      with_reducible rfl
    rotate_left
    · simp only [Act.put, List.setIfInBounds_toArray, List.set_cons_zero, List.set_cons_succ, i64_w, i32_w]
      rfl
    refine one_ (i := 5) (N := some 28) #[true, true, true, true, true, true, true, false, false] rfl rfl (by kernel_rfl) (by decide) (fun K hK => ?_)
    refine goes_ Try.func36 (by kernel_rfl) rfl #[.bool (false)] (by rfl) rfl rfl (by simp only [List.map_toArray, List.map_cons, List.map_nil]; rfl) ?_
    with_reducible refine (tourref5_one.calls (false) (0) _ rfl).mono ?_
    rintro e wb ⟨rfl, hb0⟩
    refine ⟨_, rfl, ?_⟩
    have HS := Aside0.mk (HS.out.below hb0.below)
    clear hb0
    refine hK.out _ _ ⟨(blk_cell HS.out.b3 1).trans rfl, (blk_cell HS.out.b4 0).trans rfl, (blk_cell HS.out.b4 1).trans rfl⟩ (fun hHeld => ?_)
    clear hK K
    refine norm_ (a' := ?_) ?_ ?_
    rotate_left
    · show Act.put _ (some 28) _ = _
      simp only [Act.put, List.setIfInBounds_toArray, List.set_cons_zero, List.set_cons_succ, i64_w, i32_w]
      rfl
    refine pure_ (i := 7) (N := some 6) (v := ?_) (a' := ?_) #[true, true, true, true, true, true, true, true, false] rfl rfl (by kernel_rfl) (fun _ _ _ h => h) (Or.inl ⟨by rfl, ?_⟩) ?_ ?_
    rotate_left
    · intro w'
      go_simp
      with_reducible rfl
    rotate_left
    · simp only [Act.put, List.setIfInBounds_toArray, List.set_cons_zero, List.set_cons_succ, i64_w, i32_w]
      rfl
    refine last_ (i := 8) (N := none) #[true, true, true, true, true, true, true, true, true] rfl rfl (by kernel_rfl) (by decide) (fun K hK => ?_)
    have cz0 := (blk_cell HS.out.b7 0).trans rfl
    have cz1 := (blk_cell HS.out.b7 1).trans rfl
    have fz0 := blk_frozen HS.out.b7 0
    have fz1 := blk_frozen HS.out.b7 1
    refine skip_ (w1 := ?_) (by rfl) rfl ?_ ?_
    rotate_left
    · go_simp
      rfl
    refine hK.out _ _ ?_
    clear hK K
    refine done_ (by kernel_rfl) ?_
    try go_wp2
    refine bodyPost_ret (results_tc rfl _ _ g7 40 #[.int .i64 m0, .slice Am L cm] (0, 0) _ rfl (put2 HS.out.b7 _ _) Try.underlying40 rfl (by kernel_rfl)) rfl ?_
    rw [← HLm.out]; rw [show leafV 1 (an0 n1) = 0 from by unfold leafV; have := A1.out; simp_all]
    exact HS.out.fin (Kd.F_mono HS.out.mind fun _ hk => hk.1) (by rw [HLm.out]; exact HCM.out) _ _
set_option maxHeartbeats 8000000 in
set_option maxRecDepth 100000 in
theorem think_act (hL : n3.length = L) (hLm : m1.length = L) (hP : Pure W g lb fn an0) (hc3 : L ≤ c3) (hcm : L ≤ cm) (hT : Tr W Al A3 n3) (hM : FM W Q Am m1) (hQ : ∀ k, W.heap.size ≤ k → Q k) (e : n0 = 2) :
    Calls Try.prog 18 #[.agg #[.int .i64 n0, .string n1, .int .i64 n2, .slice A3 L c3], .agg #[.int .i64 m0, .slice Am L cm], .func (.func g) #[] lb] W fun e w' => Ret Q W w' e (leafV 2 (an0 n1)) m0 m1 := by
  have HL := Aside0.mk hL
  have HLm := Aside0.mk hLm
  have HP := Aside0.mk hP
  have HC3 := Aside0.mk hc3
  have HCM := Aside0.mk hcm
  have HT := Aside0.mk hT
  have HM := Aside0.mk hM
  have HQ := Aside0.mk hQ
  clear hL hLm hP hc3 hcm hT hM hQ
  have Bk1 : (n0 == 1) = false := beqF (by omega)
  have Bk2 : (n0 == 2) = true := beqT e
  have Bk5 : (n0 == 5) = false := beqF (by omega)
  have Bk6 : (n0 == 6) = false := beqF (by omega)
  go_enter Try.func18, Try.ntmps18
  rcases (show an0 n1 = 1 ∨ (¬ an0 n1 = 1 ∧ an0 n1 = 2) ∨ (¬ an0 n1 = 1 ∧ ¬ an0 n1 = 2) from by omega) with c1 | ⟨c1, c2⟩ | ⟨c1, c2⟩
  · have A1 := Aside0.mk (show leafV 2 (an0 n1) = an0 n1 from by unfold leafV; simp [*])
    have V0 : (an0 n1 == 1) = true := beqT c1
    have V1 : (an0 n1 != 1) = false := bne_eq_false_iff_eq.mpr c1
    clear c1
    go_upto_region 8 with (first | ((with_reducible refine gate_dst (N := 3) rfl ?_); refine box_event ?hg (N := 3) ?hd (cs := #[.int .i64 n0, .string n1, .int .i64 n2, .slice A3 L c3]) (t := 25) ?hr ?_; (case hd => rfl); (case hg => rfl); (case hr => first | (go_simp; done) | (go_simp; rfl)); intro g3 hg w1 hbox hb; have E3 := Aside0.mk hg; have BK3 := Aside0.mk hbox; have HB1 := Aside0.mk hb; clear hg hbox hb) | ((with_reducible refine gate_dst (N := 4) rfl ?_); refine box_event ?hg (N := 4) ?hd (cs := #[.int .i64 m0, .slice Am L cm]) (t := 40) ?hr ?_; (case hd => rfl); (case hg => rfl); (case hr => first | (go_simp; done) | (go_simp; rfl)); intro g4 hg w2 hbox hb; have E4 := Aside0.mk hg; have BK4 := Aside0.mk hbox; have HB2 := Aside0.mk hb; clear hg hbox hb) | ((with_reducible refine gate_dst (N := 7) rfl ?_); refine box_event ?hg (N := 7) ?hd (cs := #[.int .i64 0, .slice none 0 0]) (t := 40) ?hr ?_; (case hd => rfl); (case hg => rfl); (case hr => first | (go_simp; done) | (go_simp; rfl)); intro g7 hg w3 hbox hb; have HS := Aside0.mk (show Bs Q W w3 g3 g4 g7 n0 n1 n2 n3 A3 L c3 m0 m1 Am cm from Bs.start HT.out HM.out E3.out BK3.out HB1.out E4.out BK4.out HB2.out hg hbox hb); clear hg hbox hb E3 BK3 HB1 E4 BK4 HB2; have c30 := (blk_cell HS.out.b3 0).trans rfl; have c31 := (blk_cell HS.out.b3 1).trans rfl; have c32 := (blk_cell HS.out.b3 2).trans rfl; have c33 := (blk_cell HS.out.b3 3).trans rfl; have c40 := (blk_cell HS.out.b4 0).trans rfl; have c41 := (blk_cell HS.out.b4 1).trans rfl) | ((with_reducible refine gate_fn rfl ?_); refine goesC_ (some 35) rfl rfl HP.out.hf HP.out.hname HP.out.hb #[.string n1] rfl rfl (by (try simp only [zm1, zm2, zm3]); first | done | rfl) ?_; (refine (HP.out.ask _ n1 HS.out.bel).mono ?_); rintro e wa ⟨rfl, hb⟩; refine ⟨_, rfl, ?_⟩; have HS := Aside0.mk (HS.out.below hb); clear hb; clear c30 c31 c32 c33 c40 c41))
    try clear c30 c31 c32 c33 c40 c41
    have HS := Aside0.mk HS.out.drew
    refine start_ (n := 4) (S := fun w' => w'.cell? ⟨g4, 0, none⟩ = some (.int .i64 m0) ∧ w'.cell? ⟨g4, 1, none⟩ = some (.slice Am L cm)) (ds := [3]) #[false, false, false, false] (by kernel_rfl) rfl rfl ⟨(blk_cell HS.out.b4 0).trans rfl, (blk_cell HS.out.b4 1).trans rfl⟩ (fun hHeld => ?_)
    generalize wa.drew = wd at HS hHeld ⊢
    refine pure_ (i := 0) (N := some 42) (v := ?_) (a' := ?_) #[true, false, false, false] rfl rfl (by kernel_rfl) (fun _ _ _ h => h) (Or.inl ⟨by rfl, ?_⟩) ?_ ?_
    rotate_left
    · intro w'
      go_simp
      with_reducible rfl
    rotate_left
    · simp only [Act.put, List.setIfInBounds_toArray, List.set_cons_zero, List.set_cons_succ, i64_w, i32_w]
      rfl
    refine pure_ (i := 2) (N := some 6) (v := ?_) (a' := ?_) #[true, false, true, false] rfl rfl (by kernel_rfl) (fun _ _ _ h => h) (Or.inl ⟨by rfl, ?_⟩) ?_ ?_
    rotate_left
    · intro w'
      go_simp
      with_reducible rfl
    rotate_left
    · simp only [Act.put, List.setIfInBounds_toArray, List.set_cons_zero, List.set_cons_succ, i64_w, i32_w]
      rfl
    refine take_ (i := 1) (N := some 43) (v := ?_) (a' := ?_) #[true, true, true, false] rfl rfl (by kernel_rfl) (fun _ _ _ h => h) (Or.inl ⟨by rfl, ?_⟩) hHeld ?_ ?_
    rotate_left
    · rintro w' ⟨s0, s1⟩
      go_simp
      with_reducible rfl
    rotate_left
    · simp only [Act.put, List.setIfInBounds_toArray, List.set_cons_zero, List.set_cons_succ, i64_w, i32_w]
      rfl
    refine last_ (i := 3) (N := none) #[true, true, true, true] rfl rfl (by kernel_rfl) (by decide) (fun K hK => ?_)
    have cz0 := (blk_cell HS.out.b7 0).trans rfl
    have cz1 := (blk_cell HS.out.b7 1).trans rfl
    have fz0 := blk_frozen HS.out.b7 0
    have fz1 := blk_frozen HS.out.b7 1
    refine skip_ (w1 := ?_) (by rfl) rfl ?_ ?_
    rotate_left
    · go_simp
      rfl
    refine hK.out _ _ ?_
    clear hK K
    refine done_ (by kernel_rfl) ?_
    try go_wp2
    refine bodyPost_ret (results_tc rfl _ _ g7 40 #[.int .i64 m0, .slice Am L cm] (0, 0) _ rfl (put2 HS.out.b7 _ _) Try.underlying40 rfl (by kernel_rfl)) rfl ?_
    rw [← HLm.out]; rw [A1.out]
    exact HS.out.fin (Kd.F_mono HS.out.mind fun _ hk => hk.1) (by rw [HLm.out]; exact HCM.out) _ _
  · have A1 := Aside0.mk (show leafV 2 (an0 n1) = an0 n1 from by unfold leafV; simp [*])
    have V0 : (an0 n1 == 1) = false := beqF c1
    have V1 : (an0 n1 != 1) = true := bne_iff_ne.mpr c1
    have V2 : (an0 n1 == 2) = true := beqT c2
    have V3 : (an0 n1 != 2) = false := bne_eq_false_iff_eq.mpr c2
    clear c1 c2
    go_upto_region 8 with (first | ((with_reducible refine gate_dst (N := 3) rfl ?_); refine box_event ?hg (N := 3) ?hd (cs := #[.int .i64 n0, .string n1, .int .i64 n2, .slice A3 L c3]) (t := 25) ?hr ?_; (case hd => rfl); (case hg => rfl); (case hr => first | (go_simp; done) | (go_simp; rfl)); intro g3 hg w1 hbox hb; have E3 := Aside0.mk hg; have BK3 := Aside0.mk hbox; have HB1 := Aside0.mk hb; clear hg hbox hb) | ((with_reducible refine gate_dst (N := 4) rfl ?_); refine box_event ?hg (N := 4) ?hd (cs := #[.int .i64 m0, .slice Am L cm]) (t := 40) ?hr ?_; (case hd => rfl); (case hg => rfl); (case hr => first | (go_simp; done) | (go_simp; rfl)); intro g4 hg w2 hbox hb; have E4 := Aside0.mk hg; have BK4 := Aside0.mk hbox; have HB2 := Aside0.mk hb; clear hg hbox hb) | ((with_reducible refine gate_dst (N := 7) rfl ?_); refine box_event ?hg (N := 7) ?hd (cs := #[.int .i64 0, .slice none 0 0]) (t := 40) ?hr ?_; (case hd => rfl); (case hg => rfl); (case hr => first | (go_simp; done) | (go_simp; rfl)); intro g7 hg w3 hbox hb; have HS := Aside0.mk (show Bs Q W w3 g3 g4 g7 n0 n1 n2 n3 A3 L c3 m0 m1 Am cm from Bs.start HT.out HM.out E3.out BK3.out HB1.out E4.out BK4.out HB2.out hg hbox hb); clear hg hbox hb E3 BK3 HB1 E4 BK4 HB2; have c30 := (blk_cell HS.out.b3 0).trans rfl; have c31 := (blk_cell HS.out.b3 1).trans rfl; have c32 := (blk_cell HS.out.b3 2).trans rfl; have c33 := (blk_cell HS.out.b3 3).trans rfl; have c40 := (blk_cell HS.out.b4 0).trans rfl; have c41 := (blk_cell HS.out.b4 1).trans rfl) | ((with_reducible refine gate_fn rfl ?_); refine goesC_ (some 35) rfl rfl HP.out.hf HP.out.hname HP.out.hb #[.string n1] rfl rfl (by (try simp only [zm1, zm2, zm3]); first | done | rfl) ?_; (refine (HP.out.ask _ n1 HS.out.bel).mono ?_); rintro e wa ⟨rfl, hb⟩; refine ⟨_, rfl, ?_⟩; have HS := Aside0.mk (HS.out.below hb); clear hb; clear c30 c31 c32 c33 c40 c41))
    try clear c30 c31 c32 c33 c40 c41
    have HS := Aside0.mk HS.out.drew
    refine start_ (n := 4) (S := fun w' => w'.cell? ⟨g4, 0, none⟩ = some (.int .i64 m0) ∧ w'.cell? ⟨g4, 1, none⟩ = some (.slice Am L cm)) (ds := [3]) #[false, false, false, false] (by kernel_rfl) rfl rfl ⟨(blk_cell HS.out.b4 0).trans rfl, (blk_cell HS.out.b4 1).trans rfl⟩ (fun hHeld => ?_)
    generalize wa.drew = wd at HS hHeld ⊢
    refine pure_ (i := 0) (N := some 42) (v := ?_) (a' := ?_) #[true, false, false, false] rfl rfl (by kernel_rfl) (fun _ _ _ h => h) (Or.inl ⟨by rfl, ?_⟩) ?_ ?_
    rotate_left
    · intro w'
      go_simp
      with_reducible rfl
    rotate_left
    · simp only [Act.put, List.setIfInBounds_toArray, List.set_cons_zero, List.set_cons_succ, i64_w, i32_w]
      rfl
    refine pure_ (i := 2) (N := some 6) (v := ?_) (a' := ?_) #[true, false, true, false] rfl rfl (by kernel_rfl) (fun _ _ _ h => h) (Or.inl ⟨by rfl, ?_⟩) ?_ ?_
    rotate_left
    · intro w'
      go_simp
      with_reducible rfl
    rotate_left
    · simp only [Act.put, List.setIfInBounds_toArray, List.set_cons_zero, List.set_cons_succ, i64_w, i32_w]
      rfl
    refine take_ (i := 1) (N := some 43) (v := ?_) (a' := ?_) #[true, true, true, false] rfl rfl (by kernel_rfl) (fun _ _ _ h => h) (Or.inl ⟨by rfl, ?_⟩) hHeld ?_ ?_
    rotate_left
    · rintro w' ⟨s0, s1⟩
      go_simp
      with_reducible rfl
    rotate_left
    · simp only [Act.put, List.setIfInBounds_toArray, List.set_cons_zero, List.set_cons_succ, i64_w, i32_w]
      rfl
    refine last_ (i := 3) (N := none) #[true, true, true, true] rfl rfl (by kernel_rfl) (by decide) (fun K hK => ?_)
    have cz0 := (blk_cell HS.out.b7 0).trans rfl
    have cz1 := (blk_cell HS.out.b7 1).trans rfl
    have fz0 := blk_frozen HS.out.b7 0
    have fz1 := blk_frozen HS.out.b7 1
    refine skip_ (w1 := ?_) (by rfl) rfl ?_ ?_
    rotate_left
    · go_simp
      rfl
    refine hK.out _ _ ?_
    clear hK K
    refine done_ (by kernel_rfl) ?_
    try go_wp2
    refine bodyPost_ret (results_tc rfl _ _ g7 40 #[.int .i64 m0, .slice Am L cm] (0, 0) _ rfl (put2 HS.out.b7 _ _) Try.underlying40 rfl (by kernel_rfl)) rfl ?_
    rw [← HLm.out]; rw [A1.out]
    exact HS.out.fin (Kd.F_mono HS.out.mind fun _ hk => hk.1) (by rw [HLm.out]; exact HCM.out) _ _
  · have A1 := Aside0.mk (show leafV 2 (an0 n1) = 0 from by unfold leafV; simp [*])
    have V0 : (an0 n1 == 1) = false := beqF c1
    have V1 : (an0 n1 != 1) = true := bne_iff_ne.mpr c1
    have V2 : (an0 n1 == 2) = false := beqF c2
    have V3 : (an0 n1 != 2) = true := bne_iff_ne.mpr c2
    clear c1 c2
    go_upto_region 8 with (first | ((with_reducible refine gate_dst (N := 3) rfl ?_); refine box_event ?hg (N := 3) ?hd (cs := #[.int .i64 n0, .string n1, .int .i64 n2, .slice A3 L c3]) (t := 25) ?hr ?_; (case hd => rfl); (case hg => rfl); (case hr => first | (go_simp; done) | (go_simp; rfl)); intro g3 hg w1 hbox hb; have E3 := Aside0.mk hg; have BK3 := Aside0.mk hbox; have HB1 := Aside0.mk hb; clear hg hbox hb) | ((with_reducible refine gate_dst (N := 4) rfl ?_); refine box_event ?hg (N := 4) ?hd (cs := #[.int .i64 m0, .slice Am L cm]) (t := 40) ?hr ?_; (case hd => rfl); (case hg => rfl); (case hr => first | (go_simp; done) | (go_simp; rfl)); intro g4 hg w2 hbox hb; have E4 := Aside0.mk hg; have BK4 := Aside0.mk hbox; have HB2 := Aside0.mk hb; clear hg hbox hb) | ((with_reducible refine gate_dst (N := 7) rfl ?_); refine box_event ?hg (N := 7) ?hd (cs := #[.int .i64 0, .slice none 0 0]) (t := 40) ?hr ?_; (case hd => rfl); (case hg => rfl); (case hr => first | (go_simp; done) | (go_simp; rfl)); intro g7 hg w3 hbox hb; have HS := Aside0.mk (show Bs Q W w3 g3 g4 g7 n0 n1 n2 n3 A3 L c3 m0 m1 Am cm from Bs.start HT.out HM.out E3.out BK3.out HB1.out E4.out BK4.out HB2.out hg hbox hb); clear hg hbox hb E3 BK3 HB1 E4 BK4 HB2; have c30 := (blk_cell HS.out.b3 0).trans rfl; have c31 := (blk_cell HS.out.b3 1).trans rfl; have c32 := (blk_cell HS.out.b3 2).trans rfl; have c33 := (blk_cell HS.out.b3 3).trans rfl; have c40 := (blk_cell HS.out.b4 0).trans rfl; have c41 := (blk_cell HS.out.b4 1).trans rfl) | ((with_reducible refine gate_fn rfl ?_); refine goesC_ (some 35) rfl rfl HP.out.hf HP.out.hname HP.out.hb #[.string n1] rfl rfl (by (try simp only [zm1, zm2, zm3]); first | done | rfl) ?_; (refine (HP.out.ask _ n1 HS.out.bel).mono ?_); rintro e wa ⟨rfl, hb⟩; refine ⟨_, rfl, ?_⟩; have HS := Aside0.mk (HS.out.below hb); clear hb; clear c30 c31 c32 c33 c40 c41))
    try clear c30 c31 c32 c33 c40 c41
    have HS := Aside0.mk HS.out.drew
    refine start_ (n := 4) (S := fun w' => w'.cell? ⟨g4, 0, none⟩ = some (.int .i64 m0) ∧ w'.cell? ⟨g4, 1, none⟩ = some (.slice Am L cm)) (ds := [3]) #[false, false, false, false] (by kernel_rfl) rfl rfl ⟨(blk_cell HS.out.b4 0).trans rfl, (blk_cell HS.out.b4 1).trans rfl⟩ (fun hHeld => ?_)
    generalize wa.drew = wd at HS hHeld ⊢
    refine pure_ (i := 0) (N := some 42) (v := ?_) (a' := ?_) #[true, false, false, false] rfl rfl (by kernel_rfl) (fun _ _ _ h => h) (Or.inl ⟨by rfl, ?_⟩) ?_ ?_
    rotate_left
    · intro w'
      go_simp
      with_reducible rfl
    rotate_left
    · simp only [Act.put, List.setIfInBounds_toArray, List.set_cons_zero, List.set_cons_succ, i64_w, i32_w]
      rfl
    refine pure_ (i := 2) (N := some 6) (v := ?_) (a' := ?_) #[true, false, true, false] rfl rfl (by kernel_rfl) (fun _ _ _ h => h) (Or.inl ⟨by rfl, ?_⟩) ?_ ?_
    rotate_left
    · intro w'
      go_simp
      with_reducible rfl
    rotate_left
    · simp only [Act.put, List.setIfInBounds_toArray, List.set_cons_zero, List.set_cons_succ, i64_w, i32_w]
      rfl
    refine take_ (i := 1) (N := some 43) (v := ?_) (a' := ?_) #[true, true, true, false] rfl rfl (by kernel_rfl) (fun _ _ _ h => h) (Or.inl ⟨by rfl, ?_⟩) hHeld ?_ ?_
    rotate_left
    · rintro w' ⟨s0, s1⟩
      go_simp
      with_reducible rfl
    rotate_left
    · simp only [Act.put, List.setIfInBounds_toArray, List.set_cons_zero, List.set_cons_succ, i64_w, i32_w]
      rfl
    refine last_ (i := 3) (N := none) #[true, true, true, true] rfl rfl (by kernel_rfl) (by decide) (fun K hK => ?_)
    have cz0 := (blk_cell HS.out.b7 0).trans rfl
    have cz1 := (blk_cell HS.out.b7 1).trans rfl
    have fz0 := blk_frozen HS.out.b7 0
    have fz1 := blk_frozen HS.out.b7 1
    refine skip_ (w1 := ?_) (by rfl) rfl ?_ ?_
    rotate_left
    · go_simp
      rfl
    refine hK.out _ _ ?_
    clear hK K
    refine done_ (by kernel_rfl) ?_
    try go_wp2
    refine bodyPost_ret (results_tc rfl _ _ g7 40 #[.int .i64 m0, .slice Am L cm] (0, 0) _ rfl (put2 HS.out.b7 _ _) Try.underlying40 rfl (by kernel_rfl)) rfl ?_
    rw [← HLm.out]; rw [A1.out]
    exact HS.out.fin (Kd.F_mono HS.out.mind fun _ hk => hk.1) (by rw [HLm.out]; exact HCM.out) _ _
set_option maxHeartbeats 8000000 in
set_option maxRecDepth 100000 in
theorem think_not (hL : n3.length = L) (hLm : m1.length = L) (hP : Pure W g lb fn an0) (hc3 : L ≤ c3) (hcm : L ≤ cm) (hT : Tr W Al A3 n3) (hM : FM W Q Am m1) (hQ : ∀ k, W.heap.size ≤ k → Q k) (hL1 : L = 1) {z : Int × Md × Unit} {x : Nd} {y : Md} (hx : rdN n3 0 = x) (hy : rdM m1 0 = y) (hz : ThinkC an0 z x y) (hr : z.1 = 0 ∨ z.1 = 1 ∨ z.1 = 2) (e : n0 = 5) :
    Calls Try.prog 18 #[.agg #[.int .i64 n0, .string n1, .int .i64 n2, .slice A3 L c3], .agg #[.int .i64 m0, .slice Am L cm], .func (.func g) #[] lb] W fun e w' => Ret Q W w' e (flipV z.1) 0 [z.2.1] := by
  subst hL1
  obtain ⟨r, ⟨k0, k1⟩, u⟩ := z
  have HZ := Aside0.mk hz
  clear hz
  have HL := Aside0.mk hL
  have HLm := Aside0.mk hLm
  have HP := Aside0.mk hP
  have HC3 := Aside0.mk hc3
  have HCM := Aside0.mk hcm
  have HT := Aside0.mk hT
  have HM := Aside0.mk hM
  have HQ := Aside0.mk hQ
  clear hL hLm hP hc3 hcm hT hM hQ
  have Bk1 : (n0 == 1) = false := beqF (by omega)
  have Bk2 : (n0 == 2) = false := beqF (by omega)
  have Bk5 : (n0 == 5) = true := beqT e
  have Bk6 : (n0 == 6) = false := beqF (by omega)
  go_enter Try.func18, Try.ntmps18
  go_upto_region 10 with (first | ((with_reducible refine gate_dst (N := 3) rfl ?_); refine box_event ?hg (N := 3) ?hd (cs := #[.int .i64 n0, .string n1, .int .i64 n2, .slice A3 1 c3]) (t := 25) ?hr ?_; (case hd => rfl); (case hg => rfl); (case hr => first | (go_simp; done) | (go_simp; rfl)); intro g3 hg w1 hbox hb; have E3 := Aside0.mk hg; have BK3 := Aside0.mk hbox; have HB1 := Aside0.mk hb; clear hg hbox hb) | ((with_reducible refine gate_dst (N := 4) rfl ?_); refine box_event ?hg (N := 4) ?hd (cs := #[.int .i64 m0, .slice Am 1 cm]) (t := 40) ?hr ?_; (case hd => rfl); (case hg => rfl); (case hr => first | (go_simp; done) | (go_simp; rfl)); intro g4 hg w2 hbox hb; have E4 := Aside0.mk hg; have BK4 := Aside0.mk hbox; have HB2 := Aside0.mk hb; clear hg hbox hb) | ((with_reducible refine gate_dst (N := 7) rfl ?_); refine box_event ?hg (N := 7) ?hd (cs := #[.int .i64 0, .slice none 0 0]) (t := 40) ?hr ?_; (case hd => rfl); (case hg => rfl); (case hr => first | (go_simp; done) | (go_simp; rfl)); intro g7 hg w3 hbox hb; have HS := Aside0.mk (show Bs Q W w3 g3 g4 g7 n0 n1 n2 n3 A3 1 c3 m0 m1 Am cm from Bs.start HT.out HM.out E3.out BK3.out HB1.out E4.out BK4.out HB2.out hg hbox hb); clear hg hbox hb E3 BK3 HB1 E4 BK4 HB2; have c30 := (blk_cell HS.out.b3 0).trans rfl; have c31 := (blk_cell HS.out.b3 1).trans rfl; have c32 := (blk_cell HS.out.b3 2).trans rfl; have c33 := (blk_cell HS.out.b3 3).trans rfl; have c40 := (blk_cell HS.out.b4 0).trans rfl; have c41 := (blk_cell HS.out.b4 1).trans rfl))
  clear c30 c31 c32 c33 c40 c41
  have HS := Aside0.mk HS.out.drew
  obtain ⟨ad, A4, c4, rfl, hc4, hT4, hcell⟩ := Tr.elem0 HS.out.tn (by rw [HL.out]; decide)
  obtain ⟨ae, A5, c5, rfl, hc5, hM5, y0, y1⟩ := FM.elem0 HS.out.mind (by rw [HLm.out]; decide)
  obtain ⟨x0, x1, x2, x3⟩ := hcell w3.drew (fun _ _ _ => rfl)
  rw [hx] at hc4 hT4 x0 x1 x2 x3
  rw [hy] at hc5 hM5 y0 y1
  have X0 := Aside0.mk x0
  have X1 := Aside0.mk x1
  have X2 := Aside0.mk x2
  have X3 := Aside0.mk x3
  have X4 := Aside0.mk y0
  have X5 := Aside0.mk y1
  have HC4 := Aside0.mk hc4
  have HC5 := Aside0.mk hc5
  have HT4 := Aside0.mk hT4
  have HM5 := Aside0.mk hM5
  clear x0 x1 x2 x3 y0 y1 hc4 hc5 hT4 hM5 hcell
  refine start_ (n := 16) (S := fun w' => w'.cell? ⟨g3, 3, none⟩ = some (.slice (some ad) 1 c3) ∧ w'.cell? ⟨g4, 1, none⟩ = some (.slice (some ae) 1 cm) ∧ w'.cell? ad = some (.int .i64 x.f0) ∧ w'.cell? ⟨ad.block, ad.off + 1, none⟩ = some (.string x.f1) ∧ w'.cell? ⟨ad.block, ad.off + 2, none⟩ = some (.int .i64 x.f2) ∧ w'.cell? ⟨ad.block, ad.off + 3, none⟩ = some (.slice A4 x.f3.length c4) ∧ w'.cell? ae = some (.int .i64 y.f0) ∧ w'.cell? ⟨ae.block, ae.off + 1, none⟩ = some (.slice A5 y.f1.length c5)) (ds := [15]) #[false, false, false, false, false, false, false, false, false, false, false, false, false, false, false, false] (by kernel_rfl) rfl rfl ⟨(blk_cell HS.out.b3 3).trans rfl, (blk_cell HS.out.b4 1).trans rfl, X0.out, X1.out, X2.out, X3.out, X4.out, X5.out⟩ (fun hHeld => ?_)
  generalize w3.drew = wd at HS X0 X1 X2 X3 X4 X5 HT4 HM5 hHeld ⊢
  refine pure_ (i := 0) (N := some 47) (v := ?_) (a' := ?_) #[true, false, false, false, false, false, false, false, false, false, false, false, false, false, false, false] rfl rfl (by kernel_rfl) (fun _ _ _ h => h) (Or.inl ⟨by rfl, ?_⟩) ?_ ?_
  rotate_left
  · intro w'
    go_simp
    with_reducible rfl
  rotate_left
  · simp only [Act.put, List.setIfInBounds_toArray, List.set_cons_zero, List.set_cons_succ, i64_w, i32_w]
    rfl
  refine pure_ (i := 4) (N := some 51) (v := ?_) (a' := ?_) #[true, false, false, false, true, false, false, false, false, false, false, false, false, false, false, false] rfl rfl (by kernel_rfl) (fun _ _ _ h => h) (Or.inl ⟨by rfl, ?_⟩) ?_ ?_
  rotate_left
  · intro w'
    go_simp
    with_reducible rfl
  rotate_left
  · simp only [Act.put, List.setIfInBounds_toArray, List.set_cons_zero, List.set_cons_succ, i64_w, i32_w]
    rfl
  refine pure_ (i := 8) (N := some 55) (v := ?_) (a' := ?_) #[true, false, false, false, true, false, false, false, true, false, false, false, false, false, false, false] rfl rfl (by kernel_rfl) (fun _ _ _ h => h) (Or.inl ⟨by rfl, ?_⟩) ?_ ?_
  rotate_left
  · intro w'
    go_simp
    with_reducible rfl
  rotate_left
  · simp only [Act.put, List.setIfInBounds_toArray, List.set_cons_zero, List.set_cons_succ, i64_w, i32_w]
    rfl
  refine take_ (i := 1) (N := some 48) (v := ?_) (a' := ?_) #[true, true, false, false, true, false, false, false, true, false, false, false, false, false, false, false] rfl rfl (by kernel_rfl) (fun _ _ _ h => h) (Or.inl ⟨by rfl, ?_⟩) hHeld ?_ ?_
  rotate_left
  · rintro w' ⟨s0, s1, s2, s3, s4, s5, s6, s7⟩
    go_simp
    with_reducible rfl
  rotate_left
  · simp only [Act.put, List.setIfInBounds_toArray, List.set_cons_zero, List.set_cons_succ, i64_w, i32_w]
    rfl
  refine pure_ (i := 2) (N := some 49) (v := ?_) (a' := ?_) #[true, true, true, false, true, false, false, false, true, false, false, false, false, false, false, false] rfl rfl (by kernel_rfl) (fun _ _ _ h => h) (Or.inl ⟨by rfl, ?_⟩) ?_ ?_
  rotate_left
  · intro w'
    go_simp
    with_reducible rfl
  rotate_left
  · simp only [Act.put, List.setIfInBounds_toArray, List.set_cons_zero, List.set_cons_succ, i64_w, i32_w]
    rfl
  refine take_ (i := 3) (N := some 50) (v := ?_) (a' := ?_) #[true, true, true, true, true, false, false, false, true, false, false, false, false, false, false, false] rfl rfl (by kernel_rfl) (fun _ _ _ h => h) (Or.inl ⟨by rfl, ?_⟩) hHeld ?_ ?_
  rotate_left
  · rintro w' ⟨s0, s1, s2, s3, s4, s5, s6, s7⟩
    go_simp
    with_reducible rfl
  rotate_left
  · simp only [Act.put, List.setIfInBounds_toArray, List.set_cons_zero, List.set_cons_succ, i64_w, i32_w]
    rfl
  refine take_ (i := 5) (N := some 52) (v := ?_) (a' := ?_) #[true, true, true, true, true, true, false, false, true, false, false, false, false, false, false, false] rfl rfl (by kernel_rfl) (fun _ _ _ h => h) (Or.inl ⟨by rfl, ?_⟩) hHeld ?_ ?_
  rotate_left
  · rintro w' ⟨s0, s1, s2, s3, s4, s5, s6, s7⟩
    go_simp
    with_reducible rfl
  rotate_left
  · simp only [Act.put, List.setIfInBounds_toArray, List.set_cons_zero, List.set_cons_succ, i64_w, i32_w]
    rfl
  refine pure_ (i := 6) (N := some 53) (v := ?_) (a' := ?_) #[true, true, true, true, true, true, true, false, true, false, false, false, false, false, false, false] rfl rfl (by kernel_rfl) (fun _ _ _ h => h) (Or.inl ⟨by rfl, ?_⟩) ?_ ?_
  rotate_left
  · intro w'
    go_simp
    with_reducible rfl
  rotate_left
  · simp only [Act.put, List.setIfInBounds_toArray, List.set_cons_zero, List.set_cons_succ, i64_w, i32_w]
    rfl
  refine take_ (i := 7) (N := some 54) (v := ?_) (a' := ?_) #[true, true, true, true, true, true, true, true, true, false, false, false, false, false, false, false] rfl rfl (by kernel_rfl) (fun _ _ _ h => h) (Or.inl ⟨by rfl, ?_⟩) hHeld ?_ ?_
  rotate_left
  · rintro w' ⟨s0, s1, s2, s3, s4, s5, s6, s7⟩
    go_simp
    with_reducible rfl
  rotate_left
  · simp only [Act.put, List.setIfInBounds_toArray, List.set_cons_zero, List.set_cons_succ, i64_w, i32_w]
    rfl
  refine join_ (σ := Nat × Option Addr × Nat) 2 #[true, true, true, true, true, true, true, true, true, true, true, true, true, true, false, false] (fun s => [(56, .tuple #[.int .i64 r, .agg #[.int .i64 k0, .slice s.2.1 k1.length s.2.2]]), (46, .tuple #[.int .i64 r, .agg #[.int .i64 k0, .slice s.2.1 k1.length s.2.2]]), (57, .int .i64 r), (58, .agg #[.int .i64 k0, .slice s.2.1 k1.length s.2.2]), (10, .pointer (some ⟨s.1, 0, none⟩))]) (fun s w' => Fk Q (fun _ => True) W g3 g4 g7 n0 n1 n2 n3 (some ad) 1 c3 m0 m1 (some ae) cm k1 s w') ?_ ?_
  rotate_left
  · intro hCont
    refine two_ (i := 9) (j := 13) (Ni := some 56) (Nj := some 10) #[true, true, true, true, true, true, true, true, true, true, false, false, false, false, false, false] #[true, true, true, true, true, true, true, true, true, false, false, false, false, true, false, false] rfl rfl rfl rfl (by kernel_rfl) (by decide) (by decide) (fun K hK => ?_) (fun K hK => ?_)
    · skip
      refine goes_ Try.func18 (by kernel_rfl) rfl #[.agg #[.int .i64 x.f0, .string x.f1, .int .i64 x.f2, .slice A4 x.f3.length c4], .agg #[.int .i64 y.f0, .slice A5 y.f1.length c5], .func (.func g) #[] lb] (by rfl) rfl rfl (by simp only [List.map_toArray, List.map_cons, List.map_nil]; rfl) ?_
      refine (ThinkC.within HZ.out HS.out HQ.out (q := fun _ => True) (fun k hk => trivial) HP.out HC4.out HC5.out HT4.out HM5.out).mono ?_
      rintro e wb ⟨Ak, ck, rfl, hck, hFk, hb⟩
      refine ⟨_, rfl, ?_⟩
      have HS := Aside0.mk (HS.out.below hb)
      have X0 := Aside0.mk (cellB hb X0.out)
      have X1 := Aside0.mk (cellB hb X1.out)
      have X2 := Aside0.mk (cellB hb X2.out)
      have X3 := Aside0.mk (cellB hb X3.out)
      have X4 := Aside0.mk (cellB hb X4.out)
      have X5 := Aside0.mk (cellB hb X5.out)
      have HT4 := Aside0.mk (Kd.F_below HT4.out hb)
      have HM5 := Aside0.mk (Kd.F_below HM5.out hb)
      have HF := Aside0.mk hFk
      have HCK := Aside0.mk hck
      clear hck hFk hb
      refine hK.out _ _ ⟨(blk_cell HS.out.b3 3).trans rfl, (blk_cell HS.out.b4 1).trans rfl, X0.out, X1.out, X2.out, X3.out, X4.out, X5.out⟩ (fun hHeld => ?_)
      clear hK K
      refine norm_ (a' := ?_) ?_ ?_
      rotate_left
      · show Act.put _ (some 56) _ = _
        simp only [Act.put, List.setIfInBounds_toArray, List.set_cons_zero, List.set_cons_succ, i64_w, i32_w]
        rfl
      refine pure_ (i := 10) (N := some 46) (v := ?_) (a' := ?_) #[true, true, true, true, true, true, true, true, true, true, true, false, false, false, false, false] rfl rfl (by kernel_rfl) (fun _ _ _ h => h) (Or.inl ⟨by rfl, ?_⟩) ?_ ?_
      rotate_left
      · intro w'
        go_simp
        with_reducible rfl
      rotate_left
      · simp only [Act.put, List.setIfInBounds_toArray, List.set_cons_zero, List.set_cons_succ, i64_w, i32_w]
        rfl
      refine pure_ (i := 11) (N := some 57) (v := ?_) (a' := ?_) #[true, true, true, true, true, true, true, true, true, true, true, true, false, false, false, false] rfl rfl (by kernel_rfl) (fun _ _ _ h => h) (Or.inl ⟨by rfl, ?_⟩) ?_ ?_
      rotate_left
      · intro w'
        go_simp
        with_reducible rfl
      rotate_left
      · simp only [Act.put, List.setIfInBounds_toArray, List.set_cons_zero, List.set_cons_succ, i64_w, i32_w]
        rfl
      refine pure_ (i := 12) (N := some 58) (v := ?_) (a' := ?_) #[true, true, true, true, true, true, true, true, true, true, true, true, true, false, false, false] rfl rfl (by kernel_rfl) (fun _ _ _ h => h) (Or.inl ⟨by rfl, ?_⟩) ?_ ?_
      rotate_left
      · intro w'
        go_simp
        with_reducible rfl
      rotate_left
      · simp only [Act.put, List.setIfInBounds_toArray, List.set_cons_zero, List.set_cons_succ, i64_w, i32_w]
        rfl
      refine one_ (i := 13) (N := some 10) #[true, true, true, true, true, true, true, true, true, true, true, true, true, true, false, false] rfl rfl (by kernel_rfl) (by decide) (fun K hK => ?_)
      refine boxN_step (by rfl) rfl (cs := #[.int .i64 0, .slice none 0 0]) (t := 40) ?_ ?_
      · first | (go_simp; done) | (go_simp; rfl)
      intro g10 hg wa hbox hb
      have HX := Aside0.mk (HS.out.new (Nat.le_of_eq hg.symm) hbox)
      have HF := Aside0.mk (Kd.F_below (Kd.F_elderB HF.out g10 (Nat.le_of_eq hg.symm)) hb)
      have HS := Aside0.mk (HS.out.below hb)
      have X0 := Aside0.mk (cellB hb X0.out)
      have X1 := Aside0.mk (cellB hb X1.out)
      have X2 := Aside0.mk (cellB hb X2.out)
      have X3 := Aside0.mk (cellB hb X3.out)
      have X4 := Aside0.mk (cellB hb X4.out)
      have X5 := Aside0.mk (cellB hb X5.out)
      have HT4 := Aside0.mk (Kd.F_below HT4.out hb)
      have HM5 := Aside0.mk (Kd.F_below HM5.out hb)
      clear hg hbox hb
      refine hK.out _ _ ⟨(blk_cell HS.out.b3 3).trans rfl, (blk_cell HS.out.b4 1).trans rfl, X0.out, X1.out, X2.out, X3.out, X4.out, X5.out⟩ (fun hHeld => ?_)
      clear hK K
      refine norm_ (a' := ?_) ?_ ?_
      rotate_left
      · show Act.put _ (some 10) _ = _
        simp only [Act.put, List.setIfInBounds_toArray, List.set_cons_zero, List.set_cons_succ, i64_w, i32_w]
        rfl
      exact norm_ (by simp only [putAll, Act.put, List.setIfInBounds_toArray, List.set_cons_zero, List.set_cons_succ]) (hCont (g10, Ak, ck) _ ⟨HS.out, HX.out, HCK.out, HF.out⟩)
    · skip
      refine boxN_step (by rfl) rfl (cs := #[.int .i64 0, .slice none 0 0]) (t := 40) ?_ ?_
      · first | (go_simp; done) | (go_simp; rfl)
      intro g10 hg wa hbox hb
      have HX := Aside0.mk (HS.out.new (Nat.le_of_eq hg.symm) hbox)
      have HS := Aside0.mk (HS.out.below hb)
      have X0 := Aside0.mk (cellB hb X0.out)
      have X1 := Aside0.mk (cellB hb X1.out)
      have X2 := Aside0.mk (cellB hb X2.out)
      have X3 := Aside0.mk (cellB hb X3.out)
      have X4 := Aside0.mk (cellB hb X4.out)
      have X5 := Aside0.mk (cellB hb X5.out)
      have HT4 := Aside0.mk (Kd.F_below HT4.out hb)
      have HM5 := Aside0.mk (Kd.F_below HM5.out hb)
      clear hg hbox hb
      refine hK.out _ _ ⟨(blk_cell HS.out.b3 3).trans rfl, (blk_cell HS.out.b4 1).trans rfl, X0.out, X1.out, X2.out, X3.out, X4.out, X5.out⟩ (fun hHeld => ?_)
      clear hK K
      refine norm_ (a' := ?_) ?_ ?_
      rotate_left
      · show Act.put _ (some 10) _ = _
        simp only [Act.put, List.setIfInBounds_toArray, List.set_cons_zero, List.set_cons_succ, i64_w, i32_w]
        rfl
      refine one_ (i := 9) (N := some 56) #[true, true, true, true, true, true, true, true, true, true, false, false, false, true, false, false] rfl rfl (by kernel_rfl) (by decide) (fun K hK => ?_)
      refine goes_ Try.func18 (by kernel_rfl) rfl #[.agg #[.int .i64 x.f0, .string x.f1, .int .i64 x.f2, .slice A4 x.f3.length c4], .agg #[.int .i64 y.f0, .slice A5 y.f1.length c5], .func (.func g) #[] lb] (by rfl) rfl rfl (by simp only [List.map_toArray, List.map_cons, List.map_nil]; rfl) ?_
      refine (ThinkC.within HZ.out HS.out HQ.out (q := fun k => (fun _ => True) k ∧ k ≠ g10) (fun k hk => ⟨trivial, by have h1 := HX.out.wg; have h2 := blk_lt HX.out.b; omega⟩) HP.out HC4.out HC5.out HT4.out HM5.out).mono ?_
      rintro e wb ⟨Ak, ck, rfl, hck, hFk, hb⟩
      refine ⟨_, rfl, ?_⟩
      have HS := Aside0.mk (HS.out.below hb)
      have X0 := Aside0.mk (cellB hb X0.out)
      have X1 := Aside0.mk (cellB hb X1.out)
      have X2 := Aside0.mk (cellB hb X2.out)
      have X3 := Aside0.mk (cellB hb X3.out)
      have X4 := Aside0.mk (cellB hb X4.out)
      have X5 := Aside0.mk (cellB hb X5.out)
      have HT4 := Aside0.mk (Kd.F_below HT4.out hb)
      have HM5 := Aside0.mk (Kd.F_below HM5.out hb)
      have HX := Aside0.mk (HX.out.below hb)
      have HF := Aside0.mk (Kd.F_mono (ok' := fun k => ((Q k ∧ k ≠ g7) ∧ (fun _ => True) k) ∧ k ≠ g10) hFk (fun k hk => ⟨⟨hk.1, hk.2.1⟩, hk.2.2⟩))
      have HCK := Aside0.mk hck
      clear hck hFk hb
      refine hK.out _ _ ⟨(blk_cell HS.out.b3 3).trans rfl, (blk_cell HS.out.b4 1).trans rfl, X0.out, X1.out, X2.out, X3.out, X4.out, X5.out⟩ (fun hHeld => ?_)
      clear hK K
      refine norm_ (a' := ?_) ?_ ?_
      rotate_left
      · show Act.put _ (some 56) _ = _
        simp only [Act.put, List.setIfInBounds_toArray, List.set_cons_zero, List.set_cons_succ, i64_w, i32_w]
        rfl
      refine pure_ (i := 10) (N := some 46) (v := ?_) (a' := ?_) #[true, true, true, true, true, true, true, true, true, true, true, false, false, true, false, false] rfl rfl (by kernel_rfl) (fun _ _ _ h => h) (Or.inl ⟨by rfl, ?_⟩) ?_ ?_
      rotate_left
      · intro w'
        go_simp
        with_reducible rfl
      rotate_left
      · simp only [Act.put, List.setIfInBounds_toArray, List.set_cons_zero, List.set_cons_succ, i64_w, i32_w]
        rfl
      refine pure_ (i := 11) (N := some 57) (v := ?_) (a' := ?_) #[true, true, true, true, true, true, true, true, true, true, true, true, false, true, false, false] rfl rfl (by kernel_rfl) (fun _ _ _ h => h) (Or.inl ⟨by rfl, ?_⟩) ?_ ?_
      rotate_left
      · intro w'
        go_simp
        with_reducible rfl
      rotate_left
      · simp only [Act.put, List.setIfInBounds_toArray, List.set_cons_zero, List.set_cons_succ, i64_w, i32_w]
        rfl
      refine pure_ (i := 12) (N := some 58) (v := ?_) (a' := ?_) #[true, true, true, true, true, true, true, true, true, true, true, true, true, true, false, false] rfl rfl (by kernel_rfl) (fun _ _ _ h => h) (Or.inl ⟨by rfl, ?_⟩) ?_ ?_
      rotate_left
      · intro w'
        go_simp
        with_reducible rfl
      rotate_left
      · simp only [Act.put, List.setIfInBounds_toArray, List.set_cons_zero, List.set_cons_succ, i64_w, i32_w]
        rfl
      exact norm_ (by simp only [putAll, Act.put, List.setIfInBounds_toArray, List.set_cons_zero, List.set_cons_succ]) (hCont (g10, Ak, ck) _ ⟨HS.out, HX.out, HCK.out, HF.out⟩)
  rintro ⟨g10, Ak, ck⟩ wz hFk
  have HFK := Aside0.mk hFk
  clear hFk
  refine norm_ (a' := ?_) ?_ ?_
  rotate_left
  · simp only [putAll, Act.put, List.setIfInBounds_toArray, List.set_cons_zero, List.set_cons_succ]
    rfl
  refine pure_ (i := 14) (N := some 9) (v := ?_) (a' := ?_) #[true, true, true, true, true, true, true, true, true, true, true, true, true, true, true, false] rfl rfl (by kernel_rfl) (fun _ _ _ h => h) (Or.inl ⟨by rfl, ?_⟩) ?_ ?_
  rotate_left
  · intro w'
    go_simp
    with_reducible rfl
  rotate_left
  · simp only [Act.put, List.setIfInBounds_toArray, List.set_cons_zero, List.set_cons_succ, i64_w, i32_w]
    rfl
  refine last_ (i := 15) (N := none) #[true, true, true, true, true, true, true, true, true, true, true, true, true, true, true, true] rfl rfl (by kernel_rfl) (by decide) (fun K hK => ?_)
  have cz0 := (blk_cell HFK.out.2.1.b 0).trans rfl
  have cz1 := (blk_cell HFK.out.2.1.b 1).trans rfl
  have fz0 := blk_frozen HFK.out.2.1.b 0
  have fz1 := blk_frozen HFK.out.2.1.b 1
  refine skip_ (w1 := ?_) (by rfl) rfl ?_ ?_
  rotate_left
  · go_simp
    rfl
  refine hK.out _ _ ?_
  clear hK K
  refine done_ (by kernel_rfl) ?_
  have HP_ := Fk.put HFK.out k0
  have HS := Aside0.mk HP_.1
  have HX := Aside0.mk HP_.2.1
  have HCK := Aside0.mk HP_.2.2.1
  have HF := Aside0.mk HP_.2.2.2
  clear HP_ HFK cz0 cz1 fz0 fz1
  generalize ((wz.setCell ⟨g10, 0, none⟩ (.int .i64 k0)).setCell ⟨g10, 1, none⟩ (.slice Ak k1.length ck)) = wy at HS HX HF ⊢
  go_upto_region 11 with (first | fail)
  have HS := Aside0.mk HS.out.drew
  have HX := Aside0.mk HX.out.drew
  have HF := Aside0.mk (Kd.F_drew HF.out)
  rcases hr with e0 | e0 | e0
  · have e0' : r = 0 := e0
    clear e0
    subst e0'
    refine start_ (n := 9) (S := fun w' => w'.cell? ⟨g10, 0, none⟩ = some (.int .i64 k0) ∧ w'.cell? ⟨g10, 1, none⟩ = some (.slice Ak k1.length ck)) (ds := [8]) #[false, false, false, false, false, false, false, false, false] (by kernel_rfl) rfl rfl ⟨(blk_cell HX.out.b 0).trans rfl, (blk_cell HX.out.b 1).trans rfl⟩ (fun hHeld => ?_)
    generalize wy.drew = wd at HS HX HF hHeld ⊢
    refine pure_ (i := 1) (N := some 60) (v := ?_) (a' := ?_) #[false, true, false, false, false, false, false, false, false] rfl rfl (by kernel_rfl) (fun _ _ _ h => h) (Or.inl ⟨by rfl, ?_⟩) ?_ ?_
    rotate_left
    · intro w'
      go_simp
      with_reducible rfl
    rotate_left
    · simp only [Act.put, List.setIfInBounds_toArray, List.set_cons_zero, List.set_cons_succ, i64_w, i32_w]
      rfl
    refine take_ (i := 4) (N := some 63) (v := ?_) (a' := ?_) #[false, true, false, false, true, false, false, false, false] rfl rfl (by kernel_rfl) (fun _ _ _ h => h) (Or.inl ⟨by rfl, ?_⟩) hHeld ?_ ?_
    rotate_left
    · rintro w' ⟨s0, s1⟩
      go_simp
      with_reducible rfl
    rotate_left
    · simp only [Act.put, List.setIfInBounds_toArray, List.set_cons_zero, List.set_cons_succ, i64_w, i32_w]
      rfl
    refine join_ (σ := Nat × Nat) 1 #[true, true, true, true, true, true, true, true, false] (fun s => [(59, .slice (some ⟨s.1, 0, none⟩) 3 3), (61, .pointer (some ⟨s.1, 0, none⟩)), (62, .int .i64 1), (64, .slice (some ⟨s.2, 0, none⟩) 1 1), (65, .agg #[.int .i64 0, .slice (some ⟨s.2, 0, none⟩) 1 1]), (6, .int .i64 1)]) (fun s w' => Bs Q W w' g3 g4 g7 n0 n1 n2 n3 (some ad) 1 c3 m0 m1 (some ae) cm ∧ FM w' (fun k => Q k ∧ k ≠ g7) (some ⟨s.2, 0, none⟩) [(⟨k0, k1⟩ : Md)]) ?_ ?_
    rotate_left
    · intro hCont
      refine two_ (i := 0) (j := 5) (Ni := some 59) (Nj := some 64) #[true, true, false, false, true, false, false, false, false] #[false, true, false, false, true, true, false, false, false] rfl rfl rfl rfl (by kernel_rfl) (by decide) (by decide) (fun K hK => ?_) (fun K hK => ?_)
      · skip
        refine row_step (by rfl) rfl (cs := #[.int .i64 1, .int .i64 0, .int .i64 2]) (t := 3) (n := 3) ?_ ?_
        · first | (go_simp; done) | (go_simp; rfl)
        intro ga hg wa hbox hb
        have BR := Aside0.mk hbox
        have HS := Aside0.mk (HS.out.below hb)
        have HX := Aside0.mk (HX.out.below hb)
        have HF := Aside0.mk (Kd.F_below HF.out hb)
        clear hg hbox hb
        refine hK.out _ _ ⟨(blk_cell HX.out.b 0).trans rfl, (blk_cell HX.out.b 1).trans rfl⟩ (fun hHeld => ?_)
        clear hK K
        refine norm_ (a' := ?_) ?_ ?_
        rotate_left
        · show Act.put _ (some 59) _ = _
          simp only [Act.put, List.setIfInBounds_toArray, List.set_cons_zero, List.set_cons_succ, i64_w, i32_w]
          rfl
        refine pure_ (i := 2) (N := some 61) (v := ?_) (a' := ?_) #[true, true, true, false, true, false, false, false, false] rfl rfl (by kernel_rfl) (fun _ _ _ h => h) (Or.inl ⟨by rfl, ?_⟩) ?_ ?_
        rotate_left
        · intro w'
          go_simp
          with_reducible rfl
        rotate_left
        · simp only [Act.put, List.setIfInBounds_toArray, List.set_cons_zero, List.set_cons_succ, i64_w, i32_w]
          rfl
        refine two_ (i := 3) (j := 5) (Ni := some 62) (Nj := some 64) #[true, true, true, true, true, false, false, false, false] #[true, true, true, false, true, true, false, false, false] rfl rfl rfl rfl (by kernel_rfl) (by decide) (by decide) (fun K hK => ?_) (fun K hK => ?_)
        · skip
          have cr := (blk_cell BR.out 0).trans rfl
          refine value_ (w1 := ?_) (v := ?_) (by rfl) rfl ?_ ?_
          rotate_left 2
          · go_simp
            constructor
            · rfl
            · rfl
          refine hK.out _ _ ⟨(blk_cell HX.out.b 0).trans rfl, (blk_cell HX.out.b 1).trans rfl⟩ (fun hHeld => ?_)
          clear hK K
          refine norm_ (a' := ?_) ?_ ?_
          rotate_left
          · show Act.put _ (some 62) _ = _
            simp only [Act.put, List.setIfInBounds_toArray, List.set_cons_zero, List.set_cons_succ, i64_w, i32_w]
            rfl
          refine pure_ (i := 7) (N := some 6) (v := ?_) (a' := ?_) #[true, true, true, true, true, false, false, true, false] rfl rfl (by kernel_rfl) (fun _ _ _ h => h) (Or.inl ⟨by rfl, ?_⟩) ?_ ?_
          rotate_left
          · intro w'
            go_simp
            with_reducible rfl
          rotate_left
          · simp only [Act.put, List.setIfInBounds_toArray, List.set_cons_zero, List.set_cons_succ, i64_w, i32_w]
            rfl
          refine one_ (i := 5) (N := some 64) #[true, true, true, true, true, true, false, true, false] rfl rfl (by kernel_rfl) (by decide) (fun K hK => ?_)
          refine row_step (by rfl) rfl (cs := #[.int .i64 k0, .slice Ak k1.length ck]) (t := 40) (n := 1) ?_ ?_
          · first | (go_simp; done) | (go_simp; rfl)
          intro gk hg wb hbox hb
          have HV := Aside0.mk (one_row (q := fun k => Q k ∧ k ≠ g7) (x := ⟨k0, k1⟩) (Kd.F_mono (Kd.F_below HF.out hb) fun _ hk => hk.1) HCK.out hbox (HS.out.free HQ.out gk (Nat.le_of_eq hg.symm)))
          have BR := Aside0.mk (blk_below BR.out hb)
          have HS := Aside0.mk (HS.out.below hb)
          have HX := Aside0.mk (HX.out.below hb)
          have HF := Aside0.mk (Kd.F_below HF.out hb)
          clear hg hbox hb
          refine hK.out _ _ ⟨(blk_cell HX.out.b 0).trans rfl, (blk_cell HX.out.b 1).trans rfl⟩ (fun hHeld => ?_)
          clear hK K
          refine norm_ (a' := ?_) ?_ ?_
          rotate_left
          · show Act.put _ (some 64) _ = _
            simp only [Act.put, List.setIfInBounds_toArray, List.set_cons_zero, List.set_cons_succ, i64_w, i32_w]
            rfl
          refine pure_ (i := 6) (N := some 65) (v := ?_) (a' := ?_) #[true, true, true, true, true, true, true, true, false] rfl rfl (by kernel_rfl) (fun _ _ _ h => h) (Or.inl ⟨by rfl, ?_⟩) ?_ ?_
          rotate_left
          · intro w'
            go_simp
            with_reducible rfl
          rotate_left
          · simp only [Act.put, List.setIfInBounds_toArray, List.set_cons_zero, List.set_cons_succ, i64_w, i32_w]
            rfl
          exact norm_ (by simp only [putAll, Act.put, List.setIfInBounds_toArray, List.set_cons_zero, List.set_cons_succ]) (hCont (ga, gk) _ ⟨HS.out, HV.out⟩)
        · skip
          refine row_step (by rfl) rfl (cs := #[.int .i64 k0, .slice Ak k1.length ck]) (t := 40) (n := 1) ?_ ?_
          · first | (go_simp; done) | (go_simp; rfl)
          intro gk hg wb hbox hb
          have HV := Aside0.mk (one_row (q := fun k => Q k ∧ k ≠ g7) (x := ⟨k0, k1⟩) (Kd.F_mono (Kd.F_below HF.out hb) fun _ hk => hk.1) HCK.out hbox (HS.out.free HQ.out gk (Nat.le_of_eq hg.symm)))
          have BR := Aside0.mk (blk_below BR.out hb)
          have HS := Aside0.mk (HS.out.below hb)
          have HX := Aside0.mk (HX.out.below hb)
          have HF := Aside0.mk (Kd.F_below HF.out hb)
          clear hg hbox hb
          refine hK.out _ _ ⟨(blk_cell HX.out.b 0).trans rfl, (blk_cell HX.out.b 1).trans rfl⟩ (fun hHeld => ?_)
          clear hK K
          refine norm_ (a' := ?_) ?_ ?_
          rotate_left
          · show Act.put _ (some 64) _ = _
            simp only [Act.put, List.setIfInBounds_toArray, List.set_cons_zero, List.set_cons_succ, i64_w, i32_w]
            rfl
          refine pure_ (i := 6) (N := some 65) (v := ?_) (a' := ?_) #[true, true, true, false, true, true, true, false, false] rfl rfl (by kernel_rfl) (fun _ _ _ h => h) (Or.inl ⟨by rfl, ?_⟩) ?_ ?_
          rotate_left
          · intro w'
            go_simp
            with_reducible rfl
          rotate_left
          · simp only [Act.put, List.setIfInBounds_toArray, List.set_cons_zero, List.set_cons_succ, i64_w, i32_w]
            rfl
          refine one_ (i := 3) (N := some 62) #[true, true, true, true, true, true, true, false, false] rfl rfl (by kernel_rfl) (by decide) (fun K hK => ?_)
          have cr := (blk_cell BR.out 0).trans rfl
          refine value_ (w1 := ?_) (v := ?_) (by rfl) rfl ?_ ?_
          rotate_left 2
          · go_simp
            constructor
            · rfl
            · rfl
          refine hK.out _ _ ⟨(blk_cell HX.out.b 0).trans rfl, (blk_cell HX.out.b 1).trans rfl⟩ (fun hHeld => ?_)
          clear hK K
          refine norm_ (a' := ?_) ?_ ?_
          rotate_left
          · show Act.put _ (some 62) _ = _
            simp only [Act.put, List.setIfInBounds_toArray, List.set_cons_zero, List.set_cons_succ, i64_w, i32_w]
            rfl
          refine pure_ (i := 7) (N := some 6) (v := ?_) (a' := ?_) #[true, true, true, true, true, true, true, true, false] rfl rfl (by kernel_rfl) (fun _ _ _ h => h) (Or.inl ⟨by rfl, ?_⟩) ?_ ?_
          rotate_left
          · intro w'
            go_simp
            with_reducible rfl
          rotate_left
          · simp only [Act.put, List.setIfInBounds_toArray, List.set_cons_zero, List.set_cons_succ, i64_w, i32_w]
            rfl
          exact norm_ (by simp only [putAll, Act.put, List.setIfInBounds_toArray, List.set_cons_zero, List.set_cons_succ]) (hCont (ga, gk) _ ⟨HS.out, HV.out⟩)
      · skip
        refine row_step (by rfl) rfl (cs := #[.int .i64 k0, .slice Ak k1.length ck]) (t := 40) (n := 1) ?_ ?_
        · first | (go_simp; done) | (go_simp; rfl)
        intro gk hg wb hbox hb
        have HV := Aside0.mk (one_row (q := fun k => Q k ∧ k ≠ g7) (x := ⟨k0, k1⟩) (Kd.F_mono (Kd.F_below HF.out hb) fun _ hk => hk.1) HCK.out hbox (HS.out.free HQ.out gk (Nat.le_of_eq hg.symm)))
        have HS := Aside0.mk (HS.out.below hb)
        have HX := Aside0.mk (HX.out.below hb)
        have HF := Aside0.mk (Kd.F_below HF.out hb)
        clear hg hbox hb
        refine hK.out _ _ ⟨(blk_cell HX.out.b 0).trans rfl, (blk_cell HX.out.b 1).trans rfl⟩ (fun hHeld => ?_)
        clear hK K
        refine norm_ (a' := ?_) ?_ ?_
        rotate_left
        · show Act.put _ (some 64) _ = _
          simp only [Act.put, List.setIfInBounds_toArray, List.set_cons_zero, List.set_cons_succ, i64_w, i32_w]
          rfl
        refine pure_ (i := 6) (N := some 65) (v := ?_) (a' := ?_) #[false, true, false, false, true, true, true, false, false] rfl rfl (by kernel_rfl) (fun _ _ _ h => h) (Or.inl ⟨by rfl, ?_⟩) ?_ ?_
        rotate_left
        · intro w'
          go_simp
          with_reducible rfl
        rotate_left
        · simp only [Act.put, List.setIfInBounds_toArray, List.set_cons_zero, List.set_cons_succ, i64_w, i32_w]
          rfl
        refine one_ (i := 0) (N := some 59) #[true, true, false, false, true, true, true, false, false] rfl rfl (by kernel_rfl) (by decide) (fun K hK => ?_)
        refine row_step (by rfl) rfl (cs := #[.int .i64 1, .int .i64 0, .int .i64 2]) (t := 3) (n := 3) ?_ ?_
        · first | (go_simp; done) | (go_simp; rfl)
        intro ga hg wa hbox hb
        have BR := Aside0.mk hbox
        have HV := Aside0.mk (Kd.F_below HV.out hb)
        have HS := Aside0.mk (HS.out.below hb)
        have HX := Aside0.mk (HX.out.below hb)
        have HF := Aside0.mk (Kd.F_below HF.out hb)
        clear hg hbox hb
        refine hK.out _ _ ⟨(blk_cell HX.out.b 0).trans rfl, (blk_cell HX.out.b 1).trans rfl⟩ (fun hHeld => ?_)
        clear hK K
        refine norm_ (a' := ?_) ?_ ?_
        rotate_left
        · show Act.put _ (some 59) _ = _
          simp only [Act.put, List.setIfInBounds_toArray, List.set_cons_zero, List.set_cons_succ, i64_w, i32_w]
          rfl
        refine pure_ (i := 2) (N := some 61) (v := ?_) (a' := ?_) #[true, true, true, false, true, true, true, false, false] rfl rfl (by kernel_rfl) (fun _ _ _ h => h) (Or.inl ⟨by rfl, ?_⟩) ?_ ?_
        rotate_left
        · intro w'
          go_simp
          with_reducible rfl
        rotate_left
        · simp only [Act.put, List.setIfInBounds_toArray, List.set_cons_zero, List.set_cons_succ, i64_w, i32_w]
          rfl
        refine one_ (i := 3) (N := some 62) #[true, true, true, true, true, true, true, false, false] rfl rfl (by kernel_rfl) (by decide) (fun K hK => ?_)
        have cr := (blk_cell BR.out 0).trans rfl
        refine value_ (w1 := ?_) (v := ?_) (by rfl) rfl ?_ ?_
        rotate_left 2
        · go_simp
          constructor
          · rfl
          · rfl
        refine hK.out _ _ ⟨(blk_cell HX.out.b 0).trans rfl, (blk_cell HX.out.b 1).trans rfl⟩ (fun hHeld => ?_)
        clear hK K
        refine norm_ (a' := ?_) ?_ ?_
        rotate_left
        · show Act.put _ (some 62) _ = _
          simp only [Act.put, List.setIfInBounds_toArray, List.set_cons_zero, List.set_cons_succ, i64_w, i32_w]
          rfl
        refine pure_ (i := 7) (N := some 6) (v := ?_) (a' := ?_) #[true, true, true, true, true, true, true, true, false] rfl rfl (by kernel_rfl) (fun _ _ _ h => h) (Or.inl ⟨by rfl, ?_⟩) ?_ ?_
        rotate_left
        · intro w'
          go_simp
          with_reducible rfl
        rotate_left
        · simp only [Act.put, List.setIfInBounds_toArray, List.set_cons_zero, List.set_cons_succ, i64_w, i32_w]
          rfl
        exact norm_ (by simp only [putAll, Act.put, List.setIfInBounds_toArray, List.set_cons_zero, List.set_cons_succ]) (hCont (ga, gk) _ ⟨HS.out, HV.out⟩)
    rintro ⟨ga, gk⟩ wx ⟨hs_, hv_⟩
    have HS := Aside0.mk hs_
    have HV := Aside0.mk hv_
    clear hs_ hv_
    refine norm_ (a' := ?_) ?_ ?_
    rotate_left
    · simp only [putAll, Act.put, List.setIfInBounds_toArray, List.set_cons_zero, List.set_cons_succ]
      rfl
    refine last_ (i := 8) (N := none) #[true, true, true, true, true, true, true, true, true] rfl rfl (by kernel_rfl) (by decide) (fun K hK => ?_)
    have cz0 := (blk_cell HS.out.b7 0).trans rfl
    have cz1 := (blk_cell HS.out.b7 1).trans rfl
    have fz0 := blk_frozen HS.out.b7 0
    have fz1 := blk_frozen HS.out.b7 1
    refine skip_ (w1 := ?_) (by rfl) rfl ?_ ?_
    rotate_left
    · go_simp
      rfl
    refine hK.out _ _ ?_
    clear hK K
    refine done_ (by kernel_rfl) ?_
    try go_wp2
    refine bodyPost_ret (results_tc rfl _ _ g7 40 #[.int .i64 0, .slice (some ⟨gk, 0, none⟩) 1 1] (0, 0) _ rfl (put2 HS.out.b7 _ _) Try.underlying40 rfl (by kernel_rfl)) rfl ?_
    exact HS.out.fin (l := [(⟨k0, k1⟩ : Md)]) HV.out (Nat.le_refl _) _ _
  · have e0' : r = 1 := e0
    clear e0
    subst e0'
    refine start_ (n := 9) (S := fun w' => w'.cell? ⟨g10, 0, none⟩ = some (.int .i64 k0) ∧ w'.cell? ⟨g10, 1, none⟩ = some (.slice Ak k1.length ck)) (ds := [8]) #[false, false, false, false, false, false, false, false, false] (by kernel_rfl) rfl rfl ⟨(blk_cell HX.out.b 0).trans rfl, (blk_cell HX.out.b 1).trans rfl⟩ (fun hHeld => ?_)
    generalize wy.drew = wd at HS HX HF hHeld ⊢
    refine pure_ (i := 1) (N := some 60) (v := ?_) (a' := ?_) #[false, true, false, false, false, false, false, false, false] rfl rfl (by kernel_rfl) (fun _ _ _ h => h) (Or.inl ⟨by rfl, ?_⟩) ?_ ?_
    rotate_left
    · intro w'
      go_simp
      with_reducible rfl
    rotate_left
    · simp only [Act.put, List.setIfInBounds_toArray, List.set_cons_zero, List.set_cons_succ, i64_w, i32_w]
      rfl
    refine take_ (i := 4) (N := some 63) (v := ?_) (a' := ?_) #[false, true, false, false, true, false, false, false, false] rfl rfl (by kernel_rfl) (fun _ _ _ h => h) (Or.inl ⟨by rfl, ?_⟩) hHeld ?_ ?_
    rotate_left
    · rintro w' ⟨s0, s1⟩
      go_simp
      with_reducible rfl
    rotate_left
    · simp only [Act.put, List.setIfInBounds_toArray, List.set_cons_zero, List.set_cons_succ, i64_w, i32_w]
      rfl
    refine join_ (σ := Nat × Nat) 1 #[true, true, true, true, true, true, true, true, false] (fun s => [(59, .slice (some ⟨s.1, 0, none⟩) 3 3), (61, .pointer (some ⟨s.1, 1, none⟩)), (62, .int .i64 0), (64, .slice (some ⟨s.2, 0, none⟩) 1 1), (65, .agg #[.int .i64 0, .slice (some ⟨s.2, 0, none⟩) 1 1]), (6, .int .i64 0)]) (fun s w' => Bs Q W w' g3 g4 g7 n0 n1 n2 n3 (some ad) 1 c3 m0 m1 (some ae) cm ∧ FM w' (fun k => Q k ∧ k ≠ g7) (some ⟨s.2, 0, none⟩) [(⟨k0, k1⟩ : Md)]) ?_ ?_
    rotate_left
    · intro hCont
      refine two_ (i := 0) (j := 5) (Ni := some 59) (Nj := some 64) #[true, true, false, false, true, false, false, false, false] #[false, true, false, false, true, true, false, false, false] rfl rfl rfl rfl (by kernel_rfl) (by decide) (by decide) (fun K hK => ?_) (fun K hK => ?_)
      · skip
        refine row_step (by rfl) rfl (cs := #[.int .i64 1, .int .i64 0, .int .i64 2]) (t := 3) (n := 3) ?_ ?_
        · first | (go_simp; done) | (go_simp; rfl)
        intro ga hg wa hbox hb
        have BR := Aside0.mk hbox
        have HS := Aside0.mk (HS.out.below hb)
        have HX := Aside0.mk (HX.out.below hb)
        have HF := Aside0.mk (Kd.F_below HF.out hb)
        clear hg hbox hb
        refine hK.out _ _ ⟨(blk_cell HX.out.b 0).trans rfl, (blk_cell HX.out.b 1).trans rfl⟩ (fun hHeld => ?_)
        clear hK K
        refine norm_ (a' := ?_) ?_ ?_
        rotate_left
        · show Act.put _ (some 59) _ = _
          simp only [Act.put, List.setIfInBounds_toArray, List.set_cons_zero, List.set_cons_succ, i64_w, i32_w]
          rfl
        refine pure_ (i := 2) (N := some 61) (v := ?_) (a' := ?_) #[true, true, true, false, true, false, false, false, false] rfl rfl (by kernel_rfl) (fun _ _ _ h => h) (Or.inl ⟨by rfl, ?_⟩) ?_ ?_
        rotate_left
        · intro w'
          go_simp
          with_reducible rfl
        rotate_left
        · simp only [Act.put, List.setIfInBounds_toArray, List.set_cons_zero, List.set_cons_succ, i64_w, i32_w]
          rfl
        refine two_ (i := 3) (j := 5) (Ni := some 62) (Nj := some 64) #[true, true, true, true, true, false, false, false, false] #[true, true, true, false, true, true, false, false, false] rfl rfl rfl rfl (by kernel_rfl) (by decide) (by decide) (fun K hK => ?_) (fun K hK => ?_)
        · skip
          have cr := (blk_cell BR.out 1).trans rfl
          refine value_ (w1 := ?_) (v := ?_) (by rfl) rfl ?_ ?_
          rotate_left 2
          · go_simp
            constructor
            · rfl
            · rfl
          refine hK.out _ _ ⟨(blk_cell HX.out.b 0).trans rfl, (blk_cell HX.out.b 1).trans rfl⟩ (fun hHeld => ?_)
          clear hK K
          refine norm_ (a' := ?_) ?_ ?_
          rotate_left
          · show Act.put _ (some 62) _ = _
            simp only [Act.put, List.setIfInBounds_toArray, List.set_cons_zero, List.set_cons_succ, i64_w, i32_w]
            rfl
          refine pure_ (i := 7) (N := some 6) (v := ?_) (a' := ?_) #[true, true, true, true, true, false, false, true, false] rfl rfl (by kernel_rfl) (fun _ _ _ h => h) (Or.inl ⟨by rfl, ?_⟩) ?_ ?_
          rotate_left
          · intro w'
            go_simp
            with_reducible rfl
          rotate_left
          · simp only [Act.put, List.setIfInBounds_toArray, List.set_cons_zero, List.set_cons_succ, i64_w, i32_w]
            rfl
          refine one_ (i := 5) (N := some 64) #[true, true, true, true, true, true, false, true, false] rfl rfl (by kernel_rfl) (by decide) (fun K hK => ?_)
          refine row_step (by rfl) rfl (cs := #[.int .i64 k0, .slice Ak k1.length ck]) (t := 40) (n := 1) ?_ ?_
          · first | (go_simp; done) | (go_simp; rfl)
          intro gk hg wb hbox hb
          have HV := Aside0.mk (one_row (q := fun k => Q k ∧ k ≠ g7) (x := ⟨k0, k1⟩) (Kd.F_mono (Kd.F_below HF.out hb) fun _ hk => hk.1) HCK.out hbox (HS.out.free HQ.out gk (Nat.le_of_eq hg.symm)))
          have BR := Aside0.mk (blk_below BR.out hb)
          have HS := Aside0.mk (HS.out.below hb)
          have HX := Aside0.mk (HX.out.below hb)
          have HF := Aside0.mk (Kd.F_below HF.out hb)
          clear hg hbox hb
          refine hK.out _ _ ⟨(blk_cell HX.out.b 0).trans rfl, (blk_cell HX.out.b 1).trans rfl⟩ (fun hHeld => ?_)
          clear hK K
          refine norm_ (a' := ?_) ?_ ?_
          rotate_left
          · show Act.put _ (some 64) _ = _
            simp only [Act.put, List.setIfInBounds_toArray, List.set_cons_zero, List.set_cons_succ, i64_w, i32_w]
            rfl
          refine pure_ (i := 6) (N := some 65) (v := ?_) (a' := ?_) #[true, true, true, true, true, true, true, true, false] rfl rfl (by kernel_rfl) (fun _ _ _ h => h) (Or.inl ⟨by rfl, ?_⟩) ?_ ?_
          rotate_left
          · intro w'
            go_simp
            with_reducible rfl
          rotate_left
          · simp only [Act.put, List.setIfInBounds_toArray, List.set_cons_zero, List.set_cons_succ, i64_w, i32_w]
            rfl
          exact norm_ (by simp only [putAll, Act.put, List.setIfInBounds_toArray, List.set_cons_zero, List.set_cons_succ]) (hCont (ga, gk) _ ⟨HS.out, HV.out⟩)
        · skip
          refine row_step (by rfl) rfl (cs := #[.int .i64 k0, .slice Ak k1.length ck]) (t := 40) (n := 1) ?_ ?_
          · first | (go_simp; done) | (go_simp; rfl)
          intro gk hg wb hbox hb
          have HV := Aside0.mk (one_row (q := fun k => Q k ∧ k ≠ g7) (x := ⟨k0, k1⟩) (Kd.F_mono (Kd.F_below HF.out hb) fun _ hk => hk.1) HCK.out hbox (HS.out.free HQ.out gk (Nat.le_of_eq hg.symm)))
          have BR := Aside0.mk (blk_below BR.out hb)
          have HS := Aside0.mk (HS.out.below hb)
          have HX := Aside0.mk (HX.out.below hb)
          have HF := Aside0.mk (Kd.F_below HF.out hb)
          clear hg hbox hb
          refine hK.out _ _ ⟨(blk_cell HX.out.b 0).trans rfl, (blk_cell HX.out.b 1).trans rfl⟩ (fun hHeld => ?_)
          clear hK K
          refine norm_ (a' := ?_) ?_ ?_
          rotate_left
          · show Act.put _ (some 64) _ = _
            simp only [Act.put, List.setIfInBounds_toArray, List.set_cons_zero, List.set_cons_succ, i64_w, i32_w]
            rfl
          refine pure_ (i := 6) (N := some 65) (v := ?_) (a' := ?_) #[true, true, true, false, true, true, true, false, false] rfl rfl (by kernel_rfl) (fun _ _ _ h => h) (Or.inl ⟨by rfl, ?_⟩) ?_ ?_
          rotate_left
          · intro w'
            go_simp
            with_reducible rfl
          rotate_left
          · simp only [Act.put, List.setIfInBounds_toArray, List.set_cons_zero, List.set_cons_succ, i64_w, i32_w]
            rfl
          refine one_ (i := 3) (N := some 62) #[true, true, true, true, true, true, true, false, false] rfl rfl (by kernel_rfl) (by decide) (fun K hK => ?_)
          have cr := (blk_cell BR.out 1).trans rfl
          refine value_ (w1 := ?_) (v := ?_) (by rfl) rfl ?_ ?_
          rotate_left 2
          · go_simp
            constructor
            · rfl
            · rfl
          refine hK.out _ _ ⟨(blk_cell HX.out.b 0).trans rfl, (blk_cell HX.out.b 1).trans rfl⟩ (fun hHeld => ?_)
          clear hK K
          refine norm_ (a' := ?_) ?_ ?_
          rotate_left
          · show Act.put _ (some 62) _ = _
            simp only [Act.put, List.setIfInBounds_toArray, List.set_cons_zero, List.set_cons_succ, i64_w, i32_w]
            rfl
          refine pure_ (i := 7) (N := some 6) (v := ?_) (a' := ?_) #[true, true, true, true, true, true, true, true, false] rfl rfl (by kernel_rfl) (fun _ _ _ h => h) (Or.inl ⟨by rfl, ?_⟩) ?_ ?_
          rotate_left
          · intro w'
            go_simp
            with_reducible rfl
          rotate_left
          · simp only [Act.put, List.setIfInBounds_toArray, List.set_cons_zero, List.set_cons_succ, i64_w, i32_w]
            rfl
          exact norm_ (by simp only [putAll, Act.put, List.setIfInBounds_toArray, List.set_cons_zero, List.set_cons_succ]) (hCont (ga, gk) _ ⟨HS.out, HV.out⟩)
      · skip
        refine row_step (by rfl) rfl (cs := #[.int .i64 k0, .slice Ak k1.length ck]) (t := 40) (n := 1) ?_ ?_
        · first | (go_simp; done) | (go_simp; rfl)
        intro gk hg wb hbox hb
        have HV := Aside0.mk (one_row (q := fun k => Q k ∧ k ≠ g7) (x := ⟨k0, k1⟩) (Kd.F_mono (Kd.F_below HF.out hb) fun _ hk => hk.1) HCK.out hbox (HS.out.free HQ.out gk (Nat.le_of_eq hg.symm)))
        have HS := Aside0.mk (HS.out.below hb)
        have HX := Aside0.mk (HX.out.below hb)
        have HF := Aside0.mk (Kd.F_below HF.out hb)
        clear hg hbox hb
        refine hK.out _ _ ⟨(blk_cell HX.out.b 0).trans rfl, (blk_cell HX.out.b 1).trans rfl⟩ (fun hHeld => ?_)
        clear hK K
        refine norm_ (a' := ?_) ?_ ?_
        rotate_left
        · show Act.put _ (some 64) _ = _
          simp only [Act.put, List.setIfInBounds_toArray, List.set_cons_zero, List.set_cons_succ, i64_w, i32_w]
          rfl
        refine pure_ (i := 6) (N := some 65) (v := ?_) (a' := ?_) #[false, true, false, false, true, true, true, false, false] rfl rfl (by kernel_rfl) (fun _ _ _ h => h) (Or.inl ⟨by rfl, ?_⟩) ?_ ?_
        rotate_left
        · intro w'
          go_simp
          with_reducible rfl
        rotate_left
        · simp only [Act.put, List.setIfInBounds_toArray, List.set_cons_zero, List.set_cons_succ, i64_w, i32_w]
          rfl
        refine one_ (i := 0) (N := some 59) #[true, true, false, false, true, true, true, false, false] rfl rfl (by kernel_rfl) (by decide) (fun K hK => ?_)
        refine row_step (by rfl) rfl (cs := #[.int .i64 1, .int .i64 0, .int .i64 2]) (t := 3) (n := 3) ?_ ?_
        · first | (go_simp; done) | (go_simp; rfl)
        intro ga hg wa hbox hb
        have BR := Aside0.mk hbox
        have HV := Aside0.mk (Kd.F_below HV.out hb)
        have HS := Aside0.mk (HS.out.below hb)
        have HX := Aside0.mk (HX.out.below hb)
        have HF := Aside0.mk (Kd.F_below HF.out hb)
        clear hg hbox hb
        refine hK.out _ _ ⟨(blk_cell HX.out.b 0).trans rfl, (blk_cell HX.out.b 1).trans rfl⟩ (fun hHeld => ?_)
        clear hK K
        refine norm_ (a' := ?_) ?_ ?_
        rotate_left
        · show Act.put _ (some 59) _ = _
          simp only [Act.put, List.setIfInBounds_toArray, List.set_cons_zero, List.set_cons_succ, i64_w, i32_w]
          rfl
        refine pure_ (i := 2) (N := some 61) (v := ?_) (a' := ?_) #[true, true, true, false, true, true, true, false, false] rfl rfl (by kernel_rfl) (fun _ _ _ h => h) (Or.inl ⟨by rfl, ?_⟩) ?_ ?_
        rotate_left
        · intro w'
          go_simp
          with_reducible rfl
        rotate_left
        · simp only [Act.put, List.setIfInBounds_toArray, List.set_cons_zero, List.set_cons_succ, i64_w, i32_w]
          rfl
        refine one_ (i := 3) (N := some 62) #[true, true, true, true, true, true, true, false, false] rfl rfl (by kernel_rfl) (by decide) (fun K hK => ?_)
        have cr := (blk_cell BR.out 1).trans rfl
        refine value_ (w1 := ?_) (v := ?_) (by rfl) rfl ?_ ?_
        rotate_left 2
        · go_simp
          constructor
          · rfl
          · rfl
        refine hK.out _ _ ⟨(blk_cell HX.out.b 0).trans rfl, (blk_cell HX.out.b 1).trans rfl⟩ (fun hHeld => ?_)
        clear hK K
        refine norm_ (a' := ?_) ?_ ?_
        rotate_left
        · show Act.put _ (some 62) _ = _
          simp only [Act.put, List.setIfInBounds_toArray, List.set_cons_zero, List.set_cons_succ, i64_w, i32_w]
          rfl
        refine pure_ (i := 7) (N := some 6) (v := ?_) (a' := ?_) #[true, true, true, true, true, true, true, true, false] rfl rfl (by kernel_rfl) (fun _ _ _ h => h) (Or.inl ⟨by rfl, ?_⟩) ?_ ?_
        rotate_left
        · intro w'
          go_simp
          with_reducible rfl
        rotate_left
        · simp only [Act.put, List.setIfInBounds_toArray, List.set_cons_zero, List.set_cons_succ, i64_w, i32_w]
          rfl
        exact norm_ (by simp only [putAll, Act.put, List.setIfInBounds_toArray, List.set_cons_zero, List.set_cons_succ]) (hCont (ga, gk) _ ⟨HS.out, HV.out⟩)
    rintro ⟨ga, gk⟩ wx ⟨hs_, hv_⟩
    have HS := Aside0.mk hs_
    have HV := Aside0.mk hv_
    clear hs_ hv_
    refine norm_ (a' := ?_) ?_ ?_
    rotate_left
    · simp only [putAll, Act.put, List.setIfInBounds_toArray, List.set_cons_zero, List.set_cons_succ]
      rfl
    refine last_ (i := 8) (N := none) #[true, true, true, true, true, true, true, true, true] rfl rfl (by kernel_rfl) (by decide) (fun K hK => ?_)
    have cz0 := (blk_cell HS.out.b7 0).trans rfl
    have cz1 := (blk_cell HS.out.b7 1).trans rfl
    have fz0 := blk_frozen HS.out.b7 0
    have fz1 := blk_frozen HS.out.b7 1
    refine skip_ (w1 := ?_) (by rfl) rfl ?_ ?_
    rotate_left
    · go_simp
      rfl
    refine hK.out _ _ ?_
    clear hK K
    refine done_ (by kernel_rfl) ?_
    try go_wp2
    refine bodyPost_ret (results_tc rfl _ _ g7 40 #[.int .i64 0, .slice (some ⟨gk, 0, none⟩) 1 1] (0, 0) _ rfl (put2 HS.out.b7 _ _) Try.underlying40 rfl (by kernel_rfl)) rfl ?_
    exact HS.out.fin (l := [(⟨k0, k1⟩ : Md)]) HV.out (Nat.le_refl _) _ _
  · have e0' : r = 2 := e0
    clear e0
    subst e0'
    refine start_ (n := 9) (S := fun w' => w'.cell? ⟨g10, 0, none⟩ = some (.int .i64 k0) ∧ w'.cell? ⟨g10, 1, none⟩ = some (.slice Ak k1.length ck)) (ds := [8]) #[false, false, false, false, false, false, false, false, false] (by kernel_rfl) rfl rfl ⟨(blk_cell HX.out.b 0).trans rfl, (blk_cell HX.out.b 1).trans rfl⟩ (fun hHeld => ?_)
    generalize wy.drew = wd at HS HX HF hHeld ⊢
    refine pure_ (i := 1) (N := some 60) (v := ?_) (a' := ?_) #[false, true, false, false, false, false, false, false, false] rfl rfl (by kernel_rfl) (fun _ _ _ h => h) (Or.inl ⟨by rfl, ?_⟩) ?_ ?_
    rotate_left
    · intro w'
      go_simp
      with_reducible rfl
    rotate_left
    · simp only [Act.put, List.setIfInBounds_toArray, List.set_cons_zero, List.set_cons_succ, i64_w, i32_w]
      rfl
    refine take_ (i := 4) (N := some 63) (v := ?_) (a' := ?_) #[false, true, false, false, true, false, false, false, false] rfl rfl (by kernel_rfl) (fun _ _ _ h => h) (Or.inl ⟨by rfl, ?_⟩) hHeld ?_ ?_
    rotate_left
    · rintro w' ⟨s0, s1⟩
      go_simp
      with_reducible rfl
    rotate_left
    · simp only [Act.put, List.setIfInBounds_toArray, List.set_cons_zero, List.set_cons_succ, i64_w, i32_w]
      rfl
    refine join_ (σ := Nat × Nat) 1 #[true, true, true, true, true, true, true, true, false] (fun s => [(59, .slice (some ⟨s.1, 0, none⟩) 3 3), (61, .pointer (some ⟨s.1, 2, none⟩)), (62, .int .i64 2), (64, .slice (some ⟨s.2, 0, none⟩) 1 1), (65, .agg #[.int .i64 0, .slice (some ⟨s.2, 0, none⟩) 1 1]), (6, .int .i64 2)]) (fun s w' => Bs Q W w' g3 g4 g7 n0 n1 n2 n3 (some ad) 1 c3 m0 m1 (some ae) cm ∧ FM w' (fun k => Q k ∧ k ≠ g7) (some ⟨s.2, 0, none⟩) [(⟨k0, k1⟩ : Md)]) ?_ ?_
    rotate_left
    · intro hCont
      refine two_ (i := 0) (j := 5) (Ni := some 59) (Nj := some 64) #[true, true, false, false, true, false, false, false, false] #[false, true, false, false, true, true, false, false, false] rfl rfl rfl rfl (by kernel_rfl) (by decide) (by decide) (fun K hK => ?_) (fun K hK => ?_)
      · skip
        refine row_step (by rfl) rfl (cs := #[.int .i64 1, .int .i64 0, .int .i64 2]) (t := 3) (n := 3) ?_ ?_
        · first | (go_simp; done) | (go_simp; rfl)
        intro ga hg wa hbox hb
        have BR := Aside0.mk hbox
        have HS := Aside0.mk (HS.out.below hb)
        have HX := Aside0.mk (HX.out.below hb)
        have HF := Aside0.mk (Kd.F_below HF.out hb)
        clear hg hbox hb
        refine hK.out _ _ ⟨(blk_cell HX.out.b 0).trans rfl, (blk_cell HX.out.b 1).trans rfl⟩ (fun hHeld => ?_)
        clear hK K
        refine norm_ (a' := ?_) ?_ ?_
        rotate_left
        · show Act.put _ (some 59) _ = _
          simp only [Act.put, List.setIfInBounds_toArray, List.set_cons_zero, List.set_cons_succ, i64_w, i32_w]
          rfl
        refine pure_ (i := 2) (N := some 61) (v := ?_) (a' := ?_) #[true, true, true, false, true, false, false, false, false] rfl rfl (by kernel_rfl) (fun _ _ _ h => h) (Or.inl ⟨by rfl, ?_⟩) ?_ ?_
        rotate_left
        · intro w'
          go_simp
          with_reducible rfl
        rotate_left
        · simp only [Act.put, List.setIfInBounds_toArray, List.set_cons_zero, List.set_cons_succ, i64_w, i32_w]
          rfl
        refine two_ (i := 3) (j := 5) (Ni := some 62) (Nj := some 64) #[true, true, true, true, true, false, false, false, false] #[true, true, true, false, true, true, false, false, false] rfl rfl rfl rfl (by kernel_rfl) (by decide) (by decide) (fun K hK => ?_) (fun K hK => ?_)
        · skip
          have cr := (blk_cell BR.out 2).trans rfl
          refine value_ (w1 := ?_) (v := ?_) (by rfl) rfl ?_ ?_
          rotate_left 2
          · go_simp
            constructor
            · rfl
            · rfl
          refine hK.out _ _ ⟨(blk_cell HX.out.b 0).trans rfl, (blk_cell HX.out.b 1).trans rfl⟩ (fun hHeld => ?_)
          clear hK K
          refine norm_ (a' := ?_) ?_ ?_
          rotate_left
          · show Act.put _ (some 62) _ = _
            simp only [Act.put, List.setIfInBounds_toArray, List.set_cons_zero, List.set_cons_succ, i64_w, i32_w]
            rfl
          refine pure_ (i := 7) (N := some 6) (v := ?_) (a' := ?_) #[true, true, true, true, true, false, false, true, false] rfl rfl (by kernel_rfl) (fun _ _ _ h => h) (Or.inl ⟨by rfl, ?_⟩) ?_ ?_
          rotate_left
          · intro w'
            go_simp
            with_reducible rfl
          rotate_left
          · simp only [Act.put, List.setIfInBounds_toArray, List.set_cons_zero, List.set_cons_succ, i64_w, i32_w]
            rfl
          refine one_ (i := 5) (N := some 64) #[true, true, true, true, true, true, false, true, false] rfl rfl (by kernel_rfl) (by decide) (fun K hK => ?_)
          refine row_step (by rfl) rfl (cs := #[.int .i64 k0, .slice Ak k1.length ck]) (t := 40) (n := 1) ?_ ?_
          · first | (go_simp; done) | (go_simp; rfl)
          intro gk hg wb hbox hb
          have HV := Aside0.mk (one_row (q := fun k => Q k ∧ k ≠ g7) (x := ⟨k0, k1⟩) (Kd.F_mono (Kd.F_below HF.out hb) fun _ hk => hk.1) HCK.out hbox (HS.out.free HQ.out gk (Nat.le_of_eq hg.symm)))
          have BR := Aside0.mk (blk_below BR.out hb)
          have HS := Aside0.mk (HS.out.below hb)
          have HX := Aside0.mk (HX.out.below hb)
          have HF := Aside0.mk (Kd.F_below HF.out hb)
          clear hg hbox hb
          refine hK.out _ _ ⟨(blk_cell HX.out.b 0).trans rfl, (blk_cell HX.out.b 1).trans rfl⟩ (fun hHeld => ?_)
          clear hK K
          refine norm_ (a' := ?_) ?_ ?_
          rotate_left
          · show Act.put _ (some 64) _ = _
            simp only [Act.put, List.setIfInBounds_toArray, List.set_cons_zero, List.set_cons_succ, i64_w, i32_w]
            rfl
          refine pure_ (i := 6) (N := some 65) (v := ?_) (a' := ?_) #[true, true, true, true, true, true, true, true, false] rfl rfl (by kernel_rfl) (fun _ _ _ h => h) (Or.inl ⟨by rfl, ?_⟩) ?_ ?_
          rotate_left
          · intro w'
            go_simp
            with_reducible rfl
          rotate_left
          · simp only [Act.put, List.setIfInBounds_toArray, List.set_cons_zero, List.set_cons_succ, i64_w, i32_w]
            rfl
          exact norm_ (by simp only [putAll, Act.put, List.setIfInBounds_toArray, List.set_cons_zero, List.set_cons_succ]) (hCont (ga, gk) _ ⟨HS.out, HV.out⟩)
        · skip
          refine row_step (by rfl) rfl (cs := #[.int .i64 k0, .slice Ak k1.length ck]) (t := 40) (n := 1) ?_ ?_
          · first | (go_simp; done) | (go_simp; rfl)
          intro gk hg wb hbox hb
          have HV := Aside0.mk (one_row (q := fun k => Q k ∧ k ≠ g7) (x := ⟨k0, k1⟩) (Kd.F_mono (Kd.F_below HF.out hb) fun _ hk => hk.1) HCK.out hbox (HS.out.free HQ.out gk (Nat.le_of_eq hg.symm)))
          have BR := Aside0.mk (blk_below BR.out hb)
          have HS := Aside0.mk (HS.out.below hb)
          have HX := Aside0.mk (HX.out.below hb)
          have HF := Aside0.mk (Kd.F_below HF.out hb)
          clear hg hbox hb
          refine hK.out _ _ ⟨(blk_cell HX.out.b 0).trans rfl, (blk_cell HX.out.b 1).trans rfl⟩ (fun hHeld => ?_)
          clear hK K
          refine norm_ (a' := ?_) ?_ ?_
          rotate_left
          · show Act.put _ (some 64) _ = _
            simp only [Act.put, List.setIfInBounds_toArray, List.set_cons_zero, List.set_cons_succ, i64_w, i32_w]
            rfl
          refine pure_ (i := 6) (N := some 65) (v := ?_) (a' := ?_) #[true, true, true, false, true, true, true, false, false] rfl rfl (by kernel_rfl) (fun _ _ _ h => h) (Or.inl ⟨by rfl, ?_⟩) ?_ ?_
          rotate_left
          · intro w'
            go_simp
            with_reducible rfl
          rotate_left
          · simp only [Act.put, List.setIfInBounds_toArray, List.set_cons_zero, List.set_cons_succ, i64_w, i32_w]
            rfl
          refine one_ (i := 3) (N := some 62) #[true, true, true, true, true, true, true, false, false] rfl rfl (by kernel_rfl) (by decide) (fun K hK => ?_)
          have cr := (blk_cell BR.out 2).trans rfl
          refine value_ (w1 := ?_) (v := ?_) (by rfl) rfl ?_ ?_
          rotate_left 2
          · go_simp
            constructor
            · rfl
            · rfl
          refine hK.out _ _ ⟨(blk_cell HX.out.b 0).trans rfl, (blk_cell HX.out.b 1).trans rfl⟩ (fun hHeld => ?_)
          clear hK K
          refine norm_ (a' := ?_) ?_ ?_
          rotate_left
          · show Act.put _ (some 62) _ = _
            simp only [Act.put, List.setIfInBounds_toArray, List.set_cons_zero, List.set_cons_succ, i64_w, i32_w]
            rfl
          refine pure_ (i := 7) (N := some 6) (v := ?_) (a' := ?_) #[true, true, true, true, true, true, true, true, false] rfl rfl (by kernel_rfl) (fun _ _ _ h => h) (Or.inl ⟨by rfl, ?_⟩) ?_ ?_
          rotate_left
          · intro w'
            go_simp
            with_reducible rfl
          rotate_left
          · simp only [Act.put, List.setIfInBounds_toArray, List.set_cons_zero, List.set_cons_succ, i64_w, i32_w]
            rfl
          exact norm_ (by simp only [putAll, Act.put, List.setIfInBounds_toArray, List.set_cons_zero, List.set_cons_succ]) (hCont (ga, gk) _ ⟨HS.out, HV.out⟩)
      · skip
        refine row_step (by rfl) rfl (cs := #[.int .i64 k0, .slice Ak k1.length ck]) (t := 40) (n := 1) ?_ ?_
        · first | (go_simp; done) | (go_simp; rfl)
        intro gk hg wb hbox hb
        have HV := Aside0.mk (one_row (q := fun k => Q k ∧ k ≠ g7) (x := ⟨k0, k1⟩) (Kd.F_mono (Kd.F_below HF.out hb) fun _ hk => hk.1) HCK.out hbox (HS.out.free HQ.out gk (Nat.le_of_eq hg.symm)))
        have HS := Aside0.mk (HS.out.below hb)
        have HX := Aside0.mk (HX.out.below hb)
        have HF := Aside0.mk (Kd.F_below HF.out hb)
        clear hg hbox hb
        refine hK.out _ _ ⟨(blk_cell HX.out.b 0).trans rfl, (blk_cell HX.out.b 1).trans rfl⟩ (fun hHeld => ?_)
        clear hK K
        refine norm_ (a' := ?_) ?_ ?_
        rotate_left
        · show Act.put _ (some 64) _ = _
          simp only [Act.put, List.setIfInBounds_toArray, List.set_cons_zero, List.set_cons_succ, i64_w, i32_w]
          rfl
        refine pure_ (i := 6) (N := some 65) (v := ?_) (a' := ?_) #[false, true, false, false, true, true, true, false, false] rfl rfl (by kernel_rfl) (fun _ _ _ h => h) (Or.inl ⟨by rfl, ?_⟩) ?_ ?_
        rotate_left
        · intro w'
          go_simp
          with_reducible rfl
        rotate_left
        · simp only [Act.put, List.setIfInBounds_toArray, List.set_cons_zero, List.set_cons_succ, i64_w, i32_w]
          rfl
        refine one_ (i := 0) (N := some 59) #[true, true, false, false, true, true, true, false, false] rfl rfl (by kernel_rfl) (by decide) (fun K hK => ?_)
        refine row_step (by rfl) rfl (cs := #[.int .i64 1, .int .i64 0, .int .i64 2]) (t := 3) (n := 3) ?_ ?_
        · first | (go_simp; done) | (go_simp; rfl)
        intro ga hg wa hbox hb
        have BR := Aside0.mk hbox
        have HV := Aside0.mk (Kd.F_below HV.out hb)
        have HS := Aside0.mk (HS.out.below hb)
        have HX := Aside0.mk (HX.out.below hb)
        have HF := Aside0.mk (Kd.F_below HF.out hb)
        clear hg hbox hb
        refine hK.out _ _ ⟨(blk_cell HX.out.b 0).trans rfl, (blk_cell HX.out.b 1).trans rfl⟩ (fun hHeld => ?_)
        clear hK K
        refine norm_ (a' := ?_) ?_ ?_
        rotate_left
        · show Act.put _ (some 59) _ = _
          simp only [Act.put, List.setIfInBounds_toArray, List.set_cons_zero, List.set_cons_succ, i64_w, i32_w]
          rfl
        refine pure_ (i := 2) (N := some 61) (v := ?_) (a' := ?_) #[true, true, true, false, true, true, true, false, false] rfl rfl (by kernel_rfl) (fun _ _ _ h => h) (Or.inl ⟨by rfl, ?_⟩) ?_ ?_
        rotate_left
        · intro w'
          go_simp
          with_reducible rfl
        rotate_left
        · simp only [Act.put, List.setIfInBounds_toArray, List.set_cons_zero, List.set_cons_succ, i64_w, i32_w]
          rfl
        refine one_ (i := 3) (N := some 62) #[true, true, true, true, true, true, true, false, false] rfl rfl (by kernel_rfl) (by decide) (fun K hK => ?_)
        have cr := (blk_cell BR.out 2).trans rfl
        refine value_ (w1 := ?_) (v := ?_) (by rfl) rfl ?_ ?_
        rotate_left 2
        · go_simp
          constructor
          · rfl
          · rfl
        refine hK.out _ _ ⟨(blk_cell HX.out.b 0).trans rfl, (blk_cell HX.out.b 1).trans rfl⟩ (fun hHeld => ?_)
        clear hK K
        refine norm_ (a' := ?_) ?_ ?_
        rotate_left
        · show Act.put _ (some 62) _ = _
          simp only [Act.put, List.setIfInBounds_toArray, List.set_cons_zero, List.set_cons_succ, i64_w, i32_w]
          rfl
        refine pure_ (i := 7) (N := some 6) (v := ?_) (a' := ?_) #[true, true, true, true, true, true, true, true, false] rfl rfl (by kernel_rfl) (fun _ _ _ h => h) (Or.inl ⟨by rfl, ?_⟩) ?_ ?_
        rotate_left
        · intro w'
          go_simp
          with_reducible rfl
        rotate_left
        · simp only [Act.put, List.setIfInBounds_toArray, List.set_cons_zero, List.set_cons_succ, i64_w, i32_w]
          rfl
        exact norm_ (by simp only [putAll, Act.put, List.setIfInBounds_toArray, List.set_cons_zero, List.set_cons_succ]) (hCont (ga, gk) _ ⟨HS.out, HV.out⟩)
    rintro ⟨ga, gk⟩ wx ⟨hs_, hv_⟩
    have HS := Aside0.mk hs_
    have HV := Aside0.mk hv_
    clear hs_ hv_
    refine norm_ (a' := ?_) ?_ ?_
    rotate_left
    · simp only [putAll, Act.put, List.setIfInBounds_toArray, List.set_cons_zero, List.set_cons_succ]
      rfl
    refine last_ (i := 8) (N := none) #[true, true, true, true, true, true, true, true, true] rfl rfl (by kernel_rfl) (by decide) (fun K hK => ?_)
    have cz0 := (blk_cell HS.out.b7 0).trans rfl
    have cz1 := (blk_cell HS.out.b7 1).trans rfl
    have fz0 := blk_frozen HS.out.b7 0
    have fz1 := blk_frozen HS.out.b7 1
    refine skip_ (w1 := ?_) (by rfl) rfl ?_ ?_
    rotate_left
    · go_simp
      rfl
    refine hK.out _ _ ?_
    clear hK K
    refine done_ (by kernel_rfl) ?_
    try go_wp2
    refine bodyPost_ret (results_tc rfl _ _ g7 40 #[.int .i64 0, .slice (some ⟨gk, 0, none⟩) 1 1] (0, 0) _ rfl (put2 HS.out.b7 _ _) Try.underlying40 rfl (by kernel_rfl)) rfl ?_
    exact HS.out.fin (l := [(⟨k0, k1⟩ : Md)]) HV.out (Nat.le_refl _) _ _
set_option maxHeartbeats 8000000 in
set_option maxRecDepth 100000 in
theorem think_again2 (hL : n3.length = L) (hLm : m1.length = L) (hP : Pure W g lb fn an0) (hc3 : L ≤ c3) (hcm : L ≤ cm) (hT : Tr W Al A3 n3) (hM : FM W Q Am m1) (hQ : ∀ k, W.heap.size ≤ k → Q k) (hL1 : L = 1) {z : Int × Md × Unit} {x : Nd} {y : Md} (hx : rdN n3 0 = x) (hy : rdM m1 0 = y) (hz : ThinkC an0 z x y) {kb : Nat} {bl : List Md} (hbl : tourref5_Blank.f kb n0 n1 n2 n3 = some (0, bl)) (hbll : bl.length = L) (e0 : z.1 = 2) (e : n0 = 6) :
    Calls Try.prog 18 #[.agg #[.int .i64 n0, .string n1, .int .i64 n2, .slice A3 L c3], .agg #[.int .i64 m0, .slice Am L cm], .func (.func g) #[] lb] W fun e w' => Ret Q W w' e 2 m0 [z.2.1] := by
  subst hL1
  obtain ⟨r, ⟨k0, k1⟩, u⟩ := z
  have HBL := Aside0.mk hbl
  have HBLL := Aside0.mk hbll
  clear hbl hbll
  have HZ := Aside0.mk hz
  clear hz
  have HL := Aside0.mk hL
  have HLm := Aside0.mk hLm
  have HP := Aside0.mk hP
  have HC3 := Aside0.mk hc3
  have HCM := Aside0.mk hcm
  have HT := Aside0.mk hT
  have HM := Aside0.mk hM
  have HQ := Aside0.mk hQ
  clear hL hLm hP hc3 hcm hT hM hQ
  have Bk1 : (n0 == 1) = false := beqF (by omega)
  have Bk2 : (n0 == 2) = false := beqF (by omega)
  have Bk5 : (n0 == 5) = false := beqF (by omega)
  have Bk6 : (n0 == 6) = true := beqT e
  go_enter Try.func18, Try.ntmps18
  go_upto_region 13 with (first | ((with_reducible refine gate_dst (N := 3) rfl ?_); refine box_event ?hg (N := 3) ?hd (cs := #[.int .i64 n0, .string n1, .int .i64 n2, .slice A3 1 c3]) (t := 25) ?hr ?_; (case hd => rfl); (case hg => rfl); (case hr => first | (go_simp; done) | (go_simp; rfl)); intro g3 hg w1 hbox hb; have E3 := Aside0.mk hg; have BK3 := Aside0.mk hbox; have HB1 := Aside0.mk hb; clear hg hbox hb) | ((with_reducible refine gate_dst (N := 4) rfl ?_); refine box_event ?hg (N := 4) ?hd (cs := #[.int .i64 m0, .slice Am 1 cm]) (t := 40) ?hr ?_; (case hd => rfl); (case hg => rfl); (case hr => first | (go_simp; done) | (go_simp; rfl)); intro g4 hg w2 hbox hb; have E4 := Aside0.mk hg; have BK4 := Aside0.mk hbox; have HB2 := Aside0.mk hb; clear hg hbox hb) | ((with_reducible refine gate_dst (N := 7) rfl ?_); refine box_event ?hg (N := 7) ?hd (cs := #[.int .i64 0, .slice none 0 0]) (t := 40) ?hr ?_; (case hd => rfl); (case hg => rfl); (case hr => first | (go_simp; done) | (go_simp; rfl)); intro g7 hg w3 hbox hb; have HS := Aside0.mk (show Bs Q W w3 g3 g4 g7 n0 n1 n2 n3 A3 1 c3 m0 m1 Am cm from Bs.start HT.out HM.out E3.out BK3.out HB1.out E4.out BK4.out HB2.out hg hbox hb); clear hg hbox hb E3 BK3 HB1 E4 BK4 HB2; have c30 := (blk_cell HS.out.b3 0).trans rfl; have c31 := (blk_cell HS.out.b3 1).trans rfl; have c32 := (blk_cell HS.out.b3 2).trans rfl; have c33 := (blk_cell HS.out.b3 3).trans rfl; have c40 := (blk_cell HS.out.b4 0).trans rfl; have c41 := (blk_cell HS.out.b4 1).trans rfl))
  clear c30 c31 c32 c33 c40 c41
  have HS := Aside0.mk HS.out.drew
  obtain ⟨ad, A4, c4, rfl, hc4, hT4, hcell⟩ := Tr.elem0 HS.out.tn (by rw [HL.out]; decide)
  obtain ⟨ae, A5, c5, rfl, hc5, hM5, y0, y1⟩ := FM.elem0 HS.out.mind (by rw [HLm.out]; decide)
  obtain ⟨x0, x1, x2, x3⟩ := hcell w3.drew (fun _ _ _ => rfl)
  rw [hx] at hc4 hT4 x0 x1 x2 x3
  rw [hy] at hc5 hM5 y0 y1
  have X0 := Aside0.mk x0
  have X1 := Aside0.mk x1
  have X2 := Aside0.mk x2
  have X3 := Aside0.mk x3
  have X4 := Aside0.mk y0
  have X5 := Aside0.mk y1
  have HC4 := Aside0.mk hc4
  have HC5 := Aside0.mk hc5
  have HT4 := Aside0.mk hT4
  have HM5 := Aside0.mk hM5
  clear x0 x1 x2 x3 y0 y1 hc4 hc5 hT4 hM5 hcell
  refine start_ (n := 16) (S := fun w' => w'.cell? ⟨g3, 3, none⟩ = some (.slice (some ad) 1 c3) ∧ w'.cell? ⟨g4, 1, none⟩ = some (.slice (some ae) 1 cm) ∧ w'.cell? ad = some (.int .i64 x.f0) ∧ w'.cell? ⟨ad.block, ad.off + 1, none⟩ = some (.string x.f1) ∧ w'.cell? ⟨ad.block, ad.off + 2, none⟩ = some (.int .i64 x.f2) ∧ w'.cell? ⟨ad.block, ad.off + 3, none⟩ = some (.slice A4 x.f3.length c4) ∧ w'.cell? ae = some (.int .i64 y.f0) ∧ w'.cell? ⟨ae.block, ae.off + 1, none⟩ = some (.slice A5 y.f1.length c5)) (ds := [15]) #[false, false, false, false, false, false, false, false, false, false, false, false, false, false, false, false] (by kernel_rfl) rfl rfl ⟨(blk_cell HS.out.b3 3).trans rfl, (blk_cell HS.out.b4 1).trans rfl, X0.out, X1.out, X2.out, X3.out, X4.out, X5.out⟩ (fun hHeld => ?_)
  generalize w3.drew = wd at HS X0 X1 X2 X3 X4 X5 HT4 HM5 hHeld ⊢
  refine pure_ (i := 0) (N := some 69) (v := ?_) (a' := ?_) #[true, false, false, false, false, false, false, false, false, false, false, false, false, false, false, false] rfl rfl (by kernel_rfl) (fun _ _ _ h => h) (Or.inl ⟨by rfl, ?_⟩) ?_ ?_
  rotate_left
  · intro w'
    go_simp
    with_reducible rfl
  rotate_left
  · simp only [Act.put, List.setIfInBounds_toArray, List.set_cons_zero, List.set_cons_succ, i64_w, i32_w]
    rfl
  refine pure_ (i := 4) (N := some 73) (v := ?_) (a' := ?_) #[true, false, false, false, true, false, false, false, false, false, false, false, false, false, false, false] rfl rfl (by kernel_rfl) (fun _ _ _ h => h) (Or.inl ⟨by rfl, ?_⟩) ?_ ?_
  rotate_left
  · intro w'
    go_simp
    with_reducible rfl
  rotate_left
  · simp only [Act.put, List.setIfInBounds_toArray, List.set_cons_zero, List.set_cons_succ, i64_w, i32_w]
    rfl
  refine pure_ (i := 8) (N := some 77) (v := ?_) (a' := ?_) #[true, false, false, false, true, false, false, false, true, false, false, false, false, false, false, false] rfl rfl (by kernel_rfl) (fun _ _ _ h => h) (Or.inl ⟨by rfl, ?_⟩) ?_ ?_
  rotate_left
  · intro w'
    go_simp
    with_reducible rfl
  rotate_left
  · simp only [Act.put, List.setIfInBounds_toArray, List.set_cons_zero, List.set_cons_succ, i64_w, i32_w]
    rfl
  refine take_ (i := 1) (N := some 70) (v := ?_) (a' := ?_) #[true, true, false, false, true, false, false, false, true, false, false, false, false, false, false, false] rfl rfl (by kernel_rfl) (fun _ _ _ h => h) (Or.inl ⟨by rfl, ?_⟩) hHeld ?_ ?_
  rotate_left
  · rintro w' ⟨s0, s1, s2, s3, s4, s5, s6, s7⟩
    go_simp
    with_reducible rfl
  rotate_left
  · simp only [Act.put, List.setIfInBounds_toArray, List.set_cons_zero, List.set_cons_succ, i64_w, i32_w]
    rfl
  refine pure_ (i := 2) (N := some 71) (v := ?_) (a' := ?_) #[true, true, true, false, true, false, false, false, true, false, false, false, false, false, false, false] rfl rfl (by kernel_rfl) (fun _ _ _ h => h) (Or.inl ⟨by rfl, ?_⟩) ?_ ?_
  rotate_left
  · intro w'
    go_simp
    with_reducible rfl
  rotate_left
  · simp only [Act.put, List.setIfInBounds_toArray, List.set_cons_zero, List.set_cons_succ, i64_w, i32_w]
    rfl
  refine take_ (i := 3) (N := some 72) (v := ?_) (a' := ?_) #[true, true, true, true, true, false, false, false, true, false, false, false, false, false, false, false] rfl rfl (by kernel_rfl) (fun _ _ _ h => h) (Or.inl ⟨by rfl, ?_⟩) hHeld ?_ ?_
  rotate_left
  · rintro w' ⟨s0, s1, s2, s3, s4, s5, s6, s7⟩
    go_simp
    with_reducible rfl
  rotate_left
  · simp only [Act.put, List.setIfInBounds_toArray, List.set_cons_zero, List.set_cons_succ, i64_w, i32_w]
    rfl
  refine take_ (i := 5) (N := some 74) (v := ?_) (a' := ?_) #[true, true, true, true, true, true, false, false, true, false, false, false, false, false, false, false] rfl rfl (by kernel_rfl) (fun _ _ _ h => h) (Or.inl ⟨by rfl, ?_⟩) hHeld ?_ ?_
  rotate_left
  · rintro w' ⟨s0, s1, s2, s3, s4, s5, s6, s7⟩
    go_simp
    with_reducible rfl
  rotate_left
  · simp only [Act.put, List.setIfInBounds_toArray, List.set_cons_zero, List.set_cons_succ, i64_w, i32_w]
    rfl
  refine pure_ (i := 6) (N := some 75) (v := ?_) (a' := ?_) #[true, true, true, true, true, true, true, false, true, false, false, false, false, false, false, false] rfl rfl (by kernel_rfl) (fun _ _ _ h => h) (Or.inl ⟨by rfl, ?_⟩) ?_ ?_
  rotate_left
  · intro w'
    go_simp
    with_reducible rfl
  rotate_left
  · simp only [Act.put, List.setIfInBounds_toArray, List.set_cons_zero, List.set_cons_succ, i64_w, i32_w]
    rfl
  refine take_ (i := 7) (N := some 76) (v := ?_) (a' := ?_) #[true, true, true, true, true, true, true, true, true, false, false, false, false, false, false, false] rfl rfl (by kernel_rfl) (fun _ _ _ h => h) (Or.inl ⟨by rfl, ?_⟩) hHeld ?_ ?_
  rotate_left
  · rintro w' ⟨s0, s1, s2, s3, s4, s5, s6, s7⟩
    go_simp
    with_reducible rfl
  rotate_left
  · simp only [Act.put, List.setIfInBounds_toArray, List.set_cons_zero, List.set_cons_succ, i64_w, i32_w]
    rfl
  refine join_ (σ := Nat × Option Addr × Nat) 2 #[true, true, true, true, true, true, true, true, true, true, true, true, true, true, false, false] (fun s => [(78, .tuple #[.int .i64 r, .agg #[.int .i64 k0, .slice s.2.1 k1.length s.2.2]]), (68, .tuple #[.int .i64 r, .agg #[.int .i64 k0, .slice s.2.1 k1.length s.2.2]]), (79, .int .i64 r), (80, .agg #[.int .i64 k0, .slice s.2.1 k1.length s.2.2]), (12, .pointer (some ⟨s.1, 0, none⟩))]) (fun s w' => Fk Q (fun _ => True) W g3 g4 g7 n0 n1 n2 n3 (some ad) 1 c3 m0 m1 (some ae) cm k1 s w') ?_ ?_
  rotate_left
  · intro hCont
    refine two_ (i := 9) (j := 13) (Ni := some 78) (Nj := some 12) #[true, true, true, true, true, true, true, true, true, true, false, false, false, false, false, false] #[true, true, true, true, true, true, true, true, true, false, false, false, false, true, false, false] rfl rfl rfl rfl (by kernel_rfl) (by decide) (by decide) (fun K hK => ?_) (fun K hK => ?_)
    · skip
      refine goes_ Try.func18 (by kernel_rfl) rfl #[.agg #[.int .i64 x.f0, .string x.f1, .int .i64 x.f2, .slice A4 x.f3.length c4], .agg #[.int .i64 y.f0, .slice A5 y.f1.length c5], .func (.func g) #[] lb] (by rfl) rfl rfl (by simp only [List.map_toArray, List.map_cons, List.map_nil]; rfl) ?_
      refine (ThinkC.within HZ.out HS.out HQ.out (q := fun _ => True) (fun k hk => trivial) HP.out HC4.out HC5.out HT4.out HM5.out).mono ?_
      rintro e wb ⟨Ak, ck, rfl, hck, hFk, hb⟩
      refine ⟨_, rfl, ?_⟩
      have HS := Aside0.mk (HS.out.below hb)
      have X0 := Aside0.mk (cellB hb X0.out)
      have X1 := Aside0.mk (cellB hb X1.out)
      have X2 := Aside0.mk (cellB hb X2.out)
      have X3 := Aside0.mk (cellB hb X3.out)
      have X4 := Aside0.mk (cellB hb X4.out)
      have X5 := Aside0.mk (cellB hb X5.out)
      have HT4 := Aside0.mk (Kd.F_below HT4.out hb)
      have HM5 := Aside0.mk (Kd.F_below HM5.out hb)
      have HF := Aside0.mk hFk
      have HCK := Aside0.mk hck
      clear hck hFk hb
      refine hK.out _ _ ⟨(blk_cell HS.out.b3 3).trans rfl, (blk_cell HS.out.b4 1).trans rfl, X0.out, X1.out, X2.out, X3.out, X4.out, X5.out⟩ (fun hHeld => ?_)
      clear hK K
      refine norm_ (a' := ?_) ?_ ?_
      rotate_left
      · show Act.put _ (some 78) _ = _
        simp only [Act.put, List.setIfInBounds_toArray, List.set_cons_zero, List.set_cons_succ, i64_w, i32_w]
        rfl
      refine pure_ (i := 10) (N := some 68) (v := ?_) (a' := ?_) #[true, true, true, true, true, true, true, true, true, true, true, false, false, false, false, false] rfl rfl (by kernel_rfl) (fun _ _ _ h => h) (Or.inl ⟨by rfl, ?_⟩) ?_ ?_
      rotate_left
      · intro w'
        go_simp
        with_reducible rfl
      rotate_left
      · simp only [Act.put, List.setIfInBounds_toArray, List.set_cons_zero, List.set_cons_succ, i64_w, i32_w]
        rfl
      refine pure_ (i := 11) (N := some 79) (v := ?_) (a' := ?_) #[true, true, true, true, true, true, true, true, true, true, true, true, false, false, false, false] rfl rfl (by kernel_rfl) (fun _ _ _ h => h) (Or.inl ⟨by rfl, ?_⟩) ?_ ?_
      rotate_left
      · intro w'
        go_simp
        with_reducible rfl
      rotate_left
      · simp only [Act.put, List.setIfInBounds_toArray, List.set_cons_zero, List.set_cons_succ, i64_w, i32_w]
        rfl
      refine pure_ (i := 12) (N := some 80) (v := ?_) (a' := ?_) #[true, true, true, true, true, true, true, true, true, true, true, true, true, false, false, false] rfl rfl (by kernel_rfl) (fun _ _ _ h => h) (Or.inl ⟨by rfl, ?_⟩) ?_ ?_
      rotate_left
      · intro w'
        go_simp
        with_reducible rfl
      rotate_left
      · simp only [Act.put, List.setIfInBounds_toArray, List.set_cons_zero, List.set_cons_succ, i64_w, i32_w]
        rfl
      refine one_ (i := 13) (N := some 12) #[true, true, true, true, true, true, true, true, true, true, true, true, true, true, false, false] rfl rfl (by kernel_rfl) (by decide) (fun K hK => ?_)
      refine boxN_step (by rfl) rfl (cs := #[.int .i64 0, .slice none 0 0]) (t := 40) ?_ ?_
      · first | (go_simp; done) | (go_simp; rfl)
      intro g12 hg wa hbox hb
      have HX := Aside0.mk (HS.out.new (Nat.le_of_eq hg.symm) hbox)
      have HF := Aside0.mk (Kd.F_below (Kd.F_elderB HF.out g12 (Nat.le_of_eq hg.symm)) hb)
      have HS := Aside0.mk (HS.out.below hb)
      have X0 := Aside0.mk (cellB hb X0.out)
      have X1 := Aside0.mk (cellB hb X1.out)
      have X2 := Aside0.mk (cellB hb X2.out)
      have X3 := Aside0.mk (cellB hb X3.out)
      have X4 := Aside0.mk (cellB hb X4.out)
      have X5 := Aside0.mk (cellB hb X5.out)
      have HT4 := Aside0.mk (Kd.F_below HT4.out hb)
      have HM5 := Aside0.mk (Kd.F_below HM5.out hb)
      clear hg hbox hb
      refine hK.out _ _ ⟨(blk_cell HS.out.b3 3).trans rfl, (blk_cell HS.out.b4 1).trans rfl, X0.out, X1.out, X2.out, X3.out, X4.out, X5.out⟩ (fun hHeld => ?_)
      clear hK K
      refine norm_ (a' := ?_) ?_ ?_
      rotate_left
      · show Act.put _ (some 12) _ = _
        simp only [Act.put, List.setIfInBounds_toArray, List.set_cons_zero, List.set_cons_succ, i64_w, i32_w]
        rfl
      exact norm_ (by simp only [putAll, Act.put, List.setIfInBounds_toArray, List.set_cons_zero, List.set_cons_succ]) (hCont (g12, Ak, ck) _ ⟨HS.out, HX.out, HCK.out, HF.out⟩)
    · skip
      refine boxN_step (by rfl) rfl (cs := #[.int .i64 0, .slice none 0 0]) (t := 40) ?_ ?_
      · first | (go_simp; done) | (go_simp; rfl)
      intro g12 hg wa hbox hb
      have HX := Aside0.mk (HS.out.new (Nat.le_of_eq hg.symm) hbox)
      have HS := Aside0.mk (HS.out.below hb)
      have X0 := Aside0.mk (cellB hb X0.out)
      have X1 := Aside0.mk (cellB hb X1.out)
      have X2 := Aside0.mk (cellB hb X2.out)
      have X3 := Aside0.mk (cellB hb X3.out)
      have X4 := Aside0.mk (cellB hb X4.out)
      have X5 := Aside0.mk (cellB hb X5.out)
      have HT4 := Aside0.mk (Kd.F_below HT4.out hb)
      have HM5 := Aside0.mk (Kd.F_below HM5.out hb)
      clear hg hbox hb
      refine hK.out _ _ ⟨(blk_cell HS.out.b3 3).trans rfl, (blk_cell HS.out.b4 1).trans rfl, X0.out, X1.out, X2.out, X3.out, X4.out, X5.out⟩ (fun hHeld => ?_)
      clear hK K
      refine norm_ (a' := ?_) ?_ ?_
      rotate_left
      · show Act.put _ (some 12) _ = _
        simp only [Act.put, List.setIfInBounds_toArray, List.set_cons_zero, List.set_cons_succ, i64_w, i32_w]
        rfl
      refine one_ (i := 9) (N := some 78) #[true, true, true, true, true, true, true, true, true, true, false, false, false, true, false, false] rfl rfl (by kernel_rfl) (by decide) (fun K hK => ?_)
      refine goes_ Try.func18 (by kernel_rfl) rfl #[.agg #[.int .i64 x.f0, .string x.f1, .int .i64 x.f2, .slice A4 x.f3.length c4], .agg #[.int .i64 y.f0, .slice A5 y.f1.length c5], .func (.func g) #[] lb] (by rfl) rfl rfl (by simp only [List.map_toArray, List.map_cons, List.map_nil]; rfl) ?_
      refine (ThinkC.within HZ.out HS.out HQ.out (q := fun k => (fun _ => True) k ∧ k ≠ g12) (fun k hk => ⟨trivial, by have h1 := HX.out.wg; have h2 := blk_lt HX.out.b; omega⟩) HP.out HC4.out HC5.out HT4.out HM5.out).mono ?_
      rintro e wb ⟨Ak, ck, rfl, hck, hFk, hb⟩
      refine ⟨_, rfl, ?_⟩
      have HS := Aside0.mk (HS.out.below hb)
      have X0 := Aside0.mk (cellB hb X0.out)
      have X1 := Aside0.mk (cellB hb X1.out)
      have X2 := Aside0.mk (cellB hb X2.out)
      have X3 := Aside0.mk (cellB hb X3.out)
      have X4 := Aside0.mk (cellB hb X4.out)
      have X5 := Aside0.mk (cellB hb X5.out)
      have HT4 := Aside0.mk (Kd.F_below HT4.out hb)
      have HM5 := Aside0.mk (Kd.F_below HM5.out hb)
      have HX := Aside0.mk (HX.out.below hb)
      have HF := Aside0.mk (Kd.F_mono (ok' := fun k => ((Q k ∧ k ≠ g7) ∧ (fun _ => True) k) ∧ k ≠ g12) hFk (fun k hk => ⟨⟨hk.1, hk.2.1⟩, hk.2.2⟩))
      have HCK := Aside0.mk hck
      clear hck hFk hb
      refine hK.out _ _ ⟨(blk_cell HS.out.b3 3).trans rfl, (blk_cell HS.out.b4 1).trans rfl, X0.out, X1.out, X2.out, X3.out, X4.out, X5.out⟩ (fun hHeld => ?_)
      clear hK K
      refine norm_ (a' := ?_) ?_ ?_
      rotate_left
      · show Act.put _ (some 78) _ = _
        simp only [Act.put, List.setIfInBounds_toArray, List.set_cons_zero, List.set_cons_succ, i64_w, i32_w]
        rfl
      refine pure_ (i := 10) (N := some 68) (v := ?_) (a' := ?_) #[true, true, true, true, true, true, true, true, true, true, true, false, false, true, false, false] rfl rfl (by kernel_rfl) (fun _ _ _ h => h) (Or.inl ⟨by rfl, ?_⟩) ?_ ?_
      rotate_left
      · intro w'
        go_simp
        with_reducible rfl
      rotate_left
      · simp only [Act.put, List.setIfInBounds_toArray, List.set_cons_zero, List.set_cons_succ, i64_w, i32_w]
        rfl
      refine pure_ (i := 11) (N := some 79) (v := ?_) (a' := ?_) #[true, true, true, true, true, true, true, true, true, true, true, true, false, true, false, false] rfl rfl (by kernel_rfl) (fun _ _ _ h => h) (Or.inl ⟨by rfl, ?_⟩) ?_ ?_
      rotate_left
      · intro w'
        go_simp
        with_reducible rfl
      rotate_left
      · simp only [Act.put, List.setIfInBounds_toArray, List.set_cons_zero, List.set_cons_succ, i64_w, i32_w]
        rfl
      refine pure_ (i := 12) (N := some 80) (v := ?_) (a' := ?_) #[true, true, true, true, true, true, true, true, true, true, true, true, true, true, false, false] rfl rfl (by kernel_rfl) (fun _ _ _ h => h) (Or.inl ⟨by rfl, ?_⟩) ?_ ?_
      rotate_left
      · intro w'
        go_simp
        with_reducible rfl
      rotate_left
      · simp only [Act.put, List.setIfInBounds_toArray, List.set_cons_zero, List.set_cons_succ, i64_w, i32_w]
        rfl
      exact norm_ (by simp only [putAll, Act.put, List.setIfInBounds_toArray, List.set_cons_zero, List.set_cons_succ]) (hCont (g12, Ak, ck) _ ⟨HS.out, HX.out, HCK.out, HF.out⟩)
  rintro ⟨g12, Ak, ck⟩ wz hFk
  have HFK := Aside0.mk hFk
  clear hFk
  refine norm_ (a' := ?_) ?_ ?_
  rotate_left
  · simp only [putAll, Act.put, List.setIfInBounds_toArray, List.set_cons_zero, List.set_cons_succ]
    rfl
  refine pure_ (i := 14) (N := some 11) (v := ?_) (a' := ?_) #[true, true, true, true, true, true, true, true, true, true, true, true, true, true, true, false] rfl rfl (by kernel_rfl) (fun _ _ _ h => h) (Or.inl ⟨by rfl, ?_⟩) ?_ ?_
  rotate_left
  · intro w'
    go_simp
    with_reducible rfl
  rotate_left
  · simp only [Act.put, List.setIfInBounds_toArray, List.set_cons_zero, List.set_cons_succ, i64_w, i32_w]
    rfl
  refine last_ (i := 15) (N := none) #[true, true, true, true, true, true, true, true, true, true, true, true, true, true, true, true] rfl rfl (by kernel_rfl) (by decide) (fun K hK => ?_)
  have cz0 := (blk_cell HFK.out.2.1.b 0).trans rfl
  have cz1 := (blk_cell HFK.out.2.1.b 1).trans rfl
  have fz0 := blk_frozen HFK.out.2.1.b 0
  have fz1 := blk_frozen HFK.out.2.1.b 1
  refine skip_ (w1 := ?_) (by rfl) rfl ?_ ?_
  rotate_left
  · go_simp
    rfl
  refine hK.out _ _ ?_
  clear hK K
  refine done_ (by kernel_rfl) ?_
  have HP_ := Fk.put HFK.out k0
  have HS := Aside0.mk HP_.1
  have HX := Aside0.mk HP_.2.1
  have HCK := Aside0.mk HP_.2.2.1
  have HF := Aside0.mk HP_.2.2.2
  clear HP_ HFK cz0 cz1 fz0 fz1
  generalize ((wz.setCell ⟨g12, 0, none⟩ (.int .i64 k0)).setCell ⟨g12, 1, none⟩ (.slice Ak k1.length ck)) = wy at HS HX HF ⊢
  have c30 := (blk_cell HS.out.b3 0).trans rfl
  have c31 := (blk_cell HS.out.b3 1).trans rfl
  have c32 := (blk_cell HS.out.b3 2).trans rfl
  have c33 := (blk_cell HS.out.b3 3).trans rfl
  have c40 := (blk_cell HS.out.b4 0).trans rfl
  have c41 := (blk_cell HS.out.b4 1).trans rfl
  go_upto_block 1 with (first | ((with_reducible refine gate_callee (f := 16) rfl ?_); refine goesL_ (some 82) rfl rfl Try.func16 (by kernel_rfl) rfl #[.agg #[.int .i64 6, .string n1, .int .i64 n2, .slice (some ad) 1 c3]] rfl (by (try simp only [zm1, zm2, zm3]); first | done | rfl) ?_; have hcall := blank_call HS.out HQ.out HL.out HC3.out HBL.out HBLL.out; rw [e] at hcall; (refine hcall.mono ?_); clear hcall; rintro e wc ⟨Ab, cb, rfl, hcb, hfb, hgb, hb⟩; refine ⟨_, rfl, ?_⟩; have HOB := Aside0.mk (show 0 < 1 → ∃ gb, Ab = some ⟨gb, 0, none⟩ ∧ OutR Q W wc g3 g4 g7 gb bl from fun hp => (hgb hp).imp fun _ h => ⟨h.1, h.2.2⟩); have HS := Aside0.mk (HS.out.below hb); have HFB := Aside0.mk hfb; have HCB := Aside0.mk hcb; have HX := Aside0.mk (HX.out.below hb); have HF := Aside0.mk (Kd.F_below HF.out hb); clear hcb hfb hgb hb c30 c31 c32 c33 c40 c41) | ((with_reducible refine gate_dst (N := 13) rfl ?_); refine box_event ?hg (N := 13) ?hd (cs := #[.int .i64 0, .slice none 0 0]) (t := 40) ?hr ?_; (case hd => rfl); (case hg => rfl); (case hr => first | (go_simp; done) | (go_simp; rfl)); intro g13 hg wd hbox hb; have HY := Aside0.mk (HS.out.new (Nat.le_of_eq hg.symm) hbox); have HFB := Aside0.mk (Kd.F_below (Kd.F_elderB HFB.out g13 (Nat.le_of_eq hg.symm)) hb); have N12 := Aside0.mk (show g12 ≠ g13 from by have := blk_lt HX.out.b; omega); have HF := Aside0.mk (Kd.F_below (Kd.F_elderB HF.out g13 (Nat.le_of_eq hg.symm)) hb); have HX := Aside0.mk (HX.out.below hb); have HS := Aside0.mk (HS.out.below hb); clear hg hbox hb; have cy0 := (blk_cell HY.out.b 0).trans rfl; have cy1 := (blk_cell HY.out.b 1).trans rfl; have fy0 := blk_frozen HY.out.b 0; have fy1 := blk_frozen HY.out.b 1))
  have HS := Aside0.mk (HS.out.setX HY.out (.int .i64 0) (.slice Ab 1 cb))
  have HX := Aside0.mk ((HX.out.far (p := ⟨g13, 0, none⟩) N12.out (.int .i64 0)).far (p := ⟨g13, 1, none⟩) N12.out (.slice Ab 1 cb))
  have HF := Aside0.mk (Kd.F_mono (ok' := fun k => Q k ∧ k ≠ g7) (Kd.F_far (p := ⟨g13, 1, none⟩) (Kd.F_far (p := ⟨g13, 0, none⟩) HF.out (fun _ hk => hk.2) (.int .i64 0)) (fun _ hk => hk.2) (.slice Ab 1 cb)) (fun _ hk => hk.1.1))
  have HFB := Aside0.mk (Kd.F_far (p := ⟨g13, 1, none⟩) (Kd.F_far (p := ⟨g13, 0, none⟩) HFB.out (fun _ hk => hk.2) (.int .i64 0)) (fun _ hk => hk.2) (.slice Ab 1 cb))
  have HY := Aside0.mk (HY.out.put (.int .i64 0) (.slice Ab 1 cb))
  clear cy0 cy1 fy0 fy1
  generalize ((wd.setCell ⟨g13, 0, none⟩ (.int .i64 0)).setCell ⟨g13, 1, none⟩ (.slice Ab 1 cb)) = we at HS HX HF HFB HY ⊢
  have e0' : r = 2 := e0
  clear e0
  subst e0'
  go_upto_region 16 with (first | fail)
  have HS := Aside0.mk HS.out.drew
  have HX := Aside0.mk HX.out.drew
  have HF := Aside0.mk (Kd.F_drew HF.out)
  refine start_ (n := 7) (S := fun w' => w'.cell? ⟨g4, 0, none⟩ = some (.int .i64 m0) ∧ w'.cell? ⟨g12, 0, none⟩ = some (.int .i64 k0) ∧ w'.cell? ⟨g12, 1, none⟩ = some (.slice Ak k1.length ck)) (ds := [6]) #[false, false, false, false, false, false, false] (by kernel_rfl) rfl rfl ⟨(blk_cell HS.out.b4 0).trans rfl, (blk_cell HX.out.b 0).trans rfl, (blk_cell HX.out.b 1).trans rfl⟩ (fun hHeld => ?_)
  generalize we.drew = wd at HS HX HF hHeld ⊢
  refine pure_ (i := 0) (N := some 86) (v := ?_) (a' := ?_) #[true, false, false, false, false, false, false] rfl rfl (by kernel_rfl) (fun _ _ _ h => h) (Or.inl ⟨by rfl, ?_⟩) ?_ ?_
  rotate_left
  · intro w'
    go_simp
    with_reducible rfl
  rotate_left
  · simp only [Act.put, List.setIfInBounds_toArray, List.set_cons_zero, List.set_cons_succ, i64_w, i32_w]
    rfl
  refine pure_ (i := 5) (N := some 6) (v := ?_) (a' := ?_) #[true, false, false, false, false, true, false] rfl rfl (by kernel_rfl) (fun _ _ _ h => h) (Or.inl ⟨by rfl, ?_⟩) ?_ ?_
  rotate_left
  · intro w'
    go_simp
    with_reducible rfl
  rotate_left
  · simp only [Act.put, List.setIfInBounds_toArray, List.set_cons_zero, List.set_cons_succ, i64_w, i32_w]
    rfl
  refine take_ (i := 1) (N := some 87) (v := ?_) (a' := ?_) #[true, true, false, false, false, true, false] rfl rfl (by kernel_rfl) (fun _ _ _ h => h) (Or.inl ⟨by rfl, ?_⟩) hHeld ?_ ?_
  rotate_left
  · rintro w' ⟨s0, s1, s2⟩
    go_simp
    with_reducible rfl
  rotate_left
  · simp only [Act.put, List.setIfInBounds_toArray, List.set_cons_zero, List.set_cons_succ, i64_w, i32_w]
    rfl
  refine take_ (i := 2) (N := some 88) (v := ?_) (a' := ?_) #[true, true, true, false, false, true, false] rfl rfl (by kernel_rfl) (fun _ _ _ h => h) (Or.inl ⟨by rfl, ?_⟩) hHeld ?_ ?_
  rotate_left
  · rintro w' ⟨s0, s1, s2⟩
    go_simp
    with_reducible rfl
  rotate_left
  · simp only [Act.put, List.setIfInBounds_toArray, List.set_cons_zero, List.set_cons_succ, i64_w, i32_w]
    rfl
  refine one_ (i := 3) (N := some 89) #[true, true, true, true, false, true, false] rfl rfl (by kernel_rfl) (by decide) (fun K hK => ?_)
  refine row_step (by rfl) rfl (cs := #[.int .i64 k0, .slice Ak k1.length ck]) (t := 40) (n := 1) ?_ ?_
  · first | (go_simp; done) | (go_simp; rfl)
  intro gk hg wb hbox hb
  have HV := Aside0.mk (one_row (q := fun k => Q k ∧ k ≠ g7) (x := ⟨k0, k1⟩) (Kd.F_below HF.out hb) HCK.out hbox (HS.out.free HQ.out gk (Nat.le_of_eq hg.symm)))
  have HS := Aside0.mk (HS.out.below hb)
  have HX := Aside0.mk (HX.out.below hb)
  clear hg hbox hb
  refine hK.out _ _ ⟨(blk_cell HS.out.b4 0).trans rfl, (blk_cell HX.out.b 0).trans rfl, (blk_cell HX.out.b 1).trans rfl⟩ (fun hHeld => ?_)
  clear hK K
  refine norm_ (a' := ?_) ?_ ?_
  rotate_left
  · show Act.put _ (some 89) _ = _
    simp only [Act.put, List.setIfInBounds_toArray, List.set_cons_zero, List.set_cons_succ, i64_w, i32_w]
    rfl
  refine pure_ (i := 4) (N := some 90) (v := ?_) (a' := ?_) #[true, true, true, true, true, true, false] rfl rfl (by kernel_rfl) (fun _ _ _ h => h) (Or.inl ⟨by rfl, ?_⟩) ?_ ?_
  rotate_left
  · intro w'
    go_simp
    with_reducible rfl
  rotate_left
  · simp only [Act.put, List.setIfInBounds_toArray, List.set_cons_zero, List.set_cons_succ, i64_w, i32_w]
    rfl
  refine last_ (i := 6) (N := none) #[true, true, true, true, true, true, true] rfl rfl (by kernel_rfl) (by decide) (fun K hK => ?_)
  have cz0 := (blk_cell HS.out.b7 0).trans rfl
  have cz1 := (blk_cell HS.out.b7 1).trans rfl
  have fz0 := blk_frozen HS.out.b7 0
  have fz1 := blk_frozen HS.out.b7 1
  refine skip_ (w1 := ?_) (by rfl) rfl ?_ ?_
  rotate_left
  · go_simp
    rfl
  refine hK.out _ _ ?_
  clear hK K
  refine done_ (by kernel_rfl) ?_
  try go_wp2
  refine bodyPost_ret (results_tc rfl _ _ g7 40 #[.int .i64 m0, .slice (some ⟨gk, 0, none⟩) 1 1] (0, 0) _ rfl (put2 HS.out.b7 _ _) Try.underlying40 rfl (by kernel_rfl)) rfl ?_
  exact HS.out.fin (l := [(⟨k0, k1⟩ : Md)]) HV.out (Nat.le_refl _) _ _
set_option maxHeartbeats 8000000 in
set_option maxRecDepth 100000 in
theorem think_again1 (hL : n3.length = L) (hLm : m1.length = L) (hP : Pure W g lb fn an0) (hc3 : L ≤ c3) (hcm : L ≤ cm) (hT : Tr W Al A3 n3) (hM : FM W Q Am m1) (hQ : ∀ k, W.heap.size ≤ k → Q k) (hL1 : L = 1) {z : Int × Md × Unit} {x : Nd} {y : Md} (hx : rdN n3 0 = x) (hy : rdM m1 0 = y) (hz : ThinkC an0 z x y) {kb : Nat} {bl : List Md} (hbl : tourref5_Blank.f kb n0 n1 n2 n3 = some (0, bl)) (hbll : bl.length = L) (hm0 : 0 ≤ m0) (hm1 : m0 ≤ 1000000) (e0 : z.1 = 1) (hlt : m0 + 1 < n2) (e : n0 = 6) :
    Calls Try.prog 18 #[.agg #[.int .i64 n0, .string n1, .int .i64 n2, .slice A3 L c3], .agg #[.int .i64 m0, .slice Am L cm], .func (.func g) #[] lb] W fun e w' => Ret Q W w' e 2 (m0 + 1) bl := by
  subst hL1
  obtain ⟨r, ⟨k0, k1⟩, u⟩ := z
  have HBL := Aside0.mk hbl
  have HBLL := Aside0.mk hbll
  clear hbl hbll
  have HZ := Aside0.mk hz
  clear hz
  have HL := Aside0.mk hL
  have HLm := Aside0.mk hLm
  have HP := Aside0.mk hP
  have HC3 := Aside0.mk hc3
  have HCM := Aside0.mk hcm
  have HT := Aside0.mk hT
  have HM := Aside0.mk hM
  have HQ := Aside0.mk hQ
  clear hL hLm hP hc3 hcm hT hM hQ
  have Bk1 : (n0 == 1) = false := beqF (by omega)
  have Bk2 : (n0 == 2) = false := beqF (by omega)
  have Bk5 : (n0 == 5) = false := beqF (by omega)
  have Bk6 : (n0 == 6) = true := beqT e
  go_enter Try.func18, Try.ntmps18
  go_upto_region 13 with (first | ((with_reducible refine gate_dst (N := 3) rfl ?_); refine box_event ?hg (N := 3) ?hd (cs := #[.int .i64 n0, .string n1, .int .i64 n2, .slice A3 1 c3]) (t := 25) ?hr ?_; (case hd => rfl); (case hg => rfl); (case hr => first | (go_simp; done) | (go_simp; rfl)); intro g3 hg w1 hbox hb; have E3 := Aside0.mk hg; have BK3 := Aside0.mk hbox; have HB1 := Aside0.mk hb; clear hg hbox hb) | ((with_reducible refine gate_dst (N := 4) rfl ?_); refine box_event ?hg (N := 4) ?hd (cs := #[.int .i64 m0, .slice Am 1 cm]) (t := 40) ?hr ?_; (case hd => rfl); (case hg => rfl); (case hr => first | (go_simp; done) | (go_simp; rfl)); intro g4 hg w2 hbox hb; have E4 := Aside0.mk hg; have BK4 := Aside0.mk hbox; have HB2 := Aside0.mk hb; clear hg hbox hb) | ((with_reducible refine gate_dst (N := 7) rfl ?_); refine box_event ?hg (N := 7) ?hd (cs := #[.int .i64 0, .slice none 0 0]) (t := 40) ?hr ?_; (case hd => rfl); (case hg => rfl); (case hr => first | (go_simp; done) | (go_simp; rfl)); intro g7 hg w3 hbox hb; have HS := Aside0.mk (show Bs Q W w3 g3 g4 g7 n0 n1 n2 n3 A3 1 c3 m0 m1 Am cm from Bs.start HT.out HM.out E3.out BK3.out HB1.out E4.out BK4.out HB2.out hg hbox hb); clear hg hbox hb E3 BK3 HB1 E4 BK4 HB2; have c30 := (blk_cell HS.out.b3 0).trans rfl; have c31 := (blk_cell HS.out.b3 1).trans rfl; have c32 := (blk_cell HS.out.b3 2).trans rfl; have c33 := (blk_cell HS.out.b3 3).trans rfl; have c40 := (blk_cell HS.out.b4 0).trans rfl; have c41 := (blk_cell HS.out.b4 1).trans rfl))
  clear c30 c31 c32 c33 c40 c41
  have HS := Aside0.mk HS.out.drew
  obtain ⟨ad, A4, c4, rfl, hc4, hT4, hcell⟩ := Tr.elem0 HS.out.tn (by rw [HL.out]; decide)
  obtain ⟨ae, A5, c5, rfl, hc5, hM5, y0, y1⟩ := FM.elem0 HS.out.mind (by rw [HLm.out]; decide)
  obtain ⟨x0, x1, x2, x3⟩ := hcell w3.drew (fun _ _ _ => rfl)
  rw [hx] at hc4 hT4 x0 x1 x2 x3
  rw [hy] at hc5 hM5 y0 y1
  have X0 := Aside0.mk x0
  have X1 := Aside0.mk x1
  have X2 := Aside0.mk x2
  have X3 := Aside0.mk x3
  have X4 := Aside0.mk y0
  have X5 := Aside0.mk y1
  have HC4 := Aside0.mk hc4
  have HC5 := Aside0.mk hc5
  have HT4 := Aside0.mk hT4
  have HM5 := Aside0.mk hM5
  clear x0 x1 x2 x3 y0 y1 hc4 hc5 hT4 hM5 hcell
  refine start_ (n := 16) (S := fun w' => w'.cell? ⟨g3, 3, none⟩ = some (.slice (some ad) 1 c3) ∧ w'.cell? ⟨g4, 1, none⟩ = some (.slice (some ae) 1 cm) ∧ w'.cell? ad = some (.int .i64 x.f0) ∧ w'.cell? ⟨ad.block, ad.off + 1, none⟩ = some (.string x.f1) ∧ w'.cell? ⟨ad.block, ad.off + 2, none⟩ = some (.int .i64 x.f2) ∧ w'.cell? ⟨ad.block, ad.off + 3, none⟩ = some (.slice A4 x.f3.length c4) ∧ w'.cell? ae = some (.int .i64 y.f0) ∧ w'.cell? ⟨ae.block, ae.off + 1, none⟩ = some (.slice A5 y.f1.length c5)) (ds := [15]) #[false, false, false, false, false, false, false, false, false, false, false, false, false, false, false, false] (by kernel_rfl) rfl rfl ⟨(blk_cell HS.out.b3 3).trans rfl, (blk_cell HS.out.b4 1).trans rfl, X0.out, X1.out, X2.out, X3.out, X4.out, X5.out⟩ (fun hHeld => ?_)
  generalize w3.drew = wd at HS X0 X1 X2 X3 X4 X5 HT4 HM5 hHeld ⊢
  refine pure_ (i := 0) (N := some 69) (v := ?_) (a' := ?_) #[true, false, false, false, false, false, false, false, false, false, false, false, false, false, false, false] rfl rfl (by kernel_rfl) (fun _ _ _ h => h) (Or.inl ⟨by rfl, ?_⟩) ?_ ?_
  rotate_left
  · intro w'
    go_simp
    with_reducible rfl
  rotate_left
  · simp only [Act.put, List.setIfInBounds_toArray, List.set_cons_zero, List.set_cons_succ, i64_w, i32_w]
    rfl
  refine pure_ (i := 4) (N := some 73) (v := ?_) (a' := ?_) #[true, false, false, false, true, false, false, false, false, false, false, false, false, false, false, false] rfl rfl (by kernel_rfl) (fun _ _ _ h => h) (Or.inl ⟨by rfl, ?_⟩) ?_ ?_
  rotate_left
  · intro w'
    go_simp
    with_reducible rfl
  rotate_left
  · simp only [Act.put, List.setIfInBounds_toArray, List.set_cons_zero, List.set_cons_succ, i64_w, i32_w]
    rfl
  refine pure_ (i := 8) (N := some 77) (v := ?_) (a' := ?_) #[true, false, false, false, true, false, false, false, true, false, false, false, false, false, false, false] rfl rfl (by kernel_rfl) (fun _ _ _ h => h) (Or.inl ⟨by rfl, ?_⟩) ?_ ?_
  rotate_left
  · intro w'
    go_simp
    with_reducible rfl
  rotate_left
  · simp only [Act.put, List.setIfInBounds_toArray, List.set_cons_zero, List.set_cons_succ, i64_w, i32_w]
    rfl
  refine take_ (i := 1) (N := some 70) (v := ?_) (a' := ?_) #[true, true, false, false, true, false, false, false, true, false, false, false, false, false, false, false] rfl rfl (by kernel_rfl) (fun _ _ _ h => h) (Or.inl ⟨by rfl, ?_⟩) hHeld ?_ ?_
  rotate_left
  · rintro w' ⟨s0, s1, s2, s3, s4, s5, s6, s7⟩
    go_simp
    with_reducible rfl
  rotate_left
  · simp only [Act.put, List.setIfInBounds_toArray, List.set_cons_zero, List.set_cons_succ, i64_w, i32_w]
    rfl
  refine pure_ (i := 2) (N := some 71) (v := ?_) (a' := ?_) #[true, true, true, false, true, false, false, false, true, false, false, false, false, false, false, false] rfl rfl (by kernel_rfl) (fun _ _ _ h => h) (Or.inl ⟨by rfl, ?_⟩) ?_ ?_
  rotate_left
  · intro w'
    go_simp
    with_reducible rfl
  rotate_left
  · simp only [Act.put, List.setIfInBounds_toArray, List.set_cons_zero, List.set_cons_succ, i64_w, i32_w]
    rfl
  refine take_ (i := 3) (N := some 72) (v := ?_) (a' := ?_) #[true, true, true, true, true, false, false, false, true, false, false, false, false, false, false, false] rfl rfl (by kernel_rfl) (fun _ _ _ h => h) (Or.inl ⟨by rfl, ?_⟩) hHeld ?_ ?_
  rotate_left
  · rintro w' ⟨s0, s1, s2, s3, s4, s5, s6, s7⟩
    go_simp
    with_reducible rfl
  rotate_left
  · simp only [Act.put, List.setIfInBounds_toArray, List.set_cons_zero, List.set_cons_succ, i64_w, i32_w]
    rfl
  refine take_ (i := 5) (N := some 74) (v := ?_) (a' := ?_) #[true, true, true, true, true, true, false, false, true, false, false, false, false, false, false, false] rfl rfl (by kernel_rfl) (fun _ _ _ h => h) (Or.inl ⟨by rfl, ?_⟩) hHeld ?_ ?_
  rotate_left
  · rintro w' ⟨s0, s1, s2, s3, s4, s5, s6, s7⟩
    go_simp
    with_reducible rfl
  rotate_left
  · simp only [Act.put, List.setIfInBounds_toArray, List.set_cons_zero, List.set_cons_succ, i64_w, i32_w]
    rfl
  refine pure_ (i := 6) (N := some 75) (v := ?_) (a' := ?_) #[true, true, true, true, true, true, true, false, true, false, false, false, false, false, false, false] rfl rfl (by kernel_rfl) (fun _ _ _ h => h) (Or.inl ⟨by rfl, ?_⟩) ?_ ?_
  rotate_left
  · intro w'
    go_simp
    with_reducible rfl
  rotate_left
  · simp only [Act.put, List.setIfInBounds_toArray, List.set_cons_zero, List.set_cons_succ, i64_w, i32_w]
    rfl
  refine take_ (i := 7) (N := some 76) (v := ?_) (a' := ?_) #[true, true, true, true, true, true, true, true, true, false, false, false, false, false, false, false] rfl rfl (by kernel_rfl) (fun _ _ _ h => h) (Or.inl ⟨by rfl, ?_⟩) hHeld ?_ ?_
  rotate_left
  · rintro w' ⟨s0, s1, s2, s3, s4, s5, s6, s7⟩
    go_simp
    with_reducible rfl
  rotate_left
  · simp only [Act.put, List.setIfInBounds_toArray, List.set_cons_zero, List.set_cons_succ, i64_w, i32_w]
    rfl
  refine join_ (σ := Nat × Option Addr × Nat) 2 #[true, true, true, true, true, true, true, true, true, true, true, true, true, true, false, false] (fun s => [(78, .tuple #[.int .i64 r, .agg #[.int .i64 k0, .slice s.2.1 k1.length s.2.2]]), (68, .tuple #[.int .i64 r, .agg #[.int .i64 k0, .slice s.2.1 k1.length s.2.2]]), (79, .int .i64 r), (80, .agg #[.int .i64 k0, .slice s.2.1 k1.length s.2.2]), (12, .pointer (some ⟨s.1, 0, none⟩))]) (fun s w' => Fk Q (fun _ => True) W g3 g4 g7 n0 n1 n2 n3 (some ad) 1 c3 m0 m1 (some ae) cm k1 s w') ?_ ?_
  rotate_left
  · intro hCont
    refine two_ (i := 9) (j := 13) (Ni := some 78) (Nj := some 12) #[true, true, true, true, true, true, true, true, true, true, false, false, false, false, false, false] #[true, true, true, true, true, true, true, true, true, false, false, false, false, true, false, false] rfl rfl rfl rfl (by kernel_rfl) (by decide) (by decide) (fun K hK => ?_) (fun K hK => ?_)
    · skip
      refine goes_ Try.func18 (by kernel_rfl) rfl #[.agg #[.int .i64 x.f0, .string x.f1, .int .i64 x.f2, .slice A4 x.f3.length c4], .agg #[.int .i64 y.f0, .slice A5 y.f1.length c5], .func (.func g) #[] lb] (by rfl) rfl rfl (by simp only [List.map_toArray, List.map_cons, List.map_nil]; rfl) ?_
      refine (ThinkC.within HZ.out HS.out HQ.out (q := fun _ => True) (fun k hk => trivial) HP.out HC4.out HC5.out HT4.out HM5.out).mono ?_
      rintro e wb ⟨Ak, ck, rfl, hck, hFk, hb⟩
      refine ⟨_, rfl, ?_⟩
      have HS := Aside0.mk (HS.out.below hb)
      have X0 := Aside0.mk (cellB hb X0.out)
      have X1 := Aside0.mk (cellB hb X1.out)
      have X2 := Aside0.mk (cellB hb X2.out)
      have X3 := Aside0.mk (cellB hb X3.out)
      have X4 := Aside0.mk (cellB hb X4.out)
      have X5 := Aside0.mk (cellB hb X5.out)
      have HT4 := Aside0.mk (Kd.F_below HT4.out hb)
      have HM5 := Aside0.mk (Kd.F_below HM5.out hb)
      have HF := Aside0.mk hFk
      have HCK := Aside0.mk hck
      clear hck hFk hb
      refine hK.out _ _ ⟨(blk_cell HS.out.b3 3).trans rfl, (blk_cell HS.out.b4 1).trans rfl, X0.out, X1.out, X2.out, X3.out, X4.out, X5.out⟩ (fun hHeld => ?_)
      clear hK K
      refine norm_ (a' := ?_) ?_ ?_
      rotate_left
      · show Act.put _ (some 78) _ = _
        simp only [Act.put, List.setIfInBounds_toArray, List.set_cons_zero, List.set_cons_succ, i64_w, i32_w]
        rfl
      refine pure_ (i := 10) (N := some 68) (v := ?_) (a' := ?_) #[true, true, true, true, true, true, true, true, true, true, true, false, false, false, false, false] rfl rfl (by kernel_rfl) (fun _ _ _ h => h) (Or.inl ⟨by rfl, ?_⟩) ?_ ?_
      rotate_left
      · intro w'
        go_simp
        with_reducible rfl
      rotate_left
      · simp only [Act.put, List.setIfInBounds_toArray, List.set_cons_zero, List.set_cons_succ, i64_w, i32_w]
        rfl
      refine pure_ (i := 11) (N := some 79) (v := ?_) (a' := ?_) #[true, true, true, true, true, true, true, true, true, true, true, true, false, false, false, false] rfl rfl (by kernel_rfl) (fun _ _ _ h => h) (Or.inl ⟨by rfl, ?_⟩) ?_ ?_
      rotate_left
      · intro w'
        go_simp
        with_reducible rfl
      rotate_left
      · simp only [Act.put, List.setIfInBounds_toArray, List.set_cons_zero, List.set_cons_succ, i64_w, i32_w]
        rfl
      refine pure_ (i := 12) (N := some 80) (v := ?_) (a' := ?_) #[true, true, true, true, true, true, true, true, true, true, true, true, true, false, false, false] rfl rfl (by kernel_rfl) (fun _ _ _ h => h) (Or.inl ⟨by rfl, ?_⟩) ?_ ?_
      rotate_left
      · intro w'
        go_simp
        with_reducible rfl
      rotate_left
      · simp only [Act.put, List.setIfInBounds_toArray, List.set_cons_zero, List.set_cons_succ, i64_w, i32_w]
        rfl
      refine one_ (i := 13) (N := some 12) #[true, true, true, true, true, true, true, true, true, true, true, true, true, true, false, false] rfl rfl (by kernel_rfl) (by decide) (fun K hK => ?_)
      refine boxN_step (by rfl) rfl (cs := #[.int .i64 0, .slice none 0 0]) (t := 40) ?_ ?_
      · first | (go_simp; done) | (go_simp; rfl)
      intro g12 hg wa hbox hb
      have HX := Aside0.mk (HS.out.new (Nat.le_of_eq hg.symm) hbox)
      have HF := Aside0.mk (Kd.F_below (Kd.F_elderB HF.out g12 (Nat.le_of_eq hg.symm)) hb)
      have HS := Aside0.mk (HS.out.below hb)
      have X0 := Aside0.mk (cellB hb X0.out)
      have X1 := Aside0.mk (cellB hb X1.out)
      have X2 := Aside0.mk (cellB hb X2.out)
      have X3 := Aside0.mk (cellB hb X3.out)
      have X4 := Aside0.mk (cellB hb X4.out)
      have X5 := Aside0.mk (cellB hb X5.out)
      have HT4 := Aside0.mk (Kd.F_below HT4.out hb)
      have HM5 := Aside0.mk (Kd.F_below HM5.out hb)
      clear hg hbox hb
      refine hK.out _ _ ⟨(blk_cell HS.out.b3 3).trans rfl, (blk_cell HS.out.b4 1).trans rfl, X0.out, X1.out, X2.out, X3.out, X4.out, X5.out⟩ (fun hHeld => ?_)
      clear hK K
      refine norm_ (a' := ?_) ?_ ?_
      rotate_left
      · show Act.put _ (some 12) _ = _
        simp only [Act.put, List.setIfInBounds_toArray, List.set_cons_zero, List.set_cons_succ, i64_w, i32_w]
        rfl
      exact norm_ (by simp only [putAll, Act.put, List.setIfInBounds_toArray, List.set_cons_zero, List.set_cons_succ]) (hCont (g12, Ak, ck) _ ⟨HS.out, HX.out, HCK.out, HF.out⟩)
    · skip
      refine boxN_step (by rfl) rfl (cs := #[.int .i64 0, .slice none 0 0]) (t := 40) ?_ ?_
      · first | (go_simp; done) | (go_simp; rfl)
      intro g12 hg wa hbox hb
      have HX := Aside0.mk (HS.out.new (Nat.le_of_eq hg.symm) hbox)
      have HS := Aside0.mk (HS.out.below hb)
      have X0 := Aside0.mk (cellB hb X0.out)
      have X1 := Aside0.mk (cellB hb X1.out)
      have X2 := Aside0.mk (cellB hb X2.out)
      have X3 := Aside0.mk (cellB hb X3.out)
      have X4 := Aside0.mk (cellB hb X4.out)
      have X5 := Aside0.mk (cellB hb X5.out)
      have HT4 := Aside0.mk (Kd.F_below HT4.out hb)
      have HM5 := Aside0.mk (Kd.F_below HM5.out hb)
      clear hg hbox hb
      refine hK.out _ _ ⟨(blk_cell HS.out.b3 3).trans rfl, (blk_cell HS.out.b4 1).trans rfl, X0.out, X1.out, X2.out, X3.out, X4.out, X5.out⟩ (fun hHeld => ?_)
      clear hK K
      refine norm_ (a' := ?_) ?_ ?_
      rotate_left
      · show Act.put _ (some 12) _ = _
        simp only [Act.put, List.setIfInBounds_toArray, List.set_cons_zero, List.set_cons_succ, i64_w, i32_w]
        rfl
      refine one_ (i := 9) (N := some 78) #[true, true, true, true, true, true, true, true, true, true, false, false, false, true, false, false] rfl rfl (by kernel_rfl) (by decide) (fun K hK => ?_)
      refine goes_ Try.func18 (by kernel_rfl) rfl #[.agg #[.int .i64 x.f0, .string x.f1, .int .i64 x.f2, .slice A4 x.f3.length c4], .agg #[.int .i64 y.f0, .slice A5 y.f1.length c5], .func (.func g) #[] lb] (by rfl) rfl rfl (by simp only [List.map_toArray, List.map_cons, List.map_nil]; rfl) ?_
      refine (ThinkC.within HZ.out HS.out HQ.out (q := fun k => (fun _ => True) k ∧ k ≠ g12) (fun k hk => ⟨trivial, by have h1 := HX.out.wg; have h2 := blk_lt HX.out.b; omega⟩) HP.out HC4.out HC5.out HT4.out HM5.out).mono ?_
      rintro e wb ⟨Ak, ck, rfl, hck, hFk, hb⟩
      refine ⟨_, rfl, ?_⟩
      have HS := Aside0.mk (HS.out.below hb)
      have X0 := Aside0.mk (cellB hb X0.out)
      have X1 := Aside0.mk (cellB hb X1.out)
      have X2 := Aside0.mk (cellB hb X2.out)
      have X3 := Aside0.mk (cellB hb X3.out)
      have X4 := Aside0.mk (cellB hb X4.out)
      have X5 := Aside0.mk (cellB hb X5.out)
      have HT4 := Aside0.mk (Kd.F_below HT4.out hb)
      have HM5 := Aside0.mk (Kd.F_below HM5.out hb)
      have HX := Aside0.mk (HX.out.below hb)
      have HF := Aside0.mk (Kd.F_mono (ok' := fun k => ((Q k ∧ k ≠ g7) ∧ (fun _ => True) k) ∧ k ≠ g12) hFk (fun k hk => ⟨⟨hk.1, hk.2.1⟩, hk.2.2⟩))
      have HCK := Aside0.mk hck
      clear hck hFk hb
      refine hK.out _ _ ⟨(blk_cell HS.out.b3 3).trans rfl, (blk_cell HS.out.b4 1).trans rfl, X0.out, X1.out, X2.out, X3.out, X4.out, X5.out⟩ (fun hHeld => ?_)
      clear hK K
      refine norm_ (a' := ?_) ?_ ?_
      rotate_left
      · show Act.put _ (some 78) _ = _
        simp only [Act.put, List.setIfInBounds_toArray, List.set_cons_zero, List.set_cons_succ, i64_w, i32_w]
        rfl
      refine pure_ (i := 10) (N := some 68) (v := ?_) (a' := ?_) #[true, true, true, true, true, true, true, true, true, true, true, false, false, true, false, false] rfl rfl (by kernel_rfl) (fun _ _ _ h => h) (Or.inl ⟨by rfl, ?_⟩) ?_ ?_
      rotate_left
      · intro w'
        go_simp
        with_reducible rfl
      rotate_left
      · simp only [Act.put, List.setIfInBounds_toArray, List.set_cons_zero, List.set_cons_succ, i64_w, i32_w]
        rfl
      refine pure_ (i := 11) (N := some 79) (v := ?_) (a' := ?_) #[true, true, true, true, true, true, true, true, true, true, true, true, false, true, false, false] rfl rfl (by kernel_rfl) (fun _ _ _ h => h) (Or.inl ⟨by rfl, ?_⟩) ?_ ?_
      rotate_left
      · intro w'
        go_simp
        with_reducible rfl
      rotate_left
      · simp only [Act.put, List.setIfInBounds_toArray, List.set_cons_zero, List.set_cons_succ, i64_w, i32_w]
        rfl
      refine pure_ (i := 12) (N := some 80) (v := ?_) (a' := ?_) #[true, true, true, true, true, true, true, true, true, true, true, true, true, true, false, false] rfl rfl (by kernel_rfl) (fun _ _ _ h => h) (Or.inl ⟨by rfl, ?_⟩) ?_ ?_
      rotate_left
      · intro w'
        go_simp
        with_reducible rfl
      rotate_left
      · simp only [Act.put, List.setIfInBounds_toArray, List.set_cons_zero, List.set_cons_succ, i64_w, i32_w]
        rfl
      exact norm_ (by simp only [putAll, Act.put, List.setIfInBounds_toArray, List.set_cons_zero, List.set_cons_succ]) (hCont (g12, Ak, ck) _ ⟨HS.out, HX.out, HCK.out, HF.out⟩)
  rintro ⟨g12, Ak, ck⟩ wz hFk
  have HFK := Aside0.mk hFk
  clear hFk
  refine norm_ (a' := ?_) ?_ ?_
  rotate_left
  · simp only [putAll, Act.put, List.setIfInBounds_toArray, List.set_cons_zero, List.set_cons_succ]
    rfl
  refine pure_ (i := 14) (N := some 11) (v := ?_) (a' := ?_) #[true, true, true, true, true, true, true, true, true, true, true, true, true, true, true, false] rfl rfl (by kernel_rfl) (fun _ _ _ h => h) (Or.inl ⟨by rfl, ?_⟩) ?_ ?_
  rotate_left
  · intro w'
    go_simp
    with_reducible rfl
  rotate_left
  · simp only [Act.put, List.setIfInBounds_toArray, List.set_cons_zero, List.set_cons_succ, i64_w, i32_w]
    rfl
  refine last_ (i := 15) (N := none) #[true, true, true, true, true, true, true, true, true, true, true, true, true, true, true, true] rfl rfl (by kernel_rfl) (by decide) (fun K hK => ?_)
  have cz0 := (blk_cell HFK.out.2.1.b 0).trans rfl
  have cz1 := (blk_cell HFK.out.2.1.b 1).trans rfl
  have fz0 := blk_frozen HFK.out.2.1.b 0
  have fz1 := blk_frozen HFK.out.2.1.b 1
  refine skip_ (w1 := ?_) (by rfl) rfl ?_ ?_
  rotate_left
  · go_simp
    rfl
  refine hK.out _ _ ?_
  clear hK K
  refine done_ (by kernel_rfl) ?_
  have HP_ := Fk.put HFK.out k0
  have HS := Aside0.mk HP_.1
  have HX := Aside0.mk HP_.2.1
  have HCK := Aside0.mk HP_.2.2.1
  have HF := Aside0.mk HP_.2.2.2
  clear HP_ HFK cz0 cz1 fz0 fz1
  generalize ((wz.setCell ⟨g12, 0, none⟩ (.int .i64 k0)).setCell ⟨g12, 1, none⟩ (.slice Ak k1.length ck)) = wy at HS HX HF ⊢
  have c30 := (blk_cell HS.out.b3 0).trans rfl
  have c31 := (blk_cell HS.out.b3 1).trans rfl
  have c32 := (blk_cell HS.out.b3 2).trans rfl
  have c33 := (blk_cell HS.out.b3 3).trans rfl
  have c40 := (blk_cell HS.out.b4 0).trans rfl
  have c41 := (blk_cell HS.out.b4 1).trans rfl
  go_upto_block 1 with (first | ((with_reducible refine gate_callee (f := 16) rfl ?_); refine goesL_ (some 82) rfl rfl Try.func16 (by kernel_rfl) rfl #[.agg #[.int .i64 6, .string n1, .int .i64 n2, .slice (some ad) 1 c3]] rfl (by (try simp only [zm1, zm2, zm3]); first | done | rfl) ?_; have hcall := blank_call HS.out HQ.out HL.out HC3.out HBL.out HBLL.out; rw [e] at hcall; (refine hcall.mono ?_); clear hcall; rintro e wc ⟨Ab, cb, rfl, hcb, hfb, hgb, hb⟩; refine ⟨_, rfl, ?_⟩; have HOB := Aside0.mk (show 0 < 1 → ∃ gb, Ab = some ⟨gb, 0, none⟩ ∧ OutR Q W wc g3 g4 g7 gb bl from fun hp => (hgb hp).imp fun _ h => ⟨h.1, h.2.2⟩); have HS := Aside0.mk (HS.out.below hb); have HFB := Aside0.mk hfb; have HCB := Aside0.mk hcb; have HX := Aside0.mk (HX.out.below hb); have HF := Aside0.mk (Kd.F_below HF.out hb); clear hcb hfb hgb hb c30 c31 c32 c33 c40 c41) | ((with_reducible refine gate_dst (N := 13) rfl ?_); refine box_event ?hg (N := 13) ?hd (cs := #[.int .i64 0, .slice none 0 0]) (t := 40) ?hr ?_; (case hd => rfl); (case hg => rfl); (case hr => first | (go_simp; done) | (go_simp; rfl)); intro g13 hg wd hbox hb; have HY := Aside0.mk (HS.out.new (Nat.le_of_eq hg.symm) hbox); have HFB := Aside0.mk (Kd.F_below (Kd.F_elderB HFB.out g13 (Nat.le_of_eq hg.symm)) hb); have N12 := Aside0.mk (show g12 ≠ g13 from by have := blk_lt HX.out.b; omega); have HF := Aside0.mk (Kd.F_below (Kd.F_elderB HF.out g13 (Nat.le_of_eq hg.symm)) hb); have HX := Aside0.mk (HX.out.below hb); have HS := Aside0.mk (HS.out.below hb); clear hg hbox hb; have cy0 := (blk_cell HY.out.b 0).trans rfl; have cy1 := (blk_cell HY.out.b 1).trans rfl; have fy0 := blk_frozen HY.out.b 0; have fy1 := blk_frozen HY.out.b 1))
  have HS := Aside0.mk (HS.out.setX HY.out (.int .i64 0) (.slice Ab 1 cb))
  have HX := Aside0.mk ((HX.out.far (p := ⟨g13, 0, none⟩) N12.out (.int .i64 0)).far (p := ⟨g13, 1, none⟩) N12.out (.slice Ab 1 cb))
  have HF := Aside0.mk (Kd.F_mono (ok' := fun k => Q k ∧ k ≠ g7) (Kd.F_far (p := ⟨g13, 1, none⟩) (Kd.F_far (p := ⟨g13, 0, none⟩) HF.out (fun _ hk => hk.2) (.int .i64 0)) (fun _ hk => hk.2) (.slice Ab 1 cb)) (fun _ hk => hk.1.1))
  have HFB := Aside0.mk (Kd.F_far (p := ⟨g13, 1, none⟩) (Kd.F_far (p := ⟨g13, 0, none⟩) HFB.out (fun _ hk => hk.2) (.int .i64 0)) (fun _ hk => hk.2) (.slice Ab 1 cb))
  have HY := Aside0.mk (HY.out.put (.int .i64 0) (.slice Ab 1 cb))
  clear cy0 cy1 fy0 fy1
  generalize ((wd.setCell ⟨g13, 0, none⟩ (.int .i64 0)).setCell ⟨g13, 1, none⟩ (.slice Ab 1 cb)) = we at HS HX HF HFB HY ⊢
  have e0' : r = 1 := e0
  clear e0
  subst e0'
  have hw1 : wrap64 (m0 + 1) = m0 + 1 := w64 (by omega) (by omega)
  have K1 : decide (wrap64 (m0 + 1) < n2) = true := decide_eq_true (by omega)
  have HW1 := Aside0.mk hw1
  clear hm0 hm1 hlt hw1
  have c30 := (blk_cell HS.out.b3 0).trans rfl
  have c31 := (blk_cell HS.out.b3 1).trans rfl
  have c32 := (blk_cell HS.out.b3 2).trans rfl
  have c33 := (blk_cell HS.out.b3 3).trans rfl
  have c40 := (blk_cell HS.out.b4 0).trans rfl
  have c41 := (blk_cell HS.out.b4 1).trans rfl
  have cy0 := (blk_cell HY.out.b 0).trans rfl
  have fy0 := blk_frozen HY.out.b 0
  go_upto_region 19 with (first | fail)
  have HS := Aside0.mk (HS.out.set HY.out.wg HY.out.n3 HY.out.n4 HY.out.n7 0 (.int .i64 (wrap64 (m0 + 1))))
  have HFB := Aside0.mk (Kd.F_mono (ok' := fun k => Q k ∧ k ≠ g7) (Kd.F_far (p := ⟨g13, 0, none⟩) HFB.out (fun _ hk => hk.2) (.int .i64 (wrap64 (m0 + 1)))) (fun _ hk => hk.1))
  have HY1 := Aside0.mk (show (we.setCell ⟨g13, 0, none⟩ (.int .i64 (wrap64 (m0 + 1)))).heap[g13]? = some (.cells (boxM (wrap64 (m0 + 1)) Ab 1 cb) 40 (0, 0)) from blk_put HY.out.b 0 _ rfl)
  clear cy0 fy0 HY HX HF c30 c31 c32 c33 c40 c41
  generalize we.setCell ⟨g13, 0, none⟩ (.int .i64 (wrap64 (m0 + 1))) = wf at HS HFB HY1 ⊢
  have HS := Aside0.mk HS.out.drew
  have HFB := Aside0.mk (Kd.F_drew HFB.out)
  have HY1 := Aside0.mk (blk_drew HY1.out)
  refine start_ (n := 3) (S := fun w' => w'.cell? ⟨g13, 0, none⟩ = some (.int .i64 (wrap64 (m0 + 1))) ∧ w'.cell? ⟨g13, 1, none⟩ = some (.slice Ab 1 cb)) (ds := [2]) #[false, false, false] (by kernel_rfl) rfl rfl ⟨(blk_cell HY1.out 0).trans rfl, (blk_cell HY1.out 1).trans rfl⟩ (fun hHeld => ?_)
  generalize wf.drew = wd at HS HFB HY1 hHeld ⊢
  refine pure_ (i := 1) (N := some 6) (v := ?_) (a' := ?_) #[false, true, false] rfl rfl (by kernel_rfl) (fun _ _ _ h => h) (Or.inl ⟨by rfl, ?_⟩) ?_ ?_
  rotate_left
  · intro w'
    go_simp
    with_reducible rfl
  rotate_left
  · simp only [Act.put, List.setIfInBounds_toArray, List.set_cons_zero, List.set_cons_succ, i64_w, i32_w]
    rfl
  refine take_ (i := 0) (N := some 106) (v := ?_) (a' := ?_) #[true, true, false] rfl rfl (by kernel_rfl) (fun _ _ _ h => h) (Or.inl ⟨by rfl, ?_⟩) hHeld ?_ ?_
  rotate_left
  · rintro w' ⟨s0, s1⟩
    go_simp
    with_reducible rfl
  rotate_left
  · simp only [Act.put, List.setIfInBounds_toArray, List.set_cons_zero, List.set_cons_succ, i64_w, i32_w]
    rfl
  refine last_ (i := 2) (N := none) #[true, true, true] rfl rfl (by kernel_rfl) (by decide) (fun K hK => ?_)
  have cz0 := (blk_cell HS.out.b7 0).trans rfl
  have cz1 := (blk_cell HS.out.b7 1).trans rfl
  have fz0 := blk_frozen HS.out.b7 0
  have fz1 := blk_frozen HS.out.b7 1
  refine skip_ (w1 := ?_) (by rfl) rfl ?_ ?_
  rotate_left
  · go_simp
    rfl
  refine hK.out _ _ ?_
  clear hK K
  refine done_ (by kernel_rfl) ?_
  try go_wp2
  refine bodyPost_ret (results_tc rfl _ _ g7 40 #[.int .i64 (wrap64 (m0 + 1)), .slice Ab 1 cb] (0, 0) _ rfl (put2 HS.out.b7 _ _) Try.underlying40 rfl (by kernel_rfl)) rfl ?_
  rw [HW1.out]; have h1_ := HBLL.out; rw [show (Value.slice Ab 1 cb) = Value.slice Ab bl.length cb from by rw [h1_]]
  exact HS.out.fin HFB.out (by rw [HBLL.out]; exact HCB.out) _ _
set_option maxHeartbeats 8000000 in
set_option maxRecDepth 100000 in
theorem think_again0 (hL : n3.length = L) (hLm : m1.length = L) (hP : Pure W g lb fn an0) (hc3 : L ≤ c3) (hcm : L ≤ cm) (hT : Tr W Al A3 n3) (hM : FM W Q Am m1) (hQ : ∀ k, W.heap.size ≤ k → Q k) (hL1 : L = 1) {z : Int × Md × Unit} {x : Nd} {y : Md} (hx : rdN n3 0 = x) (hy : rdM m1 0 = y) (hz : ThinkC an0 z x y) {kb : Nat} {bl : List Md} (hbl : tourref5_Blank.f kb n0 n1 n2 n3 = some (0, bl)) (hbll : bl.length = L) (hm0 : 0 ≤ m0) (hm1 : m0 ≤ 1000000) (e0 : z.1 = 0) (hlt : True) (e : n0 = 6) :
    Calls Try.prog 18 #[.agg #[.int .i64 n0, .string n1, .int .i64 n2, .slice A3 L c3], .agg #[.int .i64 m0, .slice Am L cm], .func (.func g) #[] lb] W fun e w' => Ret Q W w' e 0 0 bl := by
  subst hL1
  obtain ⟨r, ⟨k0, k1⟩, u⟩ := z
  have HBL := Aside0.mk hbl
  have HBLL := Aside0.mk hbll
  clear hbl hbll
  have HZ := Aside0.mk hz
  clear hz
  have HL := Aside0.mk hL
  have HLm := Aside0.mk hLm
  have HP := Aside0.mk hP
  have HC3 := Aside0.mk hc3
  have HCM := Aside0.mk hcm
  have HT := Aside0.mk hT
  have HM := Aside0.mk hM
  have HQ := Aside0.mk hQ
  clear hL hLm hP hc3 hcm hT hM hQ
  have Bk1 : (n0 == 1) = false := beqF (by omega)
  have Bk2 : (n0 == 2) = false := beqF (by omega)
  have Bk5 : (n0 == 5) = false := beqF (by omega)
  have Bk6 : (n0 == 6) = true := beqT e
  go_enter Try.func18, Try.ntmps18
  go_upto_region 13 with (first | ((with_reducible refine gate_dst (N := 3) rfl ?_); refine box_event ?hg (N := 3) ?hd (cs := #[.int .i64 n0, .string n1, .int .i64 n2, .slice A3 1 c3]) (t := 25) ?hr ?_; (case hd => rfl); (case hg => rfl); (case hr => first | (go_simp; done) | (go_simp; rfl)); intro g3 hg w1 hbox hb; have E3 := Aside0.mk hg; have BK3 := Aside0.mk hbox; have HB1 := Aside0.mk hb; clear hg hbox hb) | ((with_reducible refine gate_dst (N := 4) rfl ?_); refine box_event ?hg (N := 4) ?hd (cs := #[.int .i64 m0, .slice Am 1 cm]) (t := 40) ?hr ?_; (case hd => rfl); (case hg => rfl); (case hr => first | (go_simp; done) | (go_simp; rfl)); intro g4 hg w2 hbox hb; have E4 := Aside0.mk hg; have BK4 := Aside0.mk hbox; have HB2 := Aside0.mk hb; clear hg hbox hb) | ((with_reducible refine gate_dst (N := 7) rfl ?_); refine box_event ?hg (N := 7) ?hd (cs := #[.int .i64 0, .slice none 0 0]) (t := 40) ?hr ?_; (case hd => rfl); (case hg => rfl); (case hr => first | (go_simp; done) | (go_simp; rfl)); intro g7 hg w3 hbox hb; have HS := Aside0.mk (show Bs Q W w3 g3 g4 g7 n0 n1 n2 n3 A3 1 c3 m0 m1 Am cm from Bs.start HT.out HM.out E3.out BK3.out HB1.out E4.out BK4.out HB2.out hg hbox hb); clear hg hbox hb E3 BK3 HB1 E4 BK4 HB2; have c30 := (blk_cell HS.out.b3 0).trans rfl; have c31 := (blk_cell HS.out.b3 1).trans rfl; have c32 := (blk_cell HS.out.b3 2).trans rfl; have c33 := (blk_cell HS.out.b3 3).trans rfl; have c40 := (blk_cell HS.out.b4 0).trans rfl; have c41 := (blk_cell HS.out.b4 1).trans rfl))
  clear c30 c31 c32 c33 c40 c41
  have HS := Aside0.mk HS.out.drew
  obtain ⟨ad, A4, c4, rfl, hc4, hT4, hcell⟩ := Tr.elem0 HS.out.tn (by rw [HL.out]; decide)
  obtain ⟨ae, A5, c5, rfl, hc5, hM5, y0, y1⟩ := FM.elem0 HS.out.mind (by rw [HLm.out]; decide)
  obtain ⟨x0, x1, x2, x3⟩ := hcell w3.drew (fun _ _ _ => rfl)
  rw [hx] at hc4 hT4 x0 x1 x2 x3
  rw [hy] at hc5 hM5 y0 y1
  have X0 := Aside0.mk x0
  have X1 := Aside0.mk x1
  have X2 := Aside0.mk x2
  have X3 := Aside0.mk x3
  have X4 := Aside0.mk y0
  have X5 := Aside0.mk y1
  have HC4 := Aside0.mk hc4
  have HC5 := Aside0.mk hc5
  have HT4 := Aside0.mk hT4
  have HM5 := Aside0.mk hM5
  clear x0 x1 x2 x3 y0 y1 hc4 hc5 hT4 hM5 hcell
  refine start_ (n := 16) (S := fun w' => w'.cell? ⟨g3, 3, none⟩ = some (.slice (some ad) 1 c3) ∧ w'.cell? ⟨g4, 1, none⟩ = some (.slice (some ae) 1 cm) ∧ w'.cell? ad = some (.int .i64 x.f0) ∧ w'.cell? ⟨ad.block, ad.off + 1, none⟩ = some (.string x.f1) ∧ w'.cell? ⟨ad.block, ad.off + 2, none⟩ = some (.int .i64 x.f2) ∧ w'.cell? ⟨ad.block, ad.off + 3, none⟩ = some (.slice A4 x.f3.length c4) ∧ w'.cell? ae = some (.int .i64 y.f0) ∧ w'.cell? ⟨ae.block, ae.off + 1, none⟩ = some (.slice A5 y.f1.length c5)) (ds := [15]) #[false, false, false, false, false, false, false, false, false, false, false, false, false, false, false, false] (by kernel_rfl) rfl rfl ⟨(blk_cell HS.out.b3 3).trans rfl, (blk_cell HS.out.b4 1).trans rfl, X0.out, X1.out, X2.out, X3.out, X4.out, X5.out⟩ (fun hHeld => ?_)
  generalize w3.drew = wd at HS X0 X1 X2 X3 X4 X5 HT4 HM5 hHeld ⊢
  refine pure_ (i := 0) (N := some 69) (v := ?_) (a' := ?_) #[true, false, false, false, false, false, false, false, false, false, false, false, false, false, false, false] rfl rfl (by kernel_rfl) (fun _ _ _ h => h) (Or.inl ⟨by rfl, ?_⟩) ?_ ?_
  rotate_left
  · intro w'
    go_simp
    with_reducible rfl
  rotate_left
  · simp only [Act.put, List.setIfInBounds_toArray, List.set_cons_zero, List.set_cons_succ, i64_w, i32_w]
    rfl
  refine pure_ (i := 4) (N := some 73) (v := ?_) (a' := ?_) #[true, false, false, false, true, false, false, false, false, false, false, false, false, false, false, false] rfl rfl (by kernel_rfl) (fun _ _ _ h => h) (Or.inl ⟨by rfl, ?_⟩) ?_ ?_
  rotate_left
  · intro w'
    go_simp
    with_reducible rfl
  rotate_left
  · simp only [Act.put, List.setIfInBounds_toArray, List.set_cons_zero, List.set_cons_succ, i64_w, i32_w]
    rfl
  refine pure_ (i := 8) (N := some 77) (v := ?_) (a' := ?_) #[true, false, false, false, true, false, false, false, true, false, false, false, false, false, false, false] rfl rfl (by kernel_rfl) (fun _ _ _ h => h) (Or.inl ⟨by rfl, ?_⟩) ?_ ?_
  rotate_left
  · intro w'
    go_simp
    with_reducible rfl
  rotate_left
  · simp only [Act.put, List.setIfInBounds_toArray, List.set_cons_zero, List.set_cons_succ, i64_w, i32_w]
    rfl
  refine take_ (i := 1) (N := some 70) (v := ?_) (a' := ?_) #[true, true, false, false, true, false, false, false, true, false, false, false, false, false, false, false] rfl rfl (by kernel_rfl) (fun _ _ _ h => h) (Or.inl ⟨by rfl, ?_⟩) hHeld ?_ ?_
  rotate_left
  · rintro w' ⟨s0, s1, s2, s3, s4, s5, s6, s7⟩
    go_simp
    with_reducible rfl
  rotate_left
  · simp only [Act.put, List.setIfInBounds_toArray, List.set_cons_zero, List.set_cons_succ, i64_w, i32_w]
    rfl
  refine pure_ (i := 2) (N := some 71) (v := ?_) (a' := ?_) #[true, true, true, false, true, false, false, false, true, false, false, false, false, false, false, false] rfl rfl (by kernel_rfl) (fun _ _ _ h => h) (Or.inl ⟨by rfl, ?_⟩) ?_ ?_
  rotate_left
  · intro w'
    go_simp
    with_reducible rfl
  rotate_left
  · simp only [Act.put, List.setIfInBounds_toArray, List.set_cons_zero, List.set_cons_succ, i64_w, i32_w]
    rfl
  refine take_ (i := 3) (N := some 72) (v := ?_) (a' := ?_) #[true, true, true, true, true, false, false, false, true, false, false, false, false, false, false, false] rfl rfl (by kernel_rfl) (fun _ _ _ h => h) (Or.inl ⟨by rfl, ?_⟩) hHeld ?_ ?_
  rotate_left
  · rintro w' ⟨s0, s1, s2, s3, s4, s5, s6, s7⟩
    go_simp
    with_reducible rfl
  rotate_left
  · simp only [Act.put, List.setIfInBounds_toArray, List.set_cons_zero, List.set_cons_succ, i64_w, i32_w]
    rfl
  refine take_ (i := 5) (N := some 74) (v := ?_) (a' := ?_) #[true, true, true, true, true, true, false, false, true, false, false, false, false, false, false, false] rfl rfl (by kernel_rfl) (fun _ _ _ h => h) (Or.inl ⟨by rfl, ?_⟩) hHeld ?_ ?_
  rotate_left
  · rintro w' ⟨s0, s1, s2, s3, s4, s5, s6, s7⟩
    go_simp
    with_reducible rfl
  rotate_left
  · simp only [Act.put, List.setIfInBounds_toArray, List.set_cons_zero, List.set_cons_succ, i64_w, i32_w]
    rfl
  refine pure_ (i := 6) (N := some 75) (v := ?_) (a' := ?_) #[true, true, true, true, true, true, true, false, true, false, false, false, false, false, false, false] rfl rfl (by kernel_rfl) (fun _ _ _ h => h) (Or.inl ⟨by rfl, ?_⟩) ?_ ?_
  rotate_left
  · intro w'
    go_simp
    with_reducible rfl
  rotate_left
  · simp only [Act.put, List.setIfInBounds_toArray, List.set_cons_zero, List.set_cons_succ, i64_w, i32_w]
    rfl
  refine take_ (i := 7) (N := some 76) (v := ?_) (a' := ?_) #[true, true, true, true, true, true, true, true, true, false, false, false, false, false, false, false] rfl rfl (by kernel_rfl) (fun _ _ _ h => h) (Or.inl ⟨by rfl, ?_⟩) hHeld ?_ ?_
  rotate_left
  · rintro w' ⟨s0, s1, s2, s3, s4, s5, s6, s7⟩
    go_simp
    with_reducible rfl
  rotate_left
  · simp only [Act.put, List.setIfInBounds_toArray, List.set_cons_zero, List.set_cons_succ, i64_w, i32_w]
    rfl
  refine join_ (σ := Nat × Option Addr × Nat) 2 #[true, true, true, true, true, true, true, true, true, true, true, true, true, true, false, false] (fun s => [(78, .tuple #[.int .i64 r, .agg #[.int .i64 k0, .slice s.2.1 k1.length s.2.2]]), (68, .tuple #[.int .i64 r, .agg #[.int .i64 k0, .slice s.2.1 k1.length s.2.2]]), (79, .int .i64 r), (80, .agg #[.int .i64 k0, .slice s.2.1 k1.length s.2.2]), (12, .pointer (some ⟨s.1, 0, none⟩))]) (fun s w' => Fk Q (fun _ => True) W g3 g4 g7 n0 n1 n2 n3 (some ad) 1 c3 m0 m1 (some ae) cm k1 s w') ?_ ?_
  rotate_left
  · intro hCont
    refine two_ (i := 9) (j := 13) (Ni := some 78) (Nj := some 12) #[true, true, true, true, true, true, true, true, true, true, false, false, false, false, false, false] #[true, true, true, true, true, true, true, true, true, false, false, false, false, true, false, false] rfl rfl rfl rfl (by kernel_rfl) (by decide) (by decide) (fun K hK => ?_) (fun K hK => ?_)
    · skip
      refine goes_ Try.func18 (by kernel_rfl) rfl #[.agg #[.int .i64 x.f0, .string x.f1, .int .i64 x.f2, .slice A4 x.f3.length c4], .agg #[.int .i64 y.f0, .slice A5 y.f1.length c5], .func (.func g) #[] lb] (by rfl) rfl rfl (by simp only [List.map_toArray, List.map_cons, List.map_nil]; rfl) ?_
      refine (ThinkC.within HZ.out HS.out HQ.out (q := fun _ => True) (fun k hk => trivial) HP.out HC4.out HC5.out HT4.out HM5.out).mono ?_
      rintro e wb ⟨Ak, ck, rfl, hck, hFk, hb⟩
      refine ⟨_, rfl, ?_⟩
      have HS := Aside0.mk (HS.out.below hb)
      have X0 := Aside0.mk (cellB hb X0.out)
      have X1 := Aside0.mk (cellB hb X1.out)
      have X2 := Aside0.mk (cellB hb X2.out)
      have X3 := Aside0.mk (cellB hb X3.out)
      have X4 := Aside0.mk (cellB hb X4.out)
      have X5 := Aside0.mk (cellB hb X5.out)
      have HT4 := Aside0.mk (Kd.F_below HT4.out hb)
      have HM5 := Aside0.mk (Kd.F_below HM5.out hb)
      have HF := Aside0.mk hFk
      have HCK := Aside0.mk hck
      clear hck hFk hb
      refine hK.out _ _ ⟨(blk_cell HS.out.b3 3).trans rfl, (blk_cell HS.out.b4 1).trans rfl, X0.out, X1.out, X2.out, X3.out, X4.out, X5.out⟩ (fun hHeld => ?_)
      clear hK K
      refine norm_ (a' := ?_) ?_ ?_
      rotate_left
      · show Act.put _ (some 78) _ = _
        simp only [Act.put, List.setIfInBounds_toArray, List.set_cons_zero, List.set_cons_succ, i64_w, i32_w]
        rfl
      refine pure_ (i := 10) (N := some 68) (v := ?_) (a' := ?_) #[true, true, true, true, true, true, true, true, true, true, true, false, false, false, false, false] rfl rfl (by kernel_rfl) (fun _ _ _ h => h) (Or.inl ⟨by rfl, ?_⟩) ?_ ?_
      rotate_left
      · intro w'
        go_simp
        with_reducible rfl
      rotate_left
      · simp only [Act.put, List.setIfInBounds_toArray, List.set_cons_zero, List.set_cons_succ, i64_w, i32_w]
        rfl
      refine pure_ (i := 11) (N := some 79) (v := ?_) (a' := ?_) #[true, true, true, true, true, true, true, true, true, true, true, true, false, false, false, false] rfl rfl (by kernel_rfl) (fun _ _ _ h => h) (Or.inl ⟨by rfl, ?_⟩) ?_ ?_
      rotate_left
      · intro w'
        go_simp
        with_reducible rfl
      rotate_left
      · simp only [Act.put, List.setIfInBounds_toArray, List.set_cons_zero, List.set_cons_succ, i64_w, i32_w]
        rfl
      refine pure_ (i := 12) (N := some 80) (v := ?_) (a' := ?_) #[true, true, true, true, true, true, true, true, true, true, true, true, true, false, false, false] rfl rfl (by kernel_rfl) (fun _ _ _ h => h) (Or.inl ⟨by rfl, ?_⟩) ?_ ?_
      rotate_left
      · intro w'
        go_simp
        with_reducible rfl
      rotate_left
      · simp only [Act.put, List.setIfInBounds_toArray, List.set_cons_zero, List.set_cons_succ, i64_w, i32_w]
        rfl
      refine one_ (i := 13) (N := some 12) #[true, true, true, true, true, true, true, true, true, true, true, true, true, true, false, false] rfl rfl (by kernel_rfl) (by decide) (fun K hK => ?_)
      refine boxN_step (by rfl) rfl (cs := #[.int .i64 0, .slice none 0 0]) (t := 40) ?_ ?_
      · first | (go_simp; done) | (go_simp; rfl)
      intro g12 hg wa hbox hb
      have HX := Aside0.mk (HS.out.new (Nat.le_of_eq hg.symm) hbox)
      have HF := Aside0.mk (Kd.F_below (Kd.F_elderB HF.out g12 (Nat.le_of_eq hg.symm)) hb)
      have HS := Aside0.mk (HS.out.below hb)
      have X0 := Aside0.mk (cellB hb X0.out)
      have X1 := Aside0.mk (cellB hb X1.out)
      have X2 := Aside0.mk (cellB hb X2.out)
      have X3 := Aside0.mk (cellB hb X3.out)
      have X4 := Aside0.mk (cellB hb X4.out)
      have X5 := Aside0.mk (cellB hb X5.out)
      have HT4 := Aside0.mk (Kd.F_below HT4.out hb)
      have HM5 := Aside0.mk (Kd.F_below HM5.out hb)
      clear hg hbox hb
      refine hK.out _ _ ⟨(blk_cell HS.out.b3 3).trans rfl, (blk_cell HS.out.b4 1).trans rfl, X0.out, X1.out, X2.out, X3.out, X4.out, X5.out⟩ (fun hHeld => ?_)
      clear hK K
      refine norm_ (a' := ?_) ?_ ?_
      rotate_left
      · show Act.put _ (some 12) _ = _
        simp only [Act.put, List.setIfInBounds_toArray, List.set_cons_zero, List.set_cons_succ, i64_w, i32_w]
        rfl
      exact norm_ (by simp only [putAll, Act.put, List.setIfInBounds_toArray, List.set_cons_zero, List.set_cons_succ]) (hCont (g12, Ak, ck) _ ⟨HS.out, HX.out, HCK.out, HF.out⟩)
    · skip
      refine boxN_step (by rfl) rfl (cs := #[.int .i64 0, .slice none 0 0]) (t := 40) ?_ ?_
      · first | (go_simp; done) | (go_simp; rfl)
      intro g12 hg wa hbox hb
      have HX := Aside0.mk (HS.out.new (Nat.le_of_eq hg.symm) hbox)
      have HS := Aside0.mk (HS.out.below hb)
      have X0 := Aside0.mk (cellB hb X0.out)
      have X1 := Aside0.mk (cellB hb X1.out)
      have X2 := Aside0.mk (cellB hb X2.out)
      have X3 := Aside0.mk (cellB hb X3.out)
      have X4 := Aside0.mk (cellB hb X4.out)
      have X5 := Aside0.mk (cellB hb X5.out)
      have HT4 := Aside0.mk (Kd.F_below HT4.out hb)
      have HM5 := Aside0.mk (Kd.F_below HM5.out hb)
      clear hg hbox hb
      refine hK.out _ _ ⟨(blk_cell HS.out.b3 3).trans rfl, (blk_cell HS.out.b4 1).trans rfl, X0.out, X1.out, X2.out, X3.out, X4.out, X5.out⟩ (fun hHeld => ?_)
      clear hK K
      refine norm_ (a' := ?_) ?_ ?_
      rotate_left
      · show Act.put _ (some 12) _ = _
        simp only [Act.put, List.setIfInBounds_toArray, List.set_cons_zero, List.set_cons_succ, i64_w, i32_w]
        rfl
      refine one_ (i := 9) (N := some 78) #[true, true, true, true, true, true, true, true, true, true, false, false, false, true, false, false] rfl rfl (by kernel_rfl) (by decide) (fun K hK => ?_)
      refine goes_ Try.func18 (by kernel_rfl) rfl #[.agg #[.int .i64 x.f0, .string x.f1, .int .i64 x.f2, .slice A4 x.f3.length c4], .agg #[.int .i64 y.f0, .slice A5 y.f1.length c5], .func (.func g) #[] lb] (by rfl) rfl rfl (by simp only [List.map_toArray, List.map_cons, List.map_nil]; rfl) ?_
      refine (ThinkC.within HZ.out HS.out HQ.out (q := fun k => (fun _ => True) k ∧ k ≠ g12) (fun k hk => ⟨trivial, by have h1 := HX.out.wg; have h2 := blk_lt HX.out.b; omega⟩) HP.out HC4.out HC5.out HT4.out HM5.out).mono ?_
      rintro e wb ⟨Ak, ck, rfl, hck, hFk, hb⟩
      refine ⟨_, rfl, ?_⟩
      have HS := Aside0.mk (HS.out.below hb)
      have X0 := Aside0.mk (cellB hb X0.out)
      have X1 := Aside0.mk (cellB hb X1.out)
      have X2 := Aside0.mk (cellB hb X2.out)
      have X3 := Aside0.mk (cellB hb X3.out)
      have X4 := Aside0.mk (cellB hb X4.out)
      have X5 := Aside0.mk (cellB hb X5.out)
      have HT4 := Aside0.mk (Kd.F_below HT4.out hb)
      have HM5 := Aside0.mk (Kd.F_below HM5.out hb)
      have HX := Aside0.mk (HX.out.below hb)
      have HF := Aside0.mk (Kd.F_mono (ok' := fun k => ((Q k ∧ k ≠ g7) ∧ (fun _ => True) k) ∧ k ≠ g12) hFk (fun k hk => ⟨⟨hk.1, hk.2.1⟩, hk.2.2⟩))
      have HCK := Aside0.mk hck
      clear hck hFk hb
      refine hK.out _ _ ⟨(blk_cell HS.out.b3 3).trans rfl, (blk_cell HS.out.b4 1).trans rfl, X0.out, X1.out, X2.out, X3.out, X4.out, X5.out⟩ (fun hHeld => ?_)
      clear hK K
      refine norm_ (a' := ?_) ?_ ?_
      rotate_left
      · show Act.put _ (some 78) _ = _
        simp only [Act.put, List.setIfInBounds_toArray, List.set_cons_zero, List.set_cons_succ, i64_w, i32_w]
        rfl
      refine pure_ (i := 10) (N := some 68) (v := ?_) (a' := ?_) #[true, true, true, true, true, true, true, true, true, true, true, false, false, true, false, false] rfl rfl (by kernel_rfl) (fun _ _ _ h => h) (Or.inl ⟨by rfl, ?_⟩) ?_ ?_
      rotate_left
      · intro w'
        go_simp
        with_reducible rfl
      rotate_left
      · simp only [Act.put, List.setIfInBounds_toArray, List.set_cons_zero, List.set_cons_succ, i64_w, i32_w]
        rfl
      refine pure_ (i := 11) (N := some 79) (v := ?_) (a' := ?_) #[true, true, true, true, true, true, true, true, true, true, true, true, false, true, false, false] rfl rfl (by kernel_rfl) (fun _ _ _ h => h) (Or.inl ⟨by rfl, ?_⟩) ?_ ?_
      rotate_left
      · intro w'
        go_simp
        with_reducible rfl
      rotate_left
      · simp only [Act.put, List.setIfInBounds_toArray, List.set_cons_zero, List.set_cons_succ, i64_w, i32_w]
        rfl
      refine pure_ (i := 12) (N := some 80) (v := ?_) (a' := ?_) #[true, true, true, true, true, true, true, true, true, true, true, true, true, true, false, false] rfl rfl (by kernel_rfl) (fun _ _ _ h => h) (Or.inl ⟨by rfl, ?_⟩) ?_ ?_
      rotate_left
      · intro w'
        go_simp
        with_reducible rfl
      rotate_left
      · simp only [Act.put, List.setIfInBounds_toArray, List.set_cons_zero, List.set_cons_succ, i64_w, i32_w]
        rfl
      exact norm_ (by simp only [putAll, Act.put, List.setIfInBounds_toArray, List.set_cons_zero, List.set_cons_succ]) (hCont (g12, Ak, ck) _ ⟨HS.out, HX.out, HCK.out, HF.out⟩)
  rintro ⟨g12, Ak, ck⟩ wz hFk
  have HFK := Aside0.mk hFk
  clear hFk
  refine norm_ (a' := ?_) ?_ ?_
  rotate_left
  · simp only [putAll, Act.put, List.setIfInBounds_toArray, List.set_cons_zero, List.set_cons_succ]
    rfl
  refine pure_ (i := 14) (N := some 11) (v := ?_) (a' := ?_) #[true, true, true, true, true, true, true, true, true, true, true, true, true, true, true, false] rfl rfl (by kernel_rfl) (fun _ _ _ h => h) (Or.inl ⟨by rfl, ?_⟩) ?_ ?_
  rotate_left
  · intro w'
    go_simp
    with_reducible rfl
  rotate_left
  · simp only [Act.put, List.setIfInBounds_toArray, List.set_cons_zero, List.set_cons_succ, i64_w, i32_w]
    rfl
  refine last_ (i := 15) (N := none) #[true, true, true, true, true, true, true, true, true, true, true, true, true, true, true, true] rfl rfl (by kernel_rfl) (by decide) (fun K hK => ?_)
  have cz0 := (blk_cell HFK.out.2.1.b 0).trans rfl
  have cz1 := (blk_cell HFK.out.2.1.b 1).trans rfl
  have fz0 := blk_frozen HFK.out.2.1.b 0
  have fz1 := blk_frozen HFK.out.2.1.b 1
  refine skip_ (w1 := ?_) (by rfl) rfl ?_ ?_
  rotate_left
  · go_simp
    rfl
  refine hK.out _ _ ?_
  clear hK K
  refine done_ (by kernel_rfl) ?_
  have HP_ := Fk.put HFK.out k0
  have HS := Aside0.mk HP_.1
  have HX := Aside0.mk HP_.2.1
  have HCK := Aside0.mk HP_.2.2.1
  have HF := Aside0.mk HP_.2.2.2
  clear HP_ HFK cz0 cz1 fz0 fz1
  generalize ((wz.setCell ⟨g12, 0, none⟩ (.int .i64 k0)).setCell ⟨g12, 1, none⟩ (.slice Ak k1.length ck)) = wy at HS HX HF ⊢
  have c30 := (blk_cell HS.out.b3 0).trans rfl
  have c31 := (blk_cell HS.out.b3 1).trans rfl
  have c32 := (blk_cell HS.out.b3 2).trans rfl
  have c33 := (blk_cell HS.out.b3 3).trans rfl
  have c40 := (blk_cell HS.out.b4 0).trans rfl
  have c41 := (blk_cell HS.out.b4 1).trans rfl
  go_upto_block 1 with (first | ((with_reducible refine gate_callee (f := 16) rfl ?_); refine goesL_ (some 82) rfl rfl Try.func16 (by kernel_rfl) rfl #[.agg #[.int .i64 6, .string n1, .int .i64 n2, .slice (some ad) 1 c3]] rfl (by (try simp only [zm1, zm2, zm3]); first | done | rfl) ?_; have hcall := blank_call HS.out HQ.out HL.out HC3.out HBL.out HBLL.out; rw [e] at hcall; (refine hcall.mono ?_); clear hcall; rintro e wc ⟨Ab, cb, rfl, hcb, hfb, hgb, hb⟩; refine ⟨_, rfl, ?_⟩; have HOB := Aside0.mk (show 0 < 1 → ∃ gb, Ab = some ⟨gb, 0, none⟩ ∧ OutR Q W wc g3 g4 g7 gb bl from fun hp => (hgb hp).imp fun _ h => ⟨h.1, h.2.2⟩); have HS := Aside0.mk (HS.out.below hb); have HFB := Aside0.mk hfb; have HCB := Aside0.mk hcb; have HX := Aside0.mk (HX.out.below hb); have HF := Aside0.mk (Kd.F_below HF.out hb); clear hcb hfb hgb hb c30 c31 c32 c33 c40 c41) | ((with_reducible refine gate_dst (N := 13) rfl ?_); refine box_event ?hg (N := 13) ?hd (cs := #[.int .i64 0, .slice none 0 0]) (t := 40) ?hr ?_; (case hd => rfl); (case hg => rfl); (case hr => first | (go_simp; done) | (go_simp; rfl)); intro g13 hg wd hbox hb; have HY := Aside0.mk (HS.out.new (Nat.le_of_eq hg.symm) hbox); have HFB := Aside0.mk (Kd.F_below (Kd.F_elderB HFB.out g13 (Nat.le_of_eq hg.symm)) hb); have N12 := Aside0.mk (show g12 ≠ g13 from by have := blk_lt HX.out.b; omega); have HF := Aside0.mk (Kd.F_below (Kd.F_elderB HF.out g13 (Nat.le_of_eq hg.symm)) hb); have HX := Aside0.mk (HX.out.below hb); have HS := Aside0.mk (HS.out.below hb); clear hg hbox hb; have cy0 := (blk_cell HY.out.b 0).trans rfl; have cy1 := (blk_cell HY.out.b 1).trans rfl; have fy0 := blk_frozen HY.out.b 0; have fy1 := blk_frozen HY.out.b 1))
  have HS := Aside0.mk (HS.out.setX HY.out (.int .i64 0) (.slice Ab 1 cb))
  have HX := Aside0.mk ((HX.out.far (p := ⟨g13, 0, none⟩) N12.out (.int .i64 0)).far (p := ⟨g13, 1, none⟩) N12.out (.slice Ab 1 cb))
  have HF := Aside0.mk (Kd.F_mono (ok' := fun k => Q k ∧ k ≠ g7) (Kd.F_far (p := ⟨g13, 1, none⟩) (Kd.F_far (p := ⟨g13, 0, none⟩) HF.out (fun _ hk => hk.2) (.int .i64 0)) (fun _ hk => hk.2) (.slice Ab 1 cb)) (fun _ hk => hk.1.1))
  have HFB := Aside0.mk (Kd.F_far (p := ⟨g13, 1, none⟩) (Kd.F_far (p := ⟨g13, 0, none⟩) HFB.out (fun _ hk => hk.2) (.int .i64 0)) (fun _ hk => hk.2) (.slice Ab 1 cb))
  have HY := Aside0.mk (HY.out.put (.int .i64 0) (.slice Ab 1 cb))
  clear cy0 cy1 fy0 fy1
  generalize ((wd.setCell ⟨g13, 0, none⟩ (.int .i64 0)).setCell ⟨g13, 1, none⟩ (.slice Ab 1 cb)) = we at HS HX HF HFB HY ⊢
  have e0' : r = 0 := e0
  clear e0
  subst e0'
  clear hm0 hm1 hlt
  go_upto_region 20 with (first | fail)
  have HS := Aside0.mk HS.out.drew
  have HY := Aside0.mk HY.out.drew
  have HFB := Aside0.mk (Kd.F_mono (ok' := fun k => Q k ∧ k ≠ g7) (Kd.F_drew HFB.out) fun _ hk => hk.1)
  refine start_ (n := 4) (S := fun w' => w'.cell? ⟨g13, 0, none⟩ = some (.int .i64 0) ∧ w'.cell? ⟨g13, 1, none⟩ = some (.slice Ab 1 cb)) (ds := [3]) #[false, false, false, false] (by kernel_rfl) rfl rfl ⟨(blk_cell HY.out.b 0).trans rfl, (blk_cell HY.out.b 1).trans rfl⟩ (fun hHeld => ?_)
  generalize we.drew = wd at HS HY HFB hHeld ⊢
  refine pure_ (i := 0) (N := some 107) (v := ?_) (a' := ?_) #[true, false, false, false] rfl rfl (by kernel_rfl) (fun _ _ _ h => h) (Or.inl ⟨by rfl, ?_⟩) ?_ ?_
  rotate_left
  · intro w'
    go_simp
    with_reducible rfl
  rotate_left
  · simp only [Act.put, List.setIfInBounds_toArray, List.set_cons_zero, List.set_cons_succ, i64_w, i32_w]
    rfl
  refine pure_ (i := 2) (N := some 6) (v := ?_) (a' := ?_) #[true, false, true, false] rfl rfl (by kernel_rfl) (fun _ _ _ h => h) (Or.inl ⟨by rfl, ?_⟩) ?_ ?_
  rotate_left
  · intro w'
    go_simp
    with_reducible rfl
  rotate_left
  · simp only [Act.put, List.setIfInBounds_toArray, List.set_cons_zero, List.set_cons_succ, i64_w, i32_w]
    rfl
  refine take_ (i := 1) (N := some 108) (v := ?_) (a' := ?_) #[true, true, true, false] rfl rfl (by kernel_rfl) (fun _ _ _ h => h) (Or.inl ⟨by rfl, ?_⟩) hHeld ?_ ?_
  rotate_left
  · rintro w' ⟨s0, s1⟩
    go_simp
    with_reducible rfl
  rotate_left
  · simp only [Act.put, List.setIfInBounds_toArray, List.set_cons_zero, List.set_cons_succ, i64_w, i32_w]
    rfl
  refine last_ (i := 3) (N := none) #[true, true, true, true] rfl rfl (by kernel_rfl) (by decide) (fun K hK => ?_)
  have cz0 := (blk_cell HS.out.b7 0).trans rfl
  have cz1 := (blk_cell HS.out.b7 1).trans rfl
  have fz0 := blk_frozen HS.out.b7 0
  have fz1 := blk_frozen HS.out.b7 1
  refine skip_ (w1 := ?_) (by rfl) rfl ?_ ?_
  rotate_left
  · go_simp
    rfl
  refine hK.out _ _ ?_
  clear hK K
  refine done_ (by kernel_rfl) ?_
  try go_wp2
  refine bodyPost_ret (results_tc rfl _ _ g7 40 #[.int .i64 0, .slice Ab 1 cb] (0, 0) _ rfl (put2 HS.out.b7 _ _) Try.underlying40 rfl (by kernel_rfl)) rfl ?_
  have h1_ := HBLL.out; rw [show (Value.slice Ab 1 cb) = Value.slice Ab bl.length cb from by rw [h1_]]
  exact HS.out.fin HFB.out (by rw [HBLL.out]; exact HCB.out) _ _
set_option maxHeartbeats 8000000 in
set_option maxRecDepth 100000 in
theorem think_again01 (hL : n3.length = L) (hLm : m1.length = L) (hP : Pure W g lb fn an0) (hc3 : L ≤ c3) (hcm : L ≤ cm) (hT : Tr W Al A3 n3) (hM : FM W Q Am m1) (hQ : ∀ k, W.heap.size ≤ k → Q k) (hL1 : L = 1) {z : Int × Md × Unit} {x : Nd} {y : Md} (hx : rdN n3 0 = x) (hy : rdM m1 0 = y) (hz : ThinkC an0 z x y) {kb : Nat} {bl : List Md} (hbl : tourref5_Blank.f kb n0 n1 n2 n3 = some (0, bl)) (hbll : bl.length = L) (hm0 : 0 ≤ m0) (hm1 : m0 ≤ 1000000) (e0 : z.1 = 1) (hlt : ¬ m0 + 1 < n2) (e : n0 = 6) :
    Calls Try.prog 18 #[.agg #[.int .i64 n0, .string n1, .int .i64 n2, .slice A3 L c3], .agg #[.int .i64 m0, .slice Am L cm], .func (.func g) #[] lb] W fun e w' => Ret Q W w' e 1 0 bl := by
  subst hL1
  obtain ⟨r, ⟨k0, k1⟩, u⟩ := z
  have HBL := Aside0.mk hbl
  have HBLL := Aside0.mk hbll
  clear hbl hbll
  have HZ := Aside0.mk hz
  clear hz
  have HL := Aside0.mk hL
  have HLm := Aside0.mk hLm
  have HP := Aside0.mk hP
  have HC3 := Aside0.mk hc3
  have HCM := Aside0.mk hcm
  have HT := Aside0.mk hT
  have HM := Aside0.mk hM
  have HQ := Aside0.mk hQ
  clear hL hLm hP hc3 hcm hT hM hQ
  have Bk1 : (n0 == 1) = false := beqF (by omega)
  have Bk2 : (n0 == 2) = false := beqF (by omega)
  have Bk5 : (n0 == 5) = false := beqF (by omega)
  have Bk6 : (n0 == 6) = true := beqT e
  go_enter Try.func18, Try.ntmps18
  go_upto_region 13 with (first | ((with_reducible refine gate_dst (N := 3) rfl ?_); refine box_event ?hg (N := 3) ?hd (cs := #[.int .i64 n0, .string n1, .int .i64 n2, .slice A3 1 c3]) (t := 25) ?hr ?_; (case hd => rfl); (case hg => rfl); (case hr => first | (go_simp; done) | (go_simp; rfl)); intro g3 hg w1 hbox hb; have E3 := Aside0.mk hg; have BK3 := Aside0.mk hbox; have HB1 := Aside0.mk hb; clear hg hbox hb) | ((with_reducible refine gate_dst (N := 4) rfl ?_); refine box_event ?hg (N := 4) ?hd (cs := #[.int .i64 m0, .slice Am 1 cm]) (t := 40) ?hr ?_; (case hd => rfl); (case hg => rfl); (case hr => first | (go_simp; done) | (go_simp; rfl)); intro g4 hg w2 hbox hb; have E4 := Aside0.mk hg; have BK4 := Aside0.mk hbox; have HB2 := Aside0.mk hb; clear hg hbox hb) | ((with_reducible refine gate_dst (N := 7) rfl ?_); refine box_event ?hg (N := 7) ?hd (cs := #[.int .i64 0, .slice none 0 0]) (t := 40) ?hr ?_; (case hd => rfl); (case hg => rfl); (case hr => first | (go_simp; done) | (go_simp; rfl)); intro g7 hg w3 hbox hb; have HS := Aside0.mk (show Bs Q W w3 g3 g4 g7 n0 n1 n2 n3 A3 1 c3 m0 m1 Am cm from Bs.start HT.out HM.out E3.out BK3.out HB1.out E4.out BK4.out HB2.out hg hbox hb); clear hg hbox hb E3 BK3 HB1 E4 BK4 HB2; have c30 := (blk_cell HS.out.b3 0).trans rfl; have c31 := (blk_cell HS.out.b3 1).trans rfl; have c32 := (blk_cell HS.out.b3 2).trans rfl; have c33 := (blk_cell HS.out.b3 3).trans rfl; have c40 := (blk_cell HS.out.b4 0).trans rfl; have c41 := (blk_cell HS.out.b4 1).trans rfl))
  clear c30 c31 c32 c33 c40 c41
  have HS := Aside0.mk HS.out.drew
  obtain ⟨ad, A4, c4, rfl, hc4, hT4, hcell⟩ := Tr.elem0 HS.out.tn (by rw [HL.out]; decide)
  obtain ⟨ae, A5, c5, rfl, hc5, hM5, y0, y1⟩ := FM.elem0 HS.out.mind (by rw [HLm.out]; decide)
  obtain ⟨x0, x1, x2, x3⟩ := hcell w3.drew (fun _ _ _ => rfl)
  rw [hx] at hc4 hT4 x0 x1 x2 x3
  rw [hy] at hc5 hM5 y0 y1
  have X0 := Aside0.mk x0
  have X1 := Aside0.mk x1
  have X2 := Aside0.mk x2
  have X3 := Aside0.mk x3
  have X4 := Aside0.mk y0
  have X5 := Aside0.mk y1
  have HC4 := Aside0.mk hc4
  have HC5 := Aside0.mk hc5
  have HT4 := Aside0.mk hT4
  have HM5 := Aside0.mk hM5
  clear x0 x1 x2 x3 y0 y1 hc4 hc5 hT4 hM5 hcell
  refine start_ (n := 16) (S := fun w' => w'.cell? ⟨g3, 3, none⟩ = some (.slice (some ad) 1 c3) ∧ w'.cell? ⟨g4, 1, none⟩ = some (.slice (some ae) 1 cm) ∧ w'.cell? ad = some (.int .i64 x.f0) ∧ w'.cell? ⟨ad.block, ad.off + 1, none⟩ = some (.string x.f1) ∧ w'.cell? ⟨ad.block, ad.off + 2, none⟩ = some (.int .i64 x.f2) ∧ w'.cell? ⟨ad.block, ad.off + 3, none⟩ = some (.slice A4 x.f3.length c4) ∧ w'.cell? ae = some (.int .i64 y.f0) ∧ w'.cell? ⟨ae.block, ae.off + 1, none⟩ = some (.slice A5 y.f1.length c5)) (ds := [15]) #[false, false, false, false, false, false, false, false, false, false, false, false, false, false, false, false] (by kernel_rfl) rfl rfl ⟨(blk_cell HS.out.b3 3).trans rfl, (blk_cell HS.out.b4 1).trans rfl, X0.out, X1.out, X2.out, X3.out, X4.out, X5.out⟩ (fun hHeld => ?_)
  generalize w3.drew = wd at HS X0 X1 X2 X3 X4 X5 HT4 HM5 hHeld ⊢
  refine pure_ (i := 0) (N := some 69) (v := ?_) (a' := ?_) #[true, false, false, false, false, false, false, false, false, false, false, false, false, false, false, false] rfl rfl (by kernel_rfl) (fun _ _ _ h => h) (Or.inl ⟨by rfl, ?_⟩) ?_ ?_
  rotate_left
  · intro w'
    go_simp
    with_reducible rfl
  rotate_left
  · simp only [Act.put, List.setIfInBounds_toArray, List.set_cons_zero, List.set_cons_succ, i64_w, i32_w]
    rfl
  refine pure_ (i := 4) (N := some 73) (v := ?_) (a' := ?_) #[true, false, false, false, true, false, false, false, false, false, false, false, false, false, false, false] rfl rfl (by kernel_rfl) (fun _ _ _ h => h) (Or.inl ⟨by rfl, ?_⟩) ?_ ?_
  rotate_left
  · intro w'
    go_simp
    with_reducible rfl
  rotate_left
  · simp only [Act.put, List.setIfInBounds_toArray, List.set_cons_zero, List.set_cons_succ, i64_w, i32_w]
    rfl
  refine pure_ (i := 8) (N := some 77) (v := ?_) (a' := ?_) #[true, false, false, false, true, false, false, false, true, false, false, false, false, false, false, false] rfl rfl (by kernel_rfl) (fun _ _ _ h => h) (Or.inl ⟨by rfl, ?_⟩) ?_ ?_
  rotate_left
  · intro w'
    go_simp
    with_reducible rfl
  rotate_left
  · simp only [Act.put, List.setIfInBounds_toArray, List.set_cons_zero, List.set_cons_succ, i64_w, i32_w]
    rfl
  refine take_ (i := 1) (N := some 70) (v := ?_) (a' := ?_) #[true, true, false, false, true, false, false, false, true, false, false, false, false, false, false, false] rfl rfl (by kernel_rfl) (fun _ _ _ h => h) (Or.inl ⟨by rfl, ?_⟩) hHeld ?_ ?_
  rotate_left
  · rintro w' ⟨s0, s1, s2, s3, s4, s5, s6, s7⟩
    go_simp
    with_reducible rfl
  rotate_left
  · simp only [Act.put, List.setIfInBounds_toArray, List.set_cons_zero, List.set_cons_succ, i64_w, i32_w]
    rfl
  refine pure_ (i := 2) (N := some 71) (v := ?_) (a' := ?_) #[true, true, true, false, true, false, false, false, true, false, false, false, false, false, false, false] rfl rfl (by kernel_rfl) (fun _ _ _ h => h) (Or.inl ⟨by rfl, ?_⟩) ?_ ?_
  rotate_left
  · intro w'
    go_simp
    with_reducible rfl
  rotate_left
  · simp only [Act.put, List.setIfInBounds_toArray, List.set_cons_zero, List.set_cons_succ, i64_w, i32_w]
    rfl
  refine take_ (i := 3) (N := some 72) (v := ?_) (a' := ?_) #[true, true, true, true, true, false, false, false, true, false, false, false, false, false, false, false] rfl rfl (by kernel_rfl) (fun _ _ _ h => h) (Or.inl ⟨by rfl, ?_⟩) hHeld ?_ ?_
  rotate_left
  · rintro w' ⟨s0, s1, s2, s3, s4, s5, s6, s7⟩
    go_simp
    with_reducible rfl
  rotate_left
  · simp only [Act.put, List.setIfInBounds_toArray, List.set_cons_zero, List.set_cons_succ, i64_w, i32_w]
    rfl
  refine take_ (i := 5) (N := some 74) (v := ?_) (a' := ?_) #[true, true, true, true, true, true, false, false, true, false, false, false, false, false, false, false] rfl rfl (by kernel_rfl) (fun _ _ _ h => h) (Or.inl ⟨by rfl, ?_⟩) hHeld ?_ ?_
  rotate_left
  · rintro w' ⟨s0, s1, s2, s3, s4, s5, s6, s7⟩
    go_simp
    with_reducible rfl
  rotate_left
  · simp only [Act.put, List.setIfInBounds_toArray, List.set_cons_zero, List.set_cons_succ, i64_w, i32_w]
    rfl
  refine pure_ (i := 6) (N := some 75) (v := ?_) (a' := ?_) #[true, true, true, true, true, true, true, false, true, false, false, false, false, false, false, false] rfl rfl (by kernel_rfl) (fun _ _ _ h => h) (Or.inl ⟨by rfl, ?_⟩) ?_ ?_
  rotate_left
  · intro w'
    go_simp
    with_reducible rfl
  rotate_left
  · simp only [Act.put, List.setIfInBounds_toArray, List.set_cons_zero, List.set_cons_succ, i64_w, i32_w]
    rfl
  refine take_ (i := 7) (N := some 76) (v := ?_) (a' := ?_) #[true, true, true, true, true, true, true, true, true, false, false, false, false, false, false, false] rfl rfl (by kernel_rfl) (fun _ _ _ h => h) (Or.inl ⟨by rfl, ?_⟩) hHeld ?_ ?_
  rotate_left
  · rintro w' ⟨s0, s1, s2, s3, s4, s5, s6, s7⟩
    go_simp
    with_reducible rfl
  rotate_left
  · simp only [Act.put, List.setIfInBounds_toArray, List.set_cons_zero, List.set_cons_succ, i64_w, i32_w]
    rfl
  refine join_ (σ := Nat × Option Addr × Nat) 2 #[true, true, true, true, true, true, true, true, true, true, true, true, true, true, false, false] (fun s => [(78, .tuple #[.int .i64 r, .agg #[.int .i64 k0, .slice s.2.1 k1.length s.2.2]]), (68, .tuple #[.int .i64 r, .agg #[.int .i64 k0, .slice s.2.1 k1.length s.2.2]]), (79, .int .i64 r), (80, .agg #[.int .i64 k0, .slice s.2.1 k1.length s.2.2]), (12, .pointer (some ⟨s.1, 0, none⟩))]) (fun s w' => Fk Q (fun _ => True) W g3 g4 g7 n0 n1 n2 n3 (some ad) 1 c3 m0 m1 (some ae) cm k1 s w') ?_ ?_
  rotate_left
  · intro hCont
    refine two_ (i := 9) (j := 13) (Ni := some 78) (Nj := some 12) #[true, true, true, true, true, true, true, true, true, true, false, false, false, false, false, false] #[true, true, true, true, true, true, true, true, true, false, false, false, false, true, false, false] rfl rfl rfl rfl (by kernel_rfl) (by decide) (by decide) (fun K hK => ?_) (fun K hK => ?_)
    · skip
      refine goes_ Try.func18 (by kernel_rfl) rfl #[.agg #[.int .i64 x.f0, .string x.f1, .int .i64 x.f2, .slice A4 x.f3.length c4], .agg #[.int .i64 y.f0, .slice A5 y.f1.length c5], .func (.func g) #[] lb] (by rfl) rfl rfl (by simp only [List.map_toArray, List.map_cons, List.map_nil]; rfl) ?_
      refine (ThinkC.within HZ.out HS.out HQ.out (q := fun _ => True) (fun k hk => trivial) HP.out HC4.out HC5.out HT4.out HM5.out).mono ?_
      rintro e wb ⟨Ak, ck, rfl, hck, hFk, hb⟩
      refine ⟨_, rfl, ?_⟩
      have HS := Aside0.mk (HS.out.below hb)
      have X0 := Aside0.mk (cellB hb X0.out)
      have X1 := Aside0.mk (cellB hb X1.out)
      have X2 := Aside0.mk (cellB hb X2.out)
      have X3 := Aside0.mk (cellB hb X3.out)
      have X4 := Aside0.mk (cellB hb X4.out)
      have X5 := Aside0.mk (cellB hb X5.out)
      have HT4 := Aside0.mk (Kd.F_below HT4.out hb)
      have HM5 := Aside0.mk (Kd.F_below HM5.out hb)
      have HF := Aside0.mk hFk
      have HCK := Aside0.mk hck
      clear hck hFk hb
      refine hK.out _ _ ⟨(blk_cell HS.out.b3 3).trans rfl, (blk_cell HS.out.b4 1).trans rfl, X0.out, X1.out, X2.out, X3.out, X4.out, X5.out⟩ (fun hHeld => ?_)
      clear hK K
      refine norm_ (a' := ?_) ?_ ?_
      rotate_left
      · show Act.put _ (some 78) _ = _
        simp only [Act.put, List.setIfInBounds_toArray, List.set_cons_zero, List.set_cons_succ, i64_w, i32_w]
        rfl
      refine pure_ (i := 10) (N := some 68) (v := ?_) (a' := ?_) #[true, true, true, true, true, true, true, true, true, true, true, false, false, false, false, false] rfl rfl (by kernel_rfl) (fun _ _ _ h => h) (Or.inl ⟨by rfl, ?_⟩) ?_ ?_
      rotate_left
      · intro w'
        go_simp
        with_reducible rfl
      rotate_left
      · simp only [Act.put, List.setIfInBounds_toArray, List.set_cons_zero, List.set_cons_succ, i64_w, i32_w]
        rfl
      refine pure_ (i := 11) (N := some 79) (v := ?_) (a' := ?_) #[true, true, true, true, true, true, true, true, true, true, true, true, false, false, false, false] rfl rfl (by kernel_rfl) (fun _ _ _ h => h) (Or.inl ⟨by rfl, ?_⟩) ?_ ?_
      rotate_left
      · intro w'
        go_simp
        with_reducible rfl
      rotate_left
      · simp only [Act.put, List.setIfInBounds_toArray, List.set_cons_zero, List.set_cons_succ, i64_w, i32_w]
        rfl
      refine pure_ (i := 12) (N := some 80) (v := ?_) (a' := ?_) #[true, true, true, true, true, true, true, true, true, true, true, true, true, false, false, false] rfl rfl (by kernel_rfl) (fun _ _ _ h => h) (Or.inl ⟨by rfl, ?_⟩) ?_ ?_
      rotate_left
      · intro w'
        go_simp
        with_reducible rfl
      rotate_left
      · simp only [Act.put, List.setIfInBounds_toArray, List.set_cons_zero, List.set_cons_succ, i64_w, i32_w]
        rfl
      refine one_ (i := 13) (N := some 12) #[true, true, true, true, true, true, true, true, true, true, true, true, true, true, false, false] rfl rfl (by kernel_rfl) (by decide) (fun K hK => ?_)
      refine boxN_step (by rfl) rfl (cs := #[.int .i64 0, .slice none 0 0]) (t := 40) ?_ ?_
      · first | (go_simp; done) | (go_simp; rfl)
      intro g12 hg wa hbox hb
      have HX := Aside0.mk (HS.out.new (Nat.le_of_eq hg.symm) hbox)
      have HF := Aside0.mk (Kd.F_below (Kd.F_elderB HF.out g12 (Nat.le_of_eq hg.symm)) hb)
      have HS := Aside0.mk (HS.out.below hb)
      have X0 := Aside0.mk (cellB hb X0.out)
      have X1 := Aside0.mk (cellB hb X1.out)
      have X2 := Aside0.mk (cellB hb X2.out)
      have X3 := Aside0.mk (cellB hb X3.out)
      have X4 := Aside0.mk (cellB hb X4.out)
      have X5 := Aside0.mk (cellB hb X5.out)
      have HT4 := Aside0.mk (Kd.F_below HT4.out hb)
      have HM5 := Aside0.mk (Kd.F_below HM5.out hb)
      clear hg hbox hb
      refine hK.out _ _ ⟨(blk_cell HS.out.b3 3).trans rfl, (blk_cell HS.out.b4 1).trans rfl, X0.out, X1.out, X2.out, X3.out, X4.out, X5.out⟩ (fun hHeld => ?_)
      clear hK K
      refine norm_ (a' := ?_) ?_ ?_
      rotate_left
      · show Act.put _ (some 12) _ = _
        simp only [Act.put, List.setIfInBounds_toArray, List.set_cons_zero, List.set_cons_succ, i64_w, i32_w]
        rfl
      exact norm_ (by simp only [putAll, Act.put, List.setIfInBounds_toArray, List.set_cons_zero, List.set_cons_succ]) (hCont (g12, Ak, ck) _ ⟨HS.out, HX.out, HCK.out, HF.out⟩)
    · skip
      refine boxN_step (by rfl) rfl (cs := #[.int .i64 0, .slice none 0 0]) (t := 40) ?_ ?_
      · first | (go_simp; done) | (go_simp; rfl)
      intro g12 hg wa hbox hb
      have HX := Aside0.mk (HS.out.new (Nat.le_of_eq hg.symm) hbox)
      have HS := Aside0.mk (HS.out.below hb)
      have X0 := Aside0.mk (cellB hb X0.out)
      have X1 := Aside0.mk (cellB hb X1.out)
      have X2 := Aside0.mk (cellB hb X2.out)
      have X3 := Aside0.mk (cellB hb X3.out)
      have X4 := Aside0.mk (cellB hb X4.out)
      have X5 := Aside0.mk (cellB hb X5.out)
      have HT4 := Aside0.mk (Kd.F_below HT4.out hb)
      have HM5 := Aside0.mk (Kd.F_below HM5.out hb)
      clear hg hbox hb
      refine hK.out _ _ ⟨(blk_cell HS.out.b3 3).trans rfl, (blk_cell HS.out.b4 1).trans rfl, X0.out, X1.out, X2.out, X3.out, X4.out, X5.out⟩ (fun hHeld => ?_)
      clear hK K
      refine norm_ (a' := ?_) ?_ ?_
      rotate_left
      · show Act.put _ (some 12) _ = _
        simp only [Act.put, List.setIfInBounds_toArray, List.set_cons_zero, List.set_cons_succ, i64_w, i32_w]
        rfl
      refine one_ (i := 9) (N := some 78) #[true, true, true, true, true, true, true, true, true, true, false, false, false, true, false, false] rfl rfl (by kernel_rfl) (by decide) (fun K hK => ?_)
      refine goes_ Try.func18 (by kernel_rfl) rfl #[.agg #[.int .i64 x.f0, .string x.f1, .int .i64 x.f2, .slice A4 x.f3.length c4], .agg #[.int .i64 y.f0, .slice A5 y.f1.length c5], .func (.func g) #[] lb] (by rfl) rfl rfl (by simp only [List.map_toArray, List.map_cons, List.map_nil]; rfl) ?_
      refine (ThinkC.within HZ.out HS.out HQ.out (q := fun k => (fun _ => True) k ∧ k ≠ g12) (fun k hk => ⟨trivial, by have h1 := HX.out.wg; have h2 := blk_lt HX.out.b; omega⟩) HP.out HC4.out HC5.out HT4.out HM5.out).mono ?_
      rintro e wb ⟨Ak, ck, rfl, hck, hFk, hb⟩
      refine ⟨_, rfl, ?_⟩
      have HS := Aside0.mk (HS.out.below hb)
      have X0 := Aside0.mk (cellB hb X0.out)
      have X1 := Aside0.mk (cellB hb X1.out)
      have X2 := Aside0.mk (cellB hb X2.out)
      have X3 := Aside0.mk (cellB hb X3.out)
      have X4 := Aside0.mk (cellB hb X4.out)
      have X5 := Aside0.mk (cellB hb X5.out)
      have HT4 := Aside0.mk (Kd.F_below HT4.out hb)
      have HM5 := Aside0.mk (Kd.F_below HM5.out hb)
      have HX := Aside0.mk (HX.out.below hb)
      have HF := Aside0.mk (Kd.F_mono (ok' := fun k => ((Q k ∧ k ≠ g7) ∧ (fun _ => True) k) ∧ k ≠ g12) hFk (fun k hk => ⟨⟨hk.1, hk.2.1⟩, hk.2.2⟩))
      have HCK := Aside0.mk hck
      clear hck hFk hb
      refine hK.out _ _ ⟨(blk_cell HS.out.b3 3).trans rfl, (blk_cell HS.out.b4 1).trans rfl, X0.out, X1.out, X2.out, X3.out, X4.out, X5.out⟩ (fun hHeld => ?_)
      clear hK K
      refine norm_ (a' := ?_) ?_ ?_
      rotate_left
      · show Act.put _ (some 78) _ = _
        simp only [Act.put, List.setIfInBounds_toArray, List.set_cons_zero, List.set_cons_succ, i64_w, i32_w]
        rfl
      refine pure_ (i := 10) (N := some 68) (v := ?_) (a' := ?_) #[true, true, true, true, true, true, true, true, true, true, true, false, false, true, false, false] rfl rfl (by kernel_rfl) (fun _ _ _ h => h) (Or.inl ⟨by rfl, ?_⟩) ?_ ?_
      rotate_left
      · intro w'
        go_simp
        with_reducible rfl
      rotate_left
      · simp only [Act.put, List.setIfInBounds_toArray, List.set_cons_zero, List.set_cons_succ, i64_w, i32_w]
        rfl
      refine pure_ (i := 11) (N := some 79) (v := ?_) (a' := ?_) #[true, true, true, true, true, true, true, true, true, true, true, true, false, true, false, false] rfl rfl (by kernel_rfl) (fun _ _ _ h => h) (Or.inl ⟨by rfl, ?_⟩) ?_ ?_
      rotate_left
      · intro w'
        go_simp
        with_reducible rfl
      rotate_left
      · simp only [Act.put, List.setIfInBounds_toArray, List.set_cons_zero, List.set_cons_succ, i64_w, i32_w]
        rfl
      refine pure_ (i := 12) (N := some 80) (v := ?_) (a' := ?_) #[true, true, true, true, true, true, true, true, true, true, true, true, true, true, false, false] rfl rfl (by kernel_rfl) (fun _ _ _ h => h) (Or.inl ⟨by rfl, ?_⟩) ?_ ?_
      rotate_left
      · intro w'
        go_simp
        with_reducible rfl
      rotate_left
      · simp only [Act.put, List.setIfInBounds_toArray, List.set_cons_zero, List.set_cons_succ, i64_w, i32_w]
        rfl
      exact norm_ (by simp only [putAll, Act.put, List.setIfInBounds_toArray, List.set_cons_zero, List.set_cons_succ]) (hCont (g12, Ak, ck) _ ⟨HS.out, HX.out, HCK.out, HF.out⟩)
  rintro ⟨g12, Ak, ck⟩ wz hFk
  have HFK := Aside0.mk hFk
  clear hFk
  refine norm_ (a' := ?_) ?_ ?_
  rotate_left
  · simp only [putAll, Act.put, List.setIfInBounds_toArray, List.set_cons_zero, List.set_cons_succ]
    rfl
  refine pure_ (i := 14) (N := some 11) (v := ?_) (a' := ?_) #[true, true, true, true, true, true, true, true, true, true, true, true, true, true, true, false] rfl rfl (by kernel_rfl) (fun _ _ _ h => h) (Or.inl ⟨by rfl, ?_⟩) ?_ ?_
  rotate_left
  · intro w'
    go_simp
    with_reducible rfl
  rotate_left
  · simp only [Act.put, List.setIfInBounds_toArray, List.set_cons_zero, List.set_cons_succ, i64_w, i32_w]
    rfl
  refine last_ (i := 15) (N := none) #[true, true, true, true, true, true, true, true, true, true, true, true, true, true, true, true] rfl rfl (by kernel_rfl) (by decide) (fun K hK => ?_)
  have cz0 := (blk_cell HFK.out.2.1.b 0).trans rfl
  have cz1 := (blk_cell HFK.out.2.1.b 1).trans rfl
  have fz0 := blk_frozen HFK.out.2.1.b 0
  have fz1 := blk_frozen HFK.out.2.1.b 1
  refine skip_ (w1 := ?_) (by rfl) rfl ?_ ?_
  rotate_left
  · go_simp
    rfl
  refine hK.out _ _ ?_
  clear hK K
  refine done_ (by kernel_rfl) ?_
  have HP_ := Fk.put HFK.out k0
  have HS := Aside0.mk HP_.1
  have HX := Aside0.mk HP_.2.1
  have HCK := Aside0.mk HP_.2.2.1
  have HF := Aside0.mk HP_.2.2.2
  clear HP_ HFK cz0 cz1 fz0 fz1
  generalize ((wz.setCell ⟨g12, 0, none⟩ (.int .i64 k0)).setCell ⟨g12, 1, none⟩ (.slice Ak k1.length ck)) = wy at HS HX HF ⊢
  have c30 := (blk_cell HS.out.b3 0).trans rfl
  have c31 := (blk_cell HS.out.b3 1).trans rfl
  have c32 := (blk_cell HS.out.b3 2).trans rfl
  have c33 := (blk_cell HS.out.b3 3).trans rfl
  have c40 := (blk_cell HS.out.b4 0).trans rfl
  have c41 := (blk_cell HS.out.b4 1).trans rfl
  go_upto_block 1 with (first | ((with_reducible refine gate_callee (f := 16) rfl ?_); refine goesL_ (some 82) rfl rfl Try.func16 (by kernel_rfl) rfl #[.agg #[.int .i64 6, .string n1, .int .i64 n2, .slice (some ad) 1 c3]] rfl (by (try simp only [zm1, zm2, zm3]); first | done | rfl) ?_; have hcall := blank_call HS.out HQ.out HL.out HC3.out HBL.out HBLL.out; rw [e] at hcall; (refine hcall.mono ?_); clear hcall; rintro e wc ⟨Ab, cb, rfl, hcb, hfb, hgb, hb⟩; refine ⟨_, rfl, ?_⟩; have HOB := Aside0.mk (show 0 < 1 → ∃ gb, Ab = some ⟨gb, 0, none⟩ ∧ OutR Q W wc g3 g4 g7 gb bl from fun hp => (hgb hp).imp fun _ h => ⟨h.1, h.2.2⟩); have HS := Aside0.mk (HS.out.below hb); have HFB := Aside0.mk hfb; have HCB := Aside0.mk hcb; have HX := Aside0.mk (HX.out.below hb); have HF := Aside0.mk (Kd.F_below HF.out hb); clear hcb hfb hgb hb c30 c31 c32 c33 c40 c41) | ((with_reducible refine gate_dst (N := 13) rfl ?_); refine box_event ?hg (N := 13) ?hd (cs := #[.int .i64 0, .slice none 0 0]) (t := 40) ?hr ?_; (case hd => rfl); (case hg => rfl); (case hr => first | (go_simp; done) | (go_simp; rfl)); intro g13 hg wd hbox hb; have HY := Aside0.mk (HS.out.new (Nat.le_of_eq hg.symm) hbox); have HFB := Aside0.mk (Kd.F_below (Kd.F_elderB HFB.out g13 (Nat.le_of_eq hg.symm)) hb); have N12 := Aside0.mk (show g12 ≠ g13 from by have := blk_lt HX.out.b; omega); have HF := Aside0.mk (Kd.F_below (Kd.F_elderB HF.out g13 (Nat.le_of_eq hg.symm)) hb); have HX := Aside0.mk (HX.out.below hb); have HS := Aside0.mk (HS.out.below hb); clear hg hbox hb; have cy0 := (blk_cell HY.out.b 0).trans rfl; have cy1 := (blk_cell HY.out.b 1).trans rfl; have fy0 := blk_frozen HY.out.b 0; have fy1 := blk_frozen HY.out.b 1))
  have HS := Aside0.mk (HS.out.setX HY.out (.int .i64 0) (.slice Ab 1 cb))
  have HX := Aside0.mk ((HX.out.far (p := ⟨g13, 0, none⟩) N12.out (.int .i64 0)).far (p := ⟨g13, 1, none⟩) N12.out (.slice Ab 1 cb))
  have HF := Aside0.mk (Kd.F_mono (ok' := fun k => Q k ∧ k ≠ g7) (Kd.F_far (p := ⟨g13, 1, none⟩) (Kd.F_far (p := ⟨g13, 0, none⟩) HF.out (fun _ hk => hk.2) (.int .i64 0)) (fun _ hk => hk.2) (.slice Ab 1 cb)) (fun _ hk => hk.1.1))
  have HFB := Aside0.mk (Kd.F_far (p := ⟨g13, 1, none⟩) (Kd.F_far (p := ⟨g13, 0, none⟩) HFB.out (fun _ hk => hk.2) (.int .i64 0)) (fun _ hk => hk.2) (.slice Ab 1 cb))
  have HY := Aside0.mk (HY.out.put (.int .i64 0) (.slice Ab 1 cb))
  clear cy0 cy1 fy0 fy1
  generalize ((wd.setCell ⟨g13, 0, none⟩ (.int .i64 0)).setCell ⟨g13, 1, none⟩ (.slice Ab 1 cb)) = we at HS HX HF HFB HY ⊢
  have e0' : r = 1 := e0
  clear e0
  subst e0'
  have hw1 : wrap64 (m0 + 1) = m0 + 1 := w64 (by omega) (by omega)
  have K1 : decide (wrap64 (m0 + 1) < n2) = false := decide_eq_false (by omega)
  clear hm0 hm1 hlt hw1
  have c30 := (blk_cell HS.out.b3 0).trans rfl
  have c31 := (blk_cell HS.out.b3 1).trans rfl
  have c32 := (blk_cell HS.out.b3 2).trans rfl
  have c33 := (blk_cell HS.out.b3 3).trans rfl
  have c40 := (blk_cell HS.out.b4 0).trans rfl
  have c41 := (blk_cell HS.out.b4 1).trans rfl
  go_upto_region 20 with (first | fail)
  clear c30 c31 c32 c33 c40 c41
  have HS := Aside0.mk HS.out.drew
  have HY := Aside0.mk HY.out.drew
  have HFB := Aside0.mk (Kd.F_mono (ok' := fun k => Q k ∧ k ≠ g7) (Kd.F_drew HFB.out) fun _ hk => hk.1)
  refine start_ (n := 4) (S := fun w' => w'.cell? ⟨g13, 0, none⟩ = some (.int .i64 0) ∧ w'.cell? ⟨g13, 1, none⟩ = some (.slice Ab 1 cb)) (ds := [3]) #[false, false, false, false] (by kernel_rfl) rfl rfl ⟨(blk_cell HY.out.b 0).trans rfl, (blk_cell HY.out.b 1).trans rfl⟩ (fun hHeld => ?_)
  generalize we.drew = wd at HS HY HFB hHeld ⊢
  refine pure_ (i := 0) (N := some 107) (v := ?_) (a' := ?_) #[true, false, false, false] rfl rfl (by kernel_rfl) (fun _ _ _ h => h) (Or.inl ⟨by rfl, ?_⟩) ?_ ?_
  rotate_left
  · intro w'
    go_simp
    with_reducible rfl
  rotate_left
  · simp only [Act.put, List.setIfInBounds_toArray, List.set_cons_zero, List.set_cons_succ, i64_w, i32_w]
    rfl
  refine pure_ (i := 2) (N := some 6) (v := ?_) (a' := ?_) #[true, false, true, false] rfl rfl (by kernel_rfl) (fun _ _ _ h => h) (Or.inl ⟨by rfl, ?_⟩) ?_ ?_
  rotate_left
  · intro w'
    go_simp
    with_reducible rfl
  rotate_left
  · simp only [Act.put, List.setIfInBounds_toArray, List.set_cons_zero, List.set_cons_succ, i64_w, i32_w]
    rfl
  refine take_ (i := 1) (N := some 108) (v := ?_) (a' := ?_) #[true, true, true, false] rfl rfl (by kernel_rfl) (fun _ _ _ h => h) (Or.inl ⟨by rfl, ?_⟩) hHeld ?_ ?_
  rotate_left
  · rintro w' ⟨s0, s1⟩
    go_simp
    with_reducible rfl
  rotate_left
  · simp only [Act.put, List.setIfInBounds_toArray, List.set_cons_zero, List.set_cons_succ, i64_w, i32_w]
    rfl
  refine last_ (i := 3) (N := none) #[true, true, true, true] rfl rfl (by kernel_rfl) (by decide) (fun K hK => ?_)
  have cz0 := (blk_cell HS.out.b7 0).trans rfl
  have cz1 := (blk_cell HS.out.b7 1).trans rfl
  have fz0 := blk_frozen HS.out.b7 0
  have fz1 := blk_frozen HS.out.b7 1
  refine skip_ (w1 := ?_) (by rfl) rfl ?_ ?_
  rotate_left
  · go_simp
    rfl
  refine hK.out _ _ ?_
  clear hK K
  refine done_ (by kernel_rfl) ?_
  try go_wp2
  refine bodyPost_ret (results_tc rfl _ _ g7 40 #[.int .i64 0, .slice Ab 1 cb] (0, 0) _ rfl (put2 HS.out.b7 _ _) Try.underlying40 rfl (by kernel_rfl)) rfl ?_
  have h1_ := HBLL.out; rw [show (Value.slice Ab 1 cb) = Value.slice Ab bl.length cb from by rw [h1_]]
  exact HS.out.fin HFB.out (by rw [HBLL.out]; exact HCB.out) _ _
end
end Go.Proofs.Ytbpgfjfkogdolaa.TreeThinkWalkTreeTells
