/- The walk of the reference's Think, a kind of node at a time. Under no condition but what stands at each. -/
import Derived.Test.YtbpgfjfkogdolaaTreeThinkMemTreeTells
import Derived.Outline
namespace Go.Proofs.Ytbpgfjfkogdolaa.TreeThinkListTreeTells
open Go Go.RowKit Go.Proofs.YtbpgfjfkogdolaaW.PrintWords Go.Proofs.YtbpgfjfkogdolaaW.PrintLast Go.Proofs.YtbpgfjfkogdolaaW.PrintMore Go.Proofs.Ytbpgfjfkogdolaa.PTreeTells Go.Proofs.Ytbpgfjfkogdolaa.Fnv Go.Proofs.Ytbpgfjfkogdolaa.TreeTickTreeTells Go.Proofs.Ytbpgfjfkogdolaa.TreePlainTreeTells Go.Proofs.Ytbpgfjfkogdolaa.TreeMemTreeTells Go.Proofs.Ytbpgfjfkogdolaa.TreeMindTreeTells Go.Proofs.Ytbpgfjfkogdolaa.TreeThinkTreeTells Go.Proofs.Ytbpgfjfkogdolaa.TreeStepsTreeTells Go.Proofs.Ytbpgfjfkogdolaa.TreeTopTreeTells Go.Proofs.Ytbpgfjfkogdolaa.TreeThinkMemTreeTells Go.Proofs.Ytbpgfjfkogdolaa.TreeEvTreeTells
set_option linter.unusedVariables false
set_option linter.unusedSimpArgs false
section
variable {an0 : ByteArray → Int} {Q : Nat → Prop} {W : World} {g : FuncId} {lb : Array Value} {fn : Func} {n0 n2 m0 : Int} {n1 : ByteArray} {n3 : List Nd} {A3 Am : Option Addr} {L c3 cm : Nat} {m1 : List Md}
set_option maxHeartbeats 8000000 in
set_option maxRecDepth 100000 in
theorem think_list3 (hL : n3.length = L) (hLm : m1.length = L) (hP : Pure W g lb fn an0) (hc3 : L ≤ c3) (hcm : L ≤ cm) (hT : Tr W Al A3 n3) (hM : FM W Q Am m1) (hQ : ∀ k, W.heap.size ≤ k → Q k) (hmax : L ≤ 1000000) (hm0 : 0 ≤ m0) (hm1 : m0 ≤ L) {kb : Nat} {bl : List Md} (hbl : tourref5_Blank.f kb n0 n1 n2 n3 = some (0, bl)) (hbll : bl.length = L) {Th : Nd → Md → Unit → Int × Md × Unit} (ih : ∀ i : Int, 0 ≤ i → i < L → ThinkC an0 (Th (rdN n3 i) (rdM m1 i) ()) (rdN n3 i) (rdM m1 i)) {zz : Int × Md × Unit} (hzz : thinkL Th ⟨0, bl⟩ n0 m0.toNat (n3.drop m0.toNat) (m1.drop m0.toNat) () = zz) (e : n0 = 3) :
    Calls Try.prog 18 #[.agg #[.int .i64 n0, .string n1, .int .i64 n2, .slice A3 L c3], .agg #[.int .i64 m0, .slice Am L cm], .func (.func g) #[] lb] W fun e w' => Ret Q W w' e zz.1 zz.2.1.f0 zz.2.1.f1 := by
  subst e
  have HBL := Aside0.mk hbl
  have HBLL := Aside0.mk hbll
  have IH := Aside0.mk ih
  have HZZ := Aside0.mk hzz
  have HM0 := Aside0.mk (show 0 ≤ m0 ∧ m0.toNat + (L - m0.toNat) = L from ⟨hm0, by omega⟩)
  have HMX := Aside0.mk hmax
  clear hbl hbll ih hzz hm0 hm1 hmax
  have HL := Aside0.mk hL
  have HLm := Aside0.mk hLm
  have HP := Aside0.mk hP
  have HC3 := Aside0.mk hc3
  have HCM := Aside0.mk hcm
  have HT := Aside0.mk hT
  have HM := Aside0.mk hM
  have HQ := Aside0.mk hQ
  clear hL hLm hP hc3 hcm hT hM hQ
  go_enter Try.func18, Try.ntmps18
  go_upto_region 23 with (first | ((with_reducible refine gate_dst (N := 3) rfl ?_); refine box_event ?hg (N := 3) ?hd (cs := #[.int .i64 (3 : Int), .string n1, .int .i64 n2, .slice A3 L c3]) (t := 25) ?hr ?_; (case hd => rfl); (case hg => rfl); (case hr => first | (go_simp; done) | (go_simp; rfl)); intro g3 hg w1 hbox hb; have E3 := Aside0.mk hg; have BK3 := Aside0.mk hbox; have HB1 := Aside0.mk hb; clear hg hbox hb) | ((with_reducible refine gate_dst (N := 4) rfl ?_); refine box_event ?hg (N := 4) ?hd (cs := #[.int .i64 m0, .slice Am L cm]) (t := 40) ?hr ?_; (case hd => rfl); (case hg => rfl); (case hr => first | (go_simp; done) | (go_simp; rfl)); intro g4 hg w2 hbox hb; have E4 := Aside0.mk hg; have BK4 := Aside0.mk hbox; have HB2 := Aside0.mk hb; clear hg hbox hb) | ((with_reducible refine gate_dst (N := 7) rfl ?_); refine box_event ?hg (N := 7) ?hd (cs := #[.int .i64 0, .slice none 0 0]) (t := 40) ?hr ?_; (case hd => rfl); (case hg => rfl); (case hr => first | (go_simp; done) | (go_simp; rfl)); intro g7 hg w3 hbox hb; have HS := Aside0.mk (show Bs Q W w3 g3 g4 g7 (3 : Int) n1 n2 n3 A3 L c3 m0 m1 Am cm from Bs.start HT.out HM.out E3.out BK3.out HB1.out E4.out BK4.out HB2.out hg hbox hb); clear hg hbox hb E3 BK3 HB1 E4 BK4 HB2; have c30 := (blk_cell HS.out.b3 0).trans rfl; have c31 := (blk_cell HS.out.b3 1).trans rfl; have c32 := (blk_cell HS.out.b3 2).trans rfl; have c33 := (blk_cell HS.out.b3 3).trans rfl; have c40 := (blk_cell HS.out.b4 0).trans rfl; have c41 := (blk_cell HS.out.b4 1).trans rfl) | ((with_reducible refine gate_callee (f := 36) rfl ?_); refine goesL_ (some 117) rfl rfl Try.func36 (by kernel_rfl) rfl #[.bool true] rfl (by (try simp only [zm1, zm2, zm3]); first | done | rfl) ?_; (refine (tourref5_one.calls true 1 _ rfl).mono ?_); rintro e wo ⟨rfl, hb0⟩; refine ⟨_, rfl, ?_⟩; have HS := Aside0.mk (HS.out.below hb0.below); clear hb0 c30 c31 c32 c33 c40 c41; have c30 := (blk_cell HS.out.b3 0).trans rfl; have c31 := (blk_cell HS.out.b3 1).trans rfl; have c32 := (blk_cell HS.out.b3 2).trans rfl; have c33 := (blk_cell HS.out.b3 3).trans rfl; have c40 := (blk_cell HS.out.b4 0).trans rfl; have c41 := (blk_cell HS.out.b4 1).trans rfl) | ((with_reducible refine gate_callee (f := 16) rfl ?_); refine goesL_ (some 119) rfl rfl Try.func16 (by kernel_rfl) rfl #[.agg #[.int .i64 (3 : Int), .string n1, .int .i64 n2, .slice A3 L c3]] rfl (by (try simp only [zm1, zm2, zm3]); first | done | rfl) ?_; have hcall := blank_call HS.out HQ.out HL.out HC3.out HBL.out HBLL.out; (refine hcall.mono ?_); clear hcall; rintro e wc ⟨Ab, cb, rfl, hcb, hfb, hgb, hb⟩; refine ⟨_, rfl, ?_⟩; have HOB := Aside0.mk (show 0 < L → ∃ gb, Ab = some ⟨gb, 0, none⟩ ∧ OutR Q W wc g3 g4 g7 gb bl from fun hp => (hgb hp).imp fun _ h => ⟨h.1, h.2.2⟩); have HS := Aside0.mk (HS.out.below hb); have HFB := Aside0.mk hfb; have HCB := Aside0.mk hcb; clear hcb hfb hgb hb c30 c31 c32 c33 c40 c41) | ((with_reducible refine gate_dst (N := 15) rfl ?_); refine box_event ?hg (N := 15) ?hd (cs := #[.int .i64 0, .slice none 0 0]) (t := 40) ?hr ?_; (case hd => rfl); (case hg => rfl); (case hr => first | (go_simp; done) | (go_simp; rfl)); intro g15 hg wd hbox hb; have HY := Aside0.mk (HS.out.new (Nat.le_of_eq hg.symm) hbox); have HFB := Aside0.mk (Kd.F_below (Kd.F_elderB HFB.out g15 (Nat.le_of_eq hg.symm)) hb); have HO := Aside0.mk (show 0 < L → ∃ gb, Ab = some ⟨gb, 0, none⟩ ∧ OutS Q Al W wd g3 g4 g7 g15 gb bl from fun hp => (HOB.out hp).imp fun _ h => ⟨h.1, OutS.of h.2 (Nat.le_of_eq hg.symm) hb⟩); clear HOB; have HS := Aside0.mk (HS.out.below hb); clear hg hbox hb; have cy0 := (blk_cell HY.out.b 0).trans rfl; have cy1 := (blk_cell HY.out.b 1).trans rfl; have fy0 := blk_frozen HY.out.b 0; have fy1 := blk_frozen HY.out.b 1))
  have HS := Aside0.mk (HS.out.setX HY.out (.int .i64 0) (.slice Ab L cb))
  have HO := Aside0.mk (show 0 < L → ∃ gb, Ab = some ⟨gb, 0, none⟩ ∧ OutS Q Al W ((wd.setCell ⟨g15, 0, none⟩ (.int .i64 0)).setCell ⟨g15, 1, none⟩ (.slice Ab L cb)) g3 g4 g7 g15 gb bl from fun hp => (HO.out hp).imp fun _ h => ⟨h.1, (h.2.put15 0 _).put15 1 _⟩)
  have HY := Aside0.mk (HY.out.put (.int .i64 0) (.slice Ab L cb))
  clear cy0 cy1 fy0 fy1 HFB
  generalize ((wd.setCell ⟨g15, 0, none⟩ (.int .i64 0)).setCell ⟨g15, 1, none⟩ (.slice Ab L cb)) = we at HS HO HY ⊢
  have c40 := (blk_cell HS.out.b4 0).trans rfl
  go_wp2
  clear c40
  go_loopg [16] (L - m0.toNat) (fun kq v16 wr => ∃ i : Int, v16 = .int .i64 i ∧ Aside0 (0 ≤ i ∧ i.toNat + kq = L) ∧ Aside0 (thinkL Th ⟨0, bl⟩ (3 : Int) i.toNat (n3.drop i.toNat) (m1.drop i.toNat) () = zz) ∧ Aside0 (Bs Q W wr g3 g4 g7 (3 : Int) n1 n2 n3 A3 L c3 m0 m1 Am cm) ∧ Aside0 (Bx W wr g3 g4 g7 g15 (boxM 0 Ab L cb)) ∧ Aside0 (0 < L → ∃ gb, Ab = some ⟨gb, 0, none⟩ ∧ OutS Q Al W wr g3 g4 g7 g15 gb bl))
  case atStart => exact ⟨m0, rfl, HM0, HZZ, HS, HY, HO⟩
  case round =>
    clear HS HY HO HZZ HM0
    obtain ⟨i, rfl, HI, HF0, HS, HY, HO⟩ := hrel
    by_cases hi : i < (L : Int)
    · have h0 := HI.out.1
      have HIL := Aside0.mk hi
      obtain ⟨gb, rfl, ho⟩ := HO.out (by omega)
      clear HO
      have HO := Aside0.mk ho
      clear ho
      obtain ⟨x, hx⟩ : ∃ x, rdN n3 i = x := ⟨_, rfl⟩
      obtain ⟨y, hy⟩ : ∃ y, rdM m1 i = y := ⟨_, rfl⟩
      obtain ⟨⟨r, ⟨k0, k1⟩, u⟩, hz⟩ : ∃ z, Th x y () = z := ⟨_, rfl⟩
      have HZ := Aside0.mk (show ThinkC an0 (r, ⟨k0, k1⟩, u) x y from by rw [← hz, ← hx, ← hy]; exact IH.out i h0 hi)
      have hF := HF0.out
      rw [thinkL_step Th ⟨0, bl⟩ (3 : Int) HL.out HLm.out i h0 hi, hx, hy, hz] at hF
      dsimp only at hF
      have HF1 := Aside0.mk hF
      clear hF HF0 hz
      have c33 := (blk_cell HS.out.b3 3).trans rfl
      have p0 := eq_true h0
      have q0 := eq_true hi
      have hib : decide (i < (L : Int)) = true := decide_eq_true hi
      clear h0 hi
      go_upto_region 26 with (fail)
      clear c33
      have HS := Aside0.mk HS.out.drew
      have HY := Aside0.mk HY.out.drew
      have HO := Aside0.mk (HO.out.below (Below.refl _ _).drew)
      obtain ⟨ad, A4, c4, rfl, hc4, hT4, hcell⟩ := Tr.elem HS.out.tn i HI.out.1 (by rw [HL.out]; exact HIL.out)
      obtain ⟨ae, A5, c5, rfl, hc5, hM5, y0, y1⟩ := FM.elem HS.out.mind i HI.out.1 (by rw [HLm.out]; exact HIL.out)
      obtain ⟨x0, x1, x2, x3⟩ := hcell wr.drew (fun _ _ _ => rfl)
      rw [hx] at hc4 hT4 x0 x1 x2 x3
      rw [hy] at hc5 hM5 y0 y1
      have X0 := Aside0.mk x0
      have X1 := Aside0.mk x1
      have X2 := Aside0.mk x2
      have X3 := Aside0.mk x3
      have X4 := Aside0.mk y0
      have X5 := Aside0.mk y1
      have HC4 := Aside0.mk hc4
      have HC5 := Aside0.mk hc5
      have HT4 := Aside0.mk hT4
      have HM5 := Aside0.mk hM5
      clear x0 x1 x2 x3 y0 y1 hc4 hc5 hT4 hM5 hcell hx hy
      refine start_ (n := 18) (S := fun w' => w'.cell? ⟨g3, 3, none⟩ = some (.slice (some ad) L c3) ∧ w'.cell? ⟨g4, 1, none⟩ = some (.slice (some ae) L cm) ∧ w'.cell? (ad.add (i.toNat * 4)) = some (.int .i64 x.f0) ∧ w'.cell? ⟨(ad.add (i.toNat * 4)).block, (ad.add (i.toNat * 4)).off + 1, none⟩ = some (.string x.f1) ∧ w'.cell? ⟨(ad.add (i.toNat * 4)).block, (ad.add (i.toNat * 4)).off + 2, none⟩ = some (.int .i64 x.f2) ∧ w'.cell? ⟨(ad.add (i.toNat * 4)).block, (ad.add (i.toNat * 4)).off + 3, none⟩ = some (.slice A4 x.f3.length c4) ∧ w'.cell? (ae.add (i.toNat * 2)) = some (.int .i64 y.f0) ∧ w'.cell? ⟨(ae.add (i.toNat * 2)).block, (ae.add (i.toNat * 2)).off + 1, none⟩ = some (.slice A5 y.f1.length c5)) (ds := [17]) #[false, false, false, false, false, false, false, false, false, false, false, false, false, false, false, false, false, false] (by kernel_rfl) rfl rfl ⟨(blk_cell HS.out.b3 3).trans rfl, (blk_cell HS.out.b4 1).trans rfl, X0.out, X1.out, X2.out, X3.out, X4.out, X5.out⟩ (fun hHeld => ?_)
      generalize wr.drew = wd at HS X0 X1 X2 X3 X4 X5 HT4 HM5 HY HO hHeld ⊢
      refine pure_ (i := 0) (N := some 130) (v := ?_) (a' := ?_) #[true, false, false, false, false, false, false, false, false, false, false, false, false, false, false, false, false, false] rfl rfl (by kernel_rfl) (fun _ _ _ h => h) (Or.inl ⟨by rfl, ?_⟩) ?_ ?_
      rotate_left
      · intro w'
        go_simp
        with_reducible rfl
      rotate_left
      · simp only [Act.put, List.setIfInBounds_toArray, List.set_cons_zero, List.set_cons_succ, i64_w, i32_w]
        rfl
      refine pure_ (i := 2) (N := some 132) (v := ?_) (a' := ?_) #[true, false, true, false, false, false, false, false, false, false, false, false, false, false, false, false, false, false] rfl rfl (by kernel_rfl) (fun _ _ _ h => h) (Or.inl ⟨by rfl, ?_⟩) ?_ ?_
      rotate_left
      · intro w'
        go_simp
        with_reducible rfl
      rotate_left
      · simp only [Act.put, List.setIfInBounds_toArray, List.set_cons_zero, List.set_cons_succ, i64_w, i32_w]
        rfl
      refine pure_ (i := 5) (N := some 135) (v := ?_) (a' := ?_) #[true, false, true, false, false, true, false, false, false, false, false, false, false, false, false, false, false, false] rfl rfl (by kernel_rfl) (fun _ _ _ h => h) (Or.inl ⟨by rfl, ?_⟩) ?_ ?_
      rotate_left
      · intro w'
        go_simp
        with_reducible rfl
      rotate_left
      · simp only [Act.put, List.setIfInBounds_toArray, List.set_cons_zero, List.set_cons_succ, i64_w, i32_w]
        rfl
      refine pure_ (i := 7) (N := some 137) (v := ?_) (a' := ?_) #[true, false, true, false, false, true, false, true, false, false, false, false, false, false, false, false, false, false] rfl rfl (by kernel_rfl) (fun _ _ _ h => h) (Or.inl ⟨by rfl, ?_⟩) ?_ ?_
      rotate_left
      · intro w'
        go_simp
        with_reducible rfl
      rotate_left
      · simp only [Act.put, List.setIfInBounds_toArray, List.set_cons_zero, List.set_cons_succ, i64_w, i32_w]
        rfl
      refine pure_ (i := 10) (N := some 140) (v := ?_) (a' := ?_) #[true, false, true, false, false, true, false, true, false, false, true, false, false, false, false, false, false, false] rfl rfl (by kernel_rfl) (fun _ _ _ h => h) (Or.inl ⟨by rfl, ?_⟩) ?_ ?_
      rotate_left
      · intro w'
        go_simp
        with_reducible rfl
      rotate_left
      · simp only [Act.put, List.setIfInBounds_toArray, List.set_cons_zero, List.set_cons_succ, i64_w, i32_w]
        rfl
      refine take_ (i := 1) (N := some 131) (v := ?_) (a' := ?_) #[true, true, true, false, false, true, false, true, false, false, true, false, false, false, false, false, false, false] rfl rfl (by kernel_rfl) (fun _ _ _ h => h) (Or.inl ⟨by rfl, ?_⟩) hHeld ?_ ?_
      rotate_left
      · rintro w' ⟨s0, s1, s2, s3, s4, s5, s6, s7⟩
        go_simp
        with_reducible rfl
      rotate_left
      · simp only [Act.put, List.setIfInBounds_toArray, List.set_cons_zero, List.set_cons_succ, i64_w, i32_w]
        rfl
      refine pure_ (i := 3) (N := some 133) (v := ?_) (a' := ?_) #[true, true, true, true, false, true, false, true, false, false, true, false, false, false, false, false, false, false] rfl rfl (by kernel_rfl) (fun _ _ _ h => h) (Or.inl ⟨by rfl, ?_⟩) ?_ ?_
      rotate_left
      · intro w'
        go_simp
        with_reducible rfl
      rotate_left
      · simp only [Act.put, List.setIfInBounds_toArray, List.set_cons_zero, List.set_cons_succ, i64_w, i32_w]
        rfl
      refine take_ (i := 4) (N := some 134) (v := ?_) (a' := ?_) #[true, true, true, true, true, true, false, true, false, false, true, false, false, false, false, false, false, false] rfl rfl (by kernel_rfl) (fun _ _ _ h => h) (Or.inl ⟨by rfl, ?_⟩) hHeld ?_ ?_
      rotate_left
      · rintro w' ⟨s0, s1, s2, s3, s4, s5, s6, s7⟩
        go_simp
        with_reducible rfl
      rotate_left
      · simp only [Act.put, List.setIfInBounds_toArray, List.set_cons_zero, List.set_cons_succ, i64_w, i32_w]
        rfl
      refine take_ (i := 6) (N := some 136) (v := ?_) (a' := ?_) #[true, true, true, true, true, true, true, true, false, false, true, false, false, false, false, false, false, false] rfl rfl (by kernel_rfl) (fun _ _ _ h => h) (Or.inl ⟨by rfl, ?_⟩) hHeld ?_ ?_
      rotate_left
      · rintro w' ⟨s0, s1, s2, s3, s4, s5, s6, s7⟩
        go_simp
        with_reducible rfl
      rotate_left
      · simp only [Act.put, List.setIfInBounds_toArray, List.set_cons_zero, List.set_cons_succ, i64_w, i32_w]
        rfl
      refine pure_ (i := 8) (N := some 138) (v := ?_) (a' := ?_) #[true, true, true, true, true, true, true, true, true, false, true, false, false, false, false, false, false, false] rfl rfl (by kernel_rfl) (fun _ _ _ h => h) (Or.inl ⟨by rfl, ?_⟩) ?_ ?_
      rotate_left
      · intro w'
        go_simp
        with_reducible rfl
      rotate_left
      · simp only [Act.put, List.setIfInBounds_toArray, List.set_cons_zero, List.set_cons_succ, i64_w, i32_w]
        rfl
      refine take_ (i := 9) (N := some 139) (v := ?_) (a' := ?_) #[true, true, true, true, true, true, true, true, true, true, true, false, false, false, false, false, false, false] rfl rfl (by kernel_rfl) (fun _ _ _ h => h) (Or.inl ⟨by rfl, ?_⟩) hHeld ?_ ?_
      rotate_left
      · rintro w' ⟨s0, s1, s2, s3, s4, s5, s6, s7⟩
        go_simp
        with_reducible rfl
      rotate_left
      · simp only [Act.put, List.setIfInBounds_toArray, List.set_cons_zero, List.set_cons_succ, i64_w, i32_w]
        rfl
      refine join_ (σ := Nat × Option Addr × Nat) 2 #[true, true, true, true, true, true, true, true, true, true, true, true, true, true, true, true, false, false] (fun s => [(141, .tuple #[.int .i64 r, .agg #[.int .i64 k0, .slice s.2.1 k1.length s.2.2]]), (129, .tuple #[.int .i64 r, .agg #[.int .i64 k0, .slice s.2.1 k1.length s.2.2]]), (142, .int .i64 r), (143, .agg #[.int .i64 k0, .slice s.2.1 k1.length s.2.2]), (18, .pointer (some ⟨s.1, 0, none⟩))]) (fun s w' => Fk Q (fun k => k ≠ g15 ∧ k ≠ gb) W g3 g4 g7 (3 : Int) n1 n2 n3 (some ad) L c3 m0 m1 (some ae) cm k1 s w' ∧ (Bx W w' g3 g4 g7 g15 (boxM 0 (some ⟨gb, 0, none⟩) L cb) ∧ OutS Q (fun k => k ≠ s.1) W w' g3 g4 g7 g15 gb bl ∧ g15 ≠ s.1 ∧ gb ≠ s.1)) ?_ ?_
      rotate_left
      · intro hCont
        refine two_ (i := 11) (j := 15) (Ni := some 141) (Nj := some 18) #[true, true, true, true, true, true, true, true, true, true, true, true, false, false, false, false, false, false] #[true, true, true, true, true, true, true, true, true, true, true, false, false, false, false, true, false, false] rfl rfl rfl rfl (by kernel_rfl) (by decide) (by decide) (fun K hK => ?_) (fun K hK => ?_)
        · skip
          refine goes_ Try.func18 (by kernel_rfl) rfl #[.agg #[.int .i64 x.f0, .string x.f1, .int .i64 x.f2, .slice A4 x.f3.length c4], .agg #[.int .i64 y.f0, .slice A5 y.f1.length c5], .func (.func g) #[] lb] (by rfl) rfl rfl (by simp only [List.map_toArray, List.map_cons, List.map_nil]; rfl) ?_
          refine (ThinkC.within HZ.out HS.out HQ.out (q := fun k => k ≠ g15 ∧ k ≠ gb) (fun k hk => ⟨by have h1 := HY.out.wg; have h2 := blk_lt HY.out.b; omega, by have h1 := HO.out.wg; have h2 := HO.out.row.lt; omega⟩) HP.out HC4.out HC5.out HT4.out HM5.out).mono ?_
          rintro e wb ⟨Ak, ck, rfl, hck, hFk, hb⟩
          refine ⟨_, rfl, ?_⟩
          have HS := Aside0.mk (HS.out.below hb)
          have X0 := Aside0.mk (cellB hb X0.out)
          have X1 := Aside0.mk (cellB hb X1.out)
          have X2 := Aside0.mk (cellB hb X2.out)
          have X3 := Aside0.mk (cellB hb X3.out)
          have X4 := Aside0.mk (cellB hb X4.out)
          have X5 := Aside0.mk (cellB hb X5.out)
          have HT4 := Aside0.mk (Kd.F_below HT4.out hb)
          have HM5 := Aside0.mk (Kd.F_below HM5.out hb)
          have HY := Aside0.mk (HY.out.below hb)
          have HO := Aside0.mk (HO.out.below hb)
          have HF := Aside0.mk hFk
          have HCK := Aside0.mk hck
          clear hck hFk hb
          refine hK.out _ _ ⟨(blk_cell HS.out.b3 3).trans rfl, (blk_cell HS.out.b4 1).trans rfl, X0.out, X1.out, X2.out, X3.out, X4.out, X5.out⟩ (fun hHeld => ?_)
          clear hK K
          refine norm_ (a' := ?_) ?_ ?_
          rotate_left
          · show Act.put _ (some 141) _ = _
            simp only [Act.put, List.setIfInBounds_toArray, List.set_cons_zero, List.set_cons_succ, i64_w, i32_w]
            rfl
          refine pure_ (i := 12) (N := some 129) (v := ?_) (a' := ?_) #[true, true, true, true, true, true, true, true, true, true, true, true, true, false, false, false, false, false] rfl rfl (by kernel_rfl) (fun _ _ _ h => h) (Or.inl ⟨by rfl, ?_⟩) ?_ ?_
          rotate_left
          · intro w'
            go_simp
            with_reducible rfl
          rotate_left
          · simp only [Act.put, List.setIfInBounds_toArray, List.set_cons_zero, List.set_cons_succ, i64_w, i32_w]
            rfl
          refine pure_ (i := 13) (N := some 142) (v := ?_) (a' := ?_) #[true, true, true, true, true, true, true, true, true, true, true, true, true, true, false, false, false, false] rfl rfl (by kernel_rfl) (fun _ _ _ h => h) (Or.inl ⟨by rfl, ?_⟩) ?_ ?_
          rotate_left
          · intro w'
            go_simp
            with_reducible rfl
          rotate_left
          · simp only [Act.put, List.setIfInBounds_toArray, List.set_cons_zero, List.set_cons_succ, i64_w, i32_w]
            rfl
          refine pure_ (i := 14) (N := some 143) (v := ?_) (a' := ?_) #[true, true, true, true, true, true, true, true, true, true, true, true, true, true, true, false, false, false] rfl rfl (by kernel_rfl) (fun _ _ _ h => h) (Or.inl ⟨by rfl, ?_⟩) ?_ ?_
          rotate_left
          · intro w'
            go_simp
            with_reducible rfl
          rotate_left
          · simp only [Act.put, List.setIfInBounds_toArray, List.set_cons_zero, List.set_cons_succ, i64_w, i32_w]
            rfl
          refine one_ (i := 15) (N := some 18) #[true, true, true, true, true, true, true, true, true, true, true, true, true, true, true, true, false, false] rfl rfl (by kernel_rfl) (by decide) (fun K hK => ?_)
          refine boxN_step (by rfl) rfl (cs := #[.int .i64 0, .slice none 0 0]) (t := 40) ?_ ?_
          · first | (go_simp; done) | (go_simp; rfl)
          intro g18 hg wa hbox hb
          have HX := Aside0.mk (HS.out.new (Nat.le_of_eq hg.symm) hbox)
          have HF := Aside0.mk (Kd.F_below (Kd.F_elderB HF.out g18 (Nat.le_of_eq hg.symm)) hb)
          have N15 := Aside0.mk (show g15 ≠ g18 from by have := blk_lt HY.out.b; omega)
          have NB := Aside0.mk (show gb ≠ g18 from by have := HO.out.row.lt; omega)
          have HO := Aside0.mk (HO.out.new (Nat.le_of_eq hg.symm) hb)
          have HY := Aside0.mk (HY.out.below hb)
          have HS := Aside0.mk (HS.out.below hb)
          have X0 := Aside0.mk (cellB hb X0.out)
          have X1 := Aside0.mk (cellB hb X1.out)
          have X2 := Aside0.mk (cellB hb X2.out)
          have X3 := Aside0.mk (cellB hb X3.out)
          have X4 := Aside0.mk (cellB hb X4.out)
          have X5 := Aside0.mk (cellB hb X5.out)
          have HT4 := Aside0.mk (Kd.F_below HT4.out hb)
          have HM5 := Aside0.mk (Kd.F_below HM5.out hb)
          clear hg hbox hb
          refine hK.out _ _ ⟨(blk_cell HS.out.b3 3).trans rfl, (blk_cell HS.out.b4 1).trans rfl, X0.out, X1.out, X2.out, X3.out, X4.out, X5.out⟩ (fun hHeld => ?_)
          clear hK K
          refine norm_ (a' := ?_) ?_ ?_
          rotate_left
          · show Act.put _ (some 18) _ = _
            simp only [Act.put, List.setIfInBounds_toArray, List.set_cons_zero, List.set_cons_succ, i64_w, i32_w]
            rfl
          exact norm_ (by simp only [putAll, Act.put, List.setIfInBounds_toArray, List.set_cons_zero, List.set_cons_succ]) (hCont (g18, Ak, ck) _ ⟨⟨HS.out, HX.out, HCK.out, HF.out⟩, ⟨HY.out, HO.out, N15.out, NB.out⟩⟩)
        · skip
          refine boxN_step (by rfl) rfl (cs := #[.int .i64 0, .slice none 0 0]) (t := 40) ?_ ?_
          · first | (go_simp; done) | (go_simp; rfl)
          intro g18 hg wa hbox hb
          have HX := Aside0.mk (HS.out.new (Nat.le_of_eq hg.symm) hbox)
          have N15 := Aside0.mk (show g15 ≠ g18 from by have := blk_lt HY.out.b; omega)
          have NB := Aside0.mk (show gb ≠ g18 from by have := HO.out.row.lt; omega)
          have HO := Aside0.mk (HO.out.new (Nat.le_of_eq hg.symm) hb)
          have HY := Aside0.mk (HY.out.below hb)
          have HS := Aside0.mk (HS.out.below hb)
          have X0 := Aside0.mk (cellB hb X0.out)
          have X1 := Aside0.mk (cellB hb X1.out)
          have X2 := Aside0.mk (cellB hb X2.out)
          have X3 := Aside0.mk (cellB hb X3.out)
          have X4 := Aside0.mk (cellB hb X4.out)
          have X5 := Aside0.mk (cellB hb X5.out)
          have HT4 := Aside0.mk (Kd.F_below HT4.out hb)
          have HM5 := Aside0.mk (Kd.F_below HM5.out hb)
          clear hg hbox hb
          refine hK.out _ _ ⟨(blk_cell HS.out.b3 3).trans rfl, (blk_cell HS.out.b4 1).trans rfl, X0.out, X1.out, X2.out, X3.out, X4.out, X5.out⟩ (fun hHeld => ?_)
          clear hK K
          refine norm_ (a' := ?_) ?_ ?_
          rotate_left
          · show Act.put _ (some 18) _ = _
            simp only [Act.put, List.setIfInBounds_toArray, List.set_cons_zero, List.set_cons_succ, i64_w, i32_w]
            rfl
          refine one_ (i := 11) (N := some 141) #[true, true, true, true, true, true, true, true, true, true, true, true, false, false, false, true, false, false] rfl rfl (by kernel_rfl) (by decide) (fun K hK => ?_)
          refine goes_ Try.func18 (by kernel_rfl) rfl #[.agg #[.int .i64 x.f0, .string x.f1, .int .i64 x.f2, .slice A4 x.f3.length c4], .agg #[.int .i64 y.f0, .slice A5 y.f1.length c5], .func (.func g) #[] lb] (by rfl) rfl rfl (by simp only [List.map_toArray, List.map_cons, List.map_nil]; rfl) ?_
          refine (ThinkC.within HZ.out HS.out HQ.out (q := fun k => (fun k => k ≠ g15 ∧ k ≠ gb) k ∧ k ≠ g18) (fun k hk => ⟨⟨by have h1 := HY.out.wg; have h2 := blk_lt HY.out.b; omega, by have h1 := HO.out.wg; have h2 := HO.out.row.lt; omega⟩, by have h1 := HX.out.wg; have h2 := blk_lt HX.out.b; omega⟩) HP.out HC4.out HC5.out HT4.out HM5.out).mono ?_
          rintro e wb ⟨Ak, ck, rfl, hck, hFk, hb⟩
          refine ⟨_, rfl, ?_⟩
          have HS := Aside0.mk (HS.out.below hb)
          have X0 := Aside0.mk (cellB hb X0.out)
          have X1 := Aside0.mk (cellB hb X1.out)
          have X2 := Aside0.mk (cellB hb X2.out)
          have X3 := Aside0.mk (cellB hb X3.out)
          have X4 := Aside0.mk (cellB hb X4.out)
          have X5 := Aside0.mk (cellB hb X5.out)
          have HT4 := Aside0.mk (Kd.F_below HT4.out hb)
          have HM5 := Aside0.mk (Kd.F_below HM5.out hb)
          have HY := Aside0.mk (HY.out.below hb)
          have HO := Aside0.mk (HO.out.below hb)
          have HX := Aside0.mk (HX.out.below hb)
          have HF := Aside0.mk (Kd.F_mono (ok' := fun k => ((Q k ∧ k ≠ g7) ∧ (fun k => k ≠ g15 ∧ k ≠ gb) k) ∧ k ≠ g18) hFk (fun k hk => ⟨⟨hk.1, hk.2.1⟩, hk.2.2⟩))
          have HCK := Aside0.mk hck
          clear hck hFk hb
          refine hK.out _ _ ⟨(blk_cell HS.out.b3 3).trans rfl, (blk_cell HS.out.b4 1).trans rfl, X0.out, X1.out, X2.out, X3.out, X4.out, X5.out⟩ (fun hHeld => ?_)
          clear hK K
          refine norm_ (a' := ?_) ?_ ?_
          rotate_left
          · show Act.put _ (some 141) _ = _
            simp only [Act.put, List.setIfInBounds_toArray, List.set_cons_zero, List.set_cons_succ, i64_w, i32_w]
            rfl
          refine pure_ (i := 12) (N := some 129) (v := ?_) (a' := ?_) #[true, true, true, true, true, true, true, true, true, true, true, true, true, false, false, true, false, false] rfl rfl (by kernel_rfl) (fun _ _ _ h => h) (Or.inl ⟨by rfl, ?_⟩) ?_ ?_
          rotate_left
          · intro w'
            go_simp
            with_reducible rfl
          rotate_left
          · simp only [Act.put, List.setIfInBounds_toArray, List.set_cons_zero, List.set_cons_succ, i64_w, i32_w]
            rfl
          refine pure_ (i := 13) (N := some 142) (v := ?_) (a' := ?_) #[true, true, true, true, true, true, true, true, true, true, true, true, true, true, false, true, false, false] rfl rfl (by kernel_rfl) (fun _ _ _ h => h) (Or.inl ⟨by rfl, ?_⟩) ?_ ?_
          rotate_left
          · intro w'
            go_simp
            with_reducible rfl
          rotate_left
          · simp only [Act.put, List.setIfInBounds_toArray, List.set_cons_zero, List.set_cons_succ, i64_w, i32_w]
            rfl
          refine pure_ (i := 14) (N := some 143) (v := ?_) (a' := ?_) #[true, true, true, true, true, true, true, true, true, true, true, true, true, true, true, true, false, false] rfl rfl (by kernel_rfl) (fun _ _ _ h => h) (Or.inl ⟨by rfl, ?_⟩) ?_ ?_
          rotate_left
          · intro w'
            go_simp
            with_reducible rfl
          rotate_left
          · simp only [Act.put, List.setIfInBounds_toArray, List.set_cons_zero, List.set_cons_succ, i64_w, i32_w]
            rfl
          exact norm_ (by simp only [putAll, Act.put, List.setIfInBounds_toArray, List.set_cons_zero, List.set_cons_succ]) (hCont (g18, Ak, ck) _ ⟨⟨HS.out, HX.out, HCK.out, HF.out⟩, ⟨HY.out, HO.out, N15.out, NB.out⟩⟩)
      rintro ⟨g18, Ak, ck⟩ wz hFk
      have HFK := Aside0.mk hFk.1
      have HY := Aside0.mk hFk.2.1
      have HO := Aside0.mk hFk.2.2.1
      have N15 := Aside0.mk hFk.2.2.2.1
      have NB := Aside0.mk hFk.2.2.2.2
      clear hFk
      refine norm_ (a' := ?_) ?_ ?_
      rotate_left
      · simp only [putAll, Act.put, List.setIfInBounds_toArray, List.set_cons_zero, List.set_cons_succ]
        rfl
      refine pure_ (i := 16) (N := some 17) (v := ?_) (a' := ?_) #[true, true, true, true, true, true, true, true, true, true, true, true, true, true, true, true, true, false] rfl rfl (by kernel_rfl) (fun _ _ _ h => h) (Or.inl ⟨by rfl, ?_⟩) ?_ ?_
      rotate_left
      · intro w'
        go_simp
        with_reducible rfl
      rotate_left
      · simp only [Act.put, List.setIfInBounds_toArray, List.set_cons_zero, List.set_cons_succ, i64_w, i32_w]
        rfl
      refine last_ (i := 17) (N := none) #[true, true, true, true, true, true, true, true, true, true, true, true, true, true, true, true, true, true] rfl rfl (by kernel_rfl) (by decide) (fun K hK => ?_)
      have cz0 := (blk_cell HFK.out.2.1.b 0).trans rfl
      have cz1 := (blk_cell HFK.out.2.1.b 1).trans rfl
      have fz0 := blk_frozen HFK.out.2.1.b 0
      have fz1 := blk_frozen HFK.out.2.1.b 1
      refine skip_ (w1 := ?_) (by rfl) rfl ?_ ?_
      rotate_left
      · go_simp
        rfl
      refine hK.out _ _ ?_
      clear hK K
      refine done_ (by kernel_rfl) ?_
      have HP_ := Fk.put HFK.out k0
      have HS := Aside0.mk HP_.1
      have HX := Aside0.mk HP_.2.1
      have HCK := Aside0.mk HP_.2.2.1
      have HF := Aside0.mk HP_.2.2.2
      have HY := Aside0.mk ((HY.out.far (p := ⟨g18, 0, none⟩) N15.out (.int .i64 k0)).far (p := ⟨g18, 1, none⟩) N15.out (.slice Ak k1.length ck))
      have HO := Aside0.mk (HO.out.put NB.out (.int .i64 k0) (.slice Ak k1.length ck))
      clear HP_ HFK cz0 cz1 fz0 fz1
      generalize ((wz.setCell ⟨g18, 0, none⟩ (.int .i64 k0)).setCell ⟨g18, 1, none⟩ (.slice Ak k1.length ck)) = wy at HS HX HF HY HO ⊢
      by_cases r2 : r = 2
      · subst r2
        have HZ2 := Aside0.mk (show zz = (2, ⟨i, bl.set i.toNat ⟨k0, k1⟩⟩, u) from by rw [← HF1.out, if_pos rfl]; rfl)
        clear HF1
        obtain ⟨v0, v1, hv0, hv1, hfr⟩ := HO.out.row.cells i.toNat (by rw [HBLL.out]; have := HI.out.1; have := HIL.out; omega)
        have fr0 := hfr (i.toNat * 2)
        have fr1 := hfr (i.toNat * 2 + 1)
        clear hfr
        have c30 := (blk_cell HS.out.b3 0).trans rfl
        have cy0 := (blk_cell HY.out.b 0).trans rfl
        have cy1 := (blk_cell HY.out.b 1).trans rfl
        have fy0 := blk_frozen HY.out.b 0
        have cx0 := (blk_cell HX.out.b 0).trans rfl
        have cx1 := (blk_cell HX.out.b 1).trans rfl
        have e1 := N15.out
        have e2 := N15.out.symm
        have e3 := NB.out
        have e4 := NB.out.symm
        have e5 := HO.out.n15
        have e6 := HO.out.n15.symm
        go_upto_region 31 with (fail)
        have HFL := Aside0.mk (OutS.lay (HO.out.put15 0 (.int .i64 i)) i.toNat (by rw [HBLL.out]; have := HI.out.1; have := HIL.out; omega) (by rw [HBLL.out]; exact HMX.out) HQ.out ⟨k0, k1⟩ HCK.out (Kd.F_far (p := ⟨g15, 0, none⟩) HF.out (fun _ hk => hk.2.1) (.int .i64 i)))
        have HS := Aside0.mk (((HS.out.set HY.out.wg HY.out.n3 HY.out.n4 HY.out.n7 0 (.int .i64 i)).set HO.out.wg HO.out.n3 HO.out.n4 HO.out.n7 (i.toNat * 2) (.int .i64 k0)).set HO.out.wg HO.out.n3 HO.out.n4 HO.out.n7 (i.toNat * 2 + 1) (.slice Ak k1.length ck))
        have HY1 := Aside0.mk (show ((((wy.setCell ⟨g15, 0, none⟩ (.int .i64 i)).setCell ⟨gb, i.toNat * 2, none⟩ (.int .i64 k0)).setCell ⟨gb, i.toNat * 2 + 1, none⟩ (.slice Ak k1.length ck))).heap[g15]? = some (.cells (boxM i (some ⟨gb, 0, none⟩) L cb) 40 (0, 0)) from blk_far (blk_far (blk_put HY.out.b 0 (.int .i64 i) rfl) HO.out.n15 _) HO.out.n15 _)
        clear c30 cy0 cy1 fy0 cx0 cx1 e1 e2 e3 e4 e5 e6 fr0 fr1 hv0 hv1 HY HO HX HF
        generalize (((wy.setCell ⟨g15, 0, none⟩ (.int .i64 i)).setCell ⟨gb, i.toNat * 2, none⟩ (.int .i64 k0)).setCell ⟨gb, i.toNat * 2 + 1, none⟩ (.slice Ak k1.length ck)) = wf at HS HFL HY1 ⊢
        have HS := Aside0.mk HS.out.drew
        have HFL := Aside0.mk (Kd.F_drew HFL.out)
        have HY1 := Aside0.mk (blk_drew HY1.out)
        refine start_ (n := 3) (S := fun w' => w'.cell? ⟨g15, 0, none⟩ = some (.int .i64 i) ∧ w'.cell? ⟨g15, 1, none⟩ = some (.slice (some ⟨gb, 0, none⟩) L cb)) (ds := [2]) #[false, false, false] (by kernel_rfl) rfl rfl ⟨(blk_cell HY1.out 0).trans rfl, (blk_cell HY1.out 1).trans rfl⟩ (fun hHeld => ?_)
        generalize wf.drew = wd at HS HFL HY1 hHeld ⊢
        refine pure_ (i := 1) (N := some 6) (v := ?_) (a' := ?_) #[false, true, false] rfl rfl (by kernel_rfl) (fun _ _ _ h => h) (Or.inl ⟨by rfl, ?_⟩) ?_ ?_
        rotate_left
        · intro w'
          go_simp
          with_reducible rfl
        rotate_left
        · simp only [Act.put, List.setIfInBounds_toArray, List.set_cons_zero, List.set_cons_succ, i64_w, i32_w]
          rfl
        refine take_ (i := 0) (N := some 161) (v := ?_) (a' := ?_) #[true, true, false] rfl rfl (by kernel_rfl) (fun _ _ _ h => h) (Or.inl ⟨by rfl, ?_⟩) hHeld ?_ ?_
        rotate_left
        · rintro w' ⟨s0, s1⟩
          go_simp
          with_reducible rfl
        rotate_left
        · simp only [Act.put, List.setIfInBounds_toArray, List.set_cons_zero, List.set_cons_succ, i64_w, i32_w]
          rfl
        refine last_ (i := 2) (N := none) #[true, true, true] rfl rfl (by kernel_rfl) (by decide) (fun K hK => ?_)
        have cz0 := (blk_cell HS.out.b7 0).trans rfl
        have cz1 := (blk_cell HS.out.b7 1).trans rfl
        have fz0 := blk_frozen HS.out.b7 0
        have fz1 := blk_frozen HS.out.b7 1
        refine skip_ (w1 := ?_) (by rfl) rfl ?_ ?_
        rotate_left
        · go_simp
          rfl
        refine hK.out _ _ ?_
        clear hK K
        refine done_ (by kernel_rfl) ?_
        try go_wp2
        refine bodyPost_ret (results_tc rfl _ _ g7 40 #[.int .i64 i, .slice (some ⟨gb, 0, none⟩) L cb] (0, 0) _ rfl (put2 HS.out.b7 _ _) Try.underlying40 rfl (by kernel_rfl)) rfl ?_
        have h1_ : (bl.set i.toNat (⟨k0, k1⟩ : Md)).length = L := by rw [List.length_set]; exact HBLL.out
        rw [HZ2.out, show (Value.slice (some ⟨gb, 0, none⟩) L cb) = Value.slice (some ⟨gb, 0, none⟩) (bl.set i.toNat (⟨k0, k1⟩ : Md)).length cb from by rw [h1_]]
        exact HS.out.fin HFL.out (by rw [List.length_set, HBLL.out]; exact HCB.out) _ _
      · have R2 : (r == 2) = false := beqF r2
        by_cases r3 : r = 1
        · subst r3
          have HF2 := Aside0.mk (show thinkL Th ⟨0, bl⟩ (3 : Int) (i + 1).toNat (n3.drop (i + 1).toNat) (m1.drop (i + 1).toNat) () = zz from by rw [← HF1.out, if_neg r2, if_pos (show (1 : Int) = onV (3 : Int) from rfl)])
          have HW := Aside0.mk (show wrap64 (i + 1) = i + 1 from w64 (by have := HI.out.1; omega) (by have := HIL.out; have := HMX.out; omega))
          clear HF1 r2
          cases gk with
          | zero => exact absurd HI.out.2 (by have := HI.out.1; have := HIL.out; omega)
          | succ kz =>
            go_wp2
            go_roundg kz
            case measure => omega
            case rel => exact ⟨i + 1, by rw [HW.out], ⟨by have := HI.out.1; omega, by have := HI.out; omega⟩, HF2, HS, HY, ⟨fun _ => ⟨gb, rfl, HO.out⟩⟩⟩
        · have R3 : (r != 1) = true := bne_iff_ne.mpr r3
          have HZ2 := Aside0.mk (show zz = (r, ⟨0, bl⟩, u) from by rw [← HF1.out, if_neg r2, if_neg (show ¬ r = onV (3 : Int) from r3)])
          clear HF1 r2 r3
          have c30 := (blk_cell HS.out.b3 0).trans rfl
          have c31 := (blk_cell HS.out.b3 1).trans rfl
          have c32 := (blk_cell HS.out.b3 2).trans rfl
          have c33 := (blk_cell HS.out.b3 3).trans rfl
          have c40 := (blk_cell HS.out.b4 0).trans rfl
          have c41 := (blk_cell HS.out.b4 1).trans rfl
          go_wp2_with (first | ((with_reducible refine gate_callee (f := 16) rfl ?_); refine goesL_ (some 167) rfl rfl Try.func16 (by kernel_rfl) rfl #[.agg #[.int .i64 (3 : Int), .string n1, .int .i64 n2, .slice (some ad) L c3]] rfl (by (try simp only [zm1, zm2, zm3]); first | done | rfl) ?_; have hcall := blank_call HS.out HQ.out HL.out HC3.out HBL.out HBLL.out; (refine hcall.mono ?_); clear hcall; rintro e wq ⟨Ac, cc, rfl, hcc, hfc, hgc, hb⟩; refine ⟨_, rfl, ?_⟩; have HS := Aside0.mk (HS.out.below hb); have HFC := Aside0.mk hfc; have HCC := Aside0.mk hcc; clear hcc hfc hgc hb c30 c31 c32 c33 c40 c41; have cz0 := (blk_cell HS.out.b7 0).trans rfl; have cz1 := (blk_cell HS.out.b7 1).trans rfl; have fz0 := blk_frozen HS.out.b7 0; have fz1 := blk_frozen HS.out.b7 1))
          try go_wp2
          refine bodyPost_ret (results_tc rfl _ _ g7 40 #[.int .i64 0, .slice Ac L cc] (0, 0) _ rfl (put2 HS.out.b7 _ _) Try.underlying40 rfl (by kernel_rfl)) rfl ?_
          have h1_ := HBLL.out
          rw [HZ2.out, show (Value.slice Ac L cc) = Value.slice Ac bl.length cc from by rw [h1_]]
          exact HS.out.fin HFC.out (by rw [HBLL.out]; exact HCC.out) _ _
    · have HZ2 := Aside0.mk (show zz = (1, ⟨0, bl⟩, ()) from by rw [← HF0.out, thinkL_end Th ⟨0, bl⟩ (3 : Int) HL.out i hi]; rfl)
      have hib : decide (i < (L : Int)) = false := decide_eq_false hi
      have q0 : (i < (L : Int)) = False := eq_false hi
      clear HF0 hi
      have c30 := (blk_cell HS.out.b3 0).trans rfl
      have c31 := (blk_cell HS.out.b3 1).trans rfl
      have c32 := (blk_cell HS.out.b3 2).trans rfl
      have c33 := (blk_cell HS.out.b3 3).trans rfl
      have c40 := (blk_cell HS.out.b4 0).trans rfl
      have c41 := (blk_cell HS.out.b4 1).trans rfl
      go_wp2_with (first | ((with_reducible refine gate_callee (f := 16) rfl ?_); refine goesL_ (some 170) rfl rfl Try.func16 (by kernel_rfl) rfl #[.agg #[.int .i64 (3 : Int), .string n1, .int .i64 n2, .slice A3 L c3]] rfl (by (try simp only [zm1, zm2, zm3]); first | done | rfl) ?_; have hcall := blank_call HS.out HQ.out HL.out HC3.out HBL.out HBLL.out; (refine hcall.mono ?_); clear hcall; rintro e wq ⟨Ac, cc, rfl, hcc, hfc, hgc, hb⟩; refine ⟨_, rfl, ?_⟩; have HS := Aside0.mk (HS.out.below hb); have HFC := Aside0.mk hfc; have HCC := Aside0.mk hcc; clear hcc hfc hgc hb c30 c31 c32 c33 c40 c41; have cz0 := (blk_cell HS.out.b7 0).trans rfl; have cz1 := (blk_cell HS.out.b7 1).trans rfl; have fz0 := blk_frozen HS.out.b7 0; have fz1 := blk_frozen HS.out.b7 1))
      try go_wp2
      refine bodyPost_ret (results_tc rfl _ _ g7 40 #[.int .i64 0, .slice Ac L cc] (0, 0) _ rfl (put2 HS.out.b7 _ _) Try.underlying40 rfl (by kernel_rfl)) rfl ?_
      have h1_ := HBLL.out
      rw [HZ2.out, show (Value.slice Ac L cc) = Value.slice Ac bl.length cc from by rw [h1_]]
      exact HS.out.fin HFC.out (by rw [HBLL.out]; exact HCC.out) _ _
set_option maxHeartbeats 8000000 in
set_option maxRecDepth 100000 in
theorem think_list4 (hL : n3.length = L) (hLm : m1.length = L) (hP : Pure W g lb fn an0) (hc3 : L ≤ c3) (hcm : L ≤ cm) (hT : Tr W Al A3 n3) (hM : FM W Q Am m1) (hQ : ∀ k, W.heap.size ≤ k → Q k) (hmax : L ≤ 1000000) (hm0 : 0 ≤ m0) (hm1 : m0 ≤ L) {kb : Nat} {bl : List Md} (hbl : tourref5_Blank.f kb n0 n1 n2 n3 = some (0, bl)) (hbll : bl.length = L) {Th : Nd → Md → Unit → Int × Md × Unit} (ih : ∀ i : Int, 0 ≤ i → i < L → ThinkC an0 (Th (rdN n3 i) (rdM m1 i) ()) (rdN n3 i) (rdM m1 i)) {zz : Int × Md × Unit} (hzz : thinkL Th ⟨0, bl⟩ n0 m0.toNat (n3.drop m0.toNat) (m1.drop m0.toNat) () = zz) (e : n0 = 4) :
    Calls Try.prog 18 #[.agg #[.int .i64 n0, .string n1, .int .i64 n2, .slice A3 L c3], .agg #[.int .i64 m0, .slice Am L cm], .func (.func g) #[] lb] W fun e w' => Ret Q W w' e zz.1 zz.2.1.f0 zz.2.1.f1 := by
  subst e
  have HBL := Aside0.mk hbl
  have HBLL := Aside0.mk hbll
  have IH := Aside0.mk ih
  have HZZ := Aside0.mk hzz
  have HM0 := Aside0.mk (show 0 ≤ m0 ∧ m0.toNat + (L - m0.toNat) = L from ⟨hm0, by omega⟩)
  have HMX := Aside0.mk hmax
  clear hbl hbll ih hzz hm0 hm1 hmax
  have HL := Aside0.mk hL
  have HLm := Aside0.mk hLm
  have HP := Aside0.mk hP
  have HC3 := Aside0.mk hc3
  have HCM := Aside0.mk hcm
  have HT := Aside0.mk hT
  have HM := Aside0.mk hM
  have HQ := Aside0.mk hQ
  clear hL hLm hP hc3 hcm hT hM hQ
  go_enter Try.func18, Try.ntmps18
  go_upto_region 23 with (first | ((with_reducible refine gate_dst (N := 3) rfl ?_); refine box_event ?hg (N := 3) ?hd (cs := #[.int .i64 (4 : Int), .string n1, .int .i64 n2, .slice A3 L c3]) (t := 25) ?hr ?_; (case hd => rfl); (case hg => rfl); (case hr => first | (go_simp; done) | (go_simp; rfl)); intro g3 hg w1 hbox hb; have E3 := Aside0.mk hg; have BK3 := Aside0.mk hbox; have HB1 := Aside0.mk hb; clear hg hbox hb) | ((with_reducible refine gate_dst (N := 4) rfl ?_); refine box_event ?hg (N := 4) ?hd (cs := #[.int .i64 m0, .slice Am L cm]) (t := 40) ?hr ?_; (case hd => rfl); (case hg => rfl); (case hr => first | (go_simp; done) | (go_simp; rfl)); intro g4 hg w2 hbox hb; have E4 := Aside0.mk hg; have BK4 := Aside0.mk hbox; have HB2 := Aside0.mk hb; clear hg hbox hb) | ((with_reducible refine gate_dst (N := 7) rfl ?_); refine box_event ?hg (N := 7) ?hd (cs := #[.int .i64 0, .slice none 0 0]) (t := 40) ?hr ?_; (case hd => rfl); (case hg => rfl); (case hr => first | (go_simp; done) | (go_simp; rfl)); intro g7 hg w3 hbox hb; have HS := Aside0.mk (show Bs Q W w3 g3 g4 g7 (4 : Int) n1 n2 n3 A3 L c3 m0 m1 Am cm from Bs.start HT.out HM.out E3.out BK3.out HB1.out E4.out BK4.out HB2.out hg hbox hb); clear hg hbox hb E3 BK3 HB1 E4 BK4 HB2; have c30 := (blk_cell HS.out.b3 0).trans rfl; have c31 := (blk_cell HS.out.b3 1).trans rfl; have c32 := (blk_cell HS.out.b3 2).trans rfl; have c33 := (blk_cell HS.out.b3 3).trans rfl; have c40 := (blk_cell HS.out.b4 0).trans rfl; have c41 := (blk_cell HS.out.b4 1).trans rfl) | ((with_reducible refine gate_callee (f := 36) rfl ?_); refine goesL_ (some 117) rfl rfl Try.func36 (by kernel_rfl) rfl #[.bool false] rfl (by (try simp only [zm1, zm2, zm3]); first | done | rfl) ?_; (refine (tourref5_one.calls false 0 _ rfl).mono ?_); rintro e wo ⟨rfl, hb0⟩; refine ⟨_, rfl, ?_⟩; have HS := Aside0.mk (HS.out.below hb0.below); clear hb0 c30 c31 c32 c33 c40 c41; have c30 := (blk_cell HS.out.b3 0).trans rfl; have c31 := (blk_cell HS.out.b3 1).trans rfl; have c32 := (blk_cell HS.out.b3 2).trans rfl; have c33 := (blk_cell HS.out.b3 3).trans rfl; have c40 := (blk_cell HS.out.b4 0).trans rfl; have c41 := (blk_cell HS.out.b4 1).trans rfl) | ((with_reducible refine gate_callee (f := 16) rfl ?_); refine goesL_ (some 119) rfl rfl Try.func16 (by kernel_rfl) rfl #[.agg #[.int .i64 (4 : Int), .string n1, .int .i64 n2, .slice A3 L c3]] rfl (by (try simp only [zm1, zm2, zm3]); first | done | rfl) ?_; have hcall := blank_call HS.out HQ.out HL.out HC3.out HBL.out HBLL.out; (refine hcall.mono ?_); clear hcall; rintro e wc ⟨Ab, cb, rfl, hcb, hfb, hgb, hb⟩; refine ⟨_, rfl, ?_⟩; have HOB := Aside0.mk (show 0 < L → ∃ gb, Ab = some ⟨gb, 0, none⟩ ∧ OutR Q W wc g3 g4 g7 gb bl from fun hp => (hgb hp).imp fun _ h => ⟨h.1, h.2.2⟩); have HS := Aside0.mk (HS.out.below hb); have HFB := Aside0.mk hfb; have HCB := Aside0.mk hcb; clear hcb hfb hgb hb c30 c31 c32 c33 c40 c41) | ((with_reducible refine gate_dst (N := 15) rfl ?_); refine box_event ?hg (N := 15) ?hd (cs := #[.int .i64 0, .slice none 0 0]) (t := 40) ?hr ?_; (case hd => rfl); (case hg => rfl); (case hr => first | (go_simp; done) | (go_simp; rfl)); intro g15 hg wd hbox hb; have HY := Aside0.mk (HS.out.new (Nat.le_of_eq hg.symm) hbox); have HFB := Aside0.mk (Kd.F_below (Kd.F_elderB HFB.out g15 (Nat.le_of_eq hg.symm)) hb); have HO := Aside0.mk (show 0 < L → ∃ gb, Ab = some ⟨gb, 0, none⟩ ∧ OutS Q Al W wd g3 g4 g7 g15 gb bl from fun hp => (HOB.out hp).imp fun _ h => ⟨h.1, OutS.of h.2 (Nat.le_of_eq hg.symm) hb⟩); clear HOB; have HS := Aside0.mk (HS.out.below hb); clear hg hbox hb; have cy0 := (blk_cell HY.out.b 0).trans rfl; have cy1 := (blk_cell HY.out.b 1).trans rfl; have fy0 := blk_frozen HY.out.b 0; have fy1 := blk_frozen HY.out.b 1))
  have HS := Aside0.mk (HS.out.setX HY.out (.int .i64 0) (.slice Ab L cb))
  have HO := Aside0.mk (show 0 < L → ∃ gb, Ab = some ⟨gb, 0, none⟩ ∧ OutS Q Al W ((wd.setCell ⟨g15, 0, none⟩ (.int .i64 0)).setCell ⟨g15, 1, none⟩ (.slice Ab L cb)) g3 g4 g7 g15 gb bl from fun hp => (HO.out hp).imp fun _ h => ⟨h.1, (h.2.put15 0 _).put15 1 _⟩)
  have HY := Aside0.mk (HY.out.put (.int .i64 0) (.slice Ab L cb))
  clear cy0 cy1 fy0 fy1 HFB
  generalize ((wd.setCell ⟨g15, 0, none⟩ (.int .i64 0)).setCell ⟨g15, 1, none⟩ (.slice Ab L cb)) = we at HS HO HY ⊢
  have c40 := (blk_cell HS.out.b4 0).trans rfl
  go_wp2
  clear c40
  go_loopg [16] (L - m0.toNat) (fun kq v16 wr => ∃ i : Int, v16 = .int .i64 i ∧ Aside0 (0 ≤ i ∧ i.toNat + kq = L) ∧ Aside0 (thinkL Th ⟨0, bl⟩ (4 : Int) i.toNat (n3.drop i.toNat) (m1.drop i.toNat) () = zz) ∧ Aside0 (Bs Q W wr g3 g4 g7 (4 : Int) n1 n2 n3 A3 L c3 m0 m1 Am cm) ∧ Aside0 (Bx W wr g3 g4 g7 g15 (boxM 0 Ab L cb)) ∧ Aside0 (0 < L → ∃ gb, Ab = some ⟨gb, 0, none⟩ ∧ OutS Q Al W wr g3 g4 g7 g15 gb bl))
  case atStart => exact ⟨m0, rfl, HM0, HZZ, HS, HY, HO⟩
  case round =>
    clear HS HY HO HZZ HM0
    obtain ⟨i, rfl, HI, HF0, HS, HY, HO⟩ := hrel
    by_cases hi : i < (L : Int)
    · have h0 := HI.out.1
      have HIL := Aside0.mk hi
      obtain ⟨gb, rfl, ho⟩ := HO.out (by omega)
      clear HO
      have HO := Aside0.mk ho
      clear ho
      obtain ⟨x, hx⟩ : ∃ x, rdN n3 i = x := ⟨_, rfl⟩
      obtain ⟨y, hy⟩ : ∃ y, rdM m1 i = y := ⟨_, rfl⟩
      obtain ⟨⟨r, ⟨k0, k1⟩, u⟩, hz⟩ : ∃ z, Th x y () = z := ⟨_, rfl⟩
      have HZ := Aside0.mk (show ThinkC an0 (r, ⟨k0, k1⟩, u) x y from by rw [← hz, ← hx, ← hy]; exact IH.out i h0 hi)
      have hF := HF0.out
      rw [thinkL_step Th ⟨0, bl⟩ (4 : Int) HL.out HLm.out i h0 hi, hx, hy, hz] at hF
      dsimp only at hF
      have HF1 := Aside0.mk hF
      clear hF HF0 hz
      have c33 := (blk_cell HS.out.b3 3).trans rfl
      have p0 := eq_true h0
      have q0 := eq_true hi
      have hib : decide (i < (L : Int)) = true := decide_eq_true hi
      clear h0 hi
      go_upto_region 26 with (fail)
      clear c33
      have HS := Aside0.mk HS.out.drew
      have HY := Aside0.mk HY.out.drew
      have HO := Aside0.mk (HO.out.below (Below.refl _ _).drew)
      obtain ⟨ad, A4, c4, rfl, hc4, hT4, hcell⟩ := Tr.elem HS.out.tn i HI.out.1 (by rw [HL.out]; exact HIL.out)
      obtain ⟨ae, A5, c5, rfl, hc5, hM5, y0, y1⟩ := FM.elem HS.out.mind i HI.out.1 (by rw [HLm.out]; exact HIL.out)
      obtain ⟨x0, x1, x2, x3⟩ := hcell wr.drew (fun _ _ _ => rfl)
      rw [hx] at hc4 hT4 x0 x1 x2 x3
      rw [hy] at hc5 hM5 y0 y1
      have X0 := Aside0.mk x0
      have X1 := Aside0.mk x1
      have X2 := Aside0.mk x2
      have X3 := Aside0.mk x3
      have X4 := Aside0.mk y0
      have X5 := Aside0.mk y1
      have HC4 := Aside0.mk hc4
      have HC5 := Aside0.mk hc5
      have HT4 := Aside0.mk hT4
      have HM5 := Aside0.mk hM5
      clear x0 x1 x2 x3 y0 y1 hc4 hc5 hT4 hM5 hcell hx hy
      refine start_ (n := 18) (S := fun w' => w'.cell? ⟨g3, 3, none⟩ = some (.slice (some ad) L c3) ∧ w'.cell? ⟨g4, 1, none⟩ = some (.slice (some ae) L cm) ∧ w'.cell? (ad.add (i.toNat * 4)) = some (.int .i64 x.f0) ∧ w'.cell? ⟨(ad.add (i.toNat * 4)).block, (ad.add (i.toNat * 4)).off + 1, none⟩ = some (.string x.f1) ∧ w'.cell? ⟨(ad.add (i.toNat * 4)).block, (ad.add (i.toNat * 4)).off + 2, none⟩ = some (.int .i64 x.f2) ∧ w'.cell? ⟨(ad.add (i.toNat * 4)).block, (ad.add (i.toNat * 4)).off + 3, none⟩ = some (.slice A4 x.f3.length c4) ∧ w'.cell? (ae.add (i.toNat * 2)) = some (.int .i64 y.f0) ∧ w'.cell? ⟨(ae.add (i.toNat * 2)).block, (ae.add (i.toNat * 2)).off + 1, none⟩ = some (.slice A5 y.f1.length c5)) (ds := [17]) #[false, false, false, false, false, false, false, false, false, false, false, false, false, false, false, false, false, false] (by kernel_rfl) rfl rfl ⟨(blk_cell HS.out.b3 3).trans rfl, (blk_cell HS.out.b4 1).trans rfl, X0.out, X1.out, X2.out, X3.out, X4.out, X5.out⟩ (fun hHeld => ?_)
      generalize wr.drew = wd at HS X0 X1 X2 X3 X4 X5 HT4 HM5 HY HO hHeld ⊢
      refine pure_ (i := 0) (N := some 130) (v := ?_) (a' := ?_) #[true, false, false, false, false, false, false, false, false, false, false, false, false, false, false, false, false, false] rfl rfl (by kernel_rfl) (fun _ _ _ h => h) (Or.inl ⟨by rfl, ?_⟩) ?_ ?_
      rotate_left
      · intro w'
        go_simp
        with_reducible rfl
      rotate_left
      · simp only [Act.put, List.setIfInBounds_toArray, List.set_cons_zero, List.set_cons_succ, i64_w, i32_w]
        rfl
      refine pure_ (i := 2) (N := some 132) (v := ?_) (a' := ?_) #[true, false, true, false, false, false, false, false, false, false, false, false, false, false, false, false, false, false] rfl rfl (by kernel_rfl) (fun _ _ _ h => h) (Or.inl ⟨by rfl, ?_⟩) ?_ ?_
      rotate_left
      · intro w'
        go_simp
        with_reducible rfl
      rotate_left
      · simp only [Act.put, List.setIfInBounds_toArray, List.set_cons_zero, List.set_cons_succ, i64_w, i32_w]
        rfl
      refine pure_ (i := 5) (N := some 135) (v := ?_) (a' := ?_) #[true, false, true, false, false, true, false, false, false, false, false, false, false, false, false, false, false, false] rfl rfl (by kernel_rfl) (fun _ _ _ h => h) (Or.inl ⟨by rfl, ?_⟩) ?_ ?_
      rotate_left
      · intro w'
        go_simp
        with_reducible rfl
      rotate_left
      · simp only [Act.put, List.setIfInBounds_toArray, List.set_cons_zero, List.set_cons_succ, i64_w, i32_w]
        rfl
      refine pure_ (i := 7) (N := some 137) (v := ?_) (a' := ?_) #[true, false, true, false, false, true, false, true, false, false, false, false, false, false, false, false, false, false] rfl rfl (by kernel_rfl) (fun _ _ _ h => h) (Or.inl ⟨by rfl, ?_⟩) ?_ ?_
      rotate_left
      · intro w'
        go_simp
        with_reducible rfl
      rotate_left
      · simp only [Act.put, List.setIfInBounds_toArray, List.set_cons_zero, List.set_cons_succ, i64_w, i32_w]
        rfl
      refine pure_ (i := 10) (N := some 140) (v := ?_) (a' := ?_) #[true, false, true, false, false, true, false, true, false, false, true, false, false, false, false, false, false, false] rfl rfl (by kernel_rfl) (fun _ _ _ h => h) (Or.inl ⟨by rfl, ?_⟩) ?_ ?_
      rotate_left
      · intro w'
        go_simp
        with_reducible rfl
      rotate_left
      · simp only [Act.put, List.setIfInBounds_toArray, List.set_cons_zero, List.set_cons_succ, i64_w, i32_w]
        rfl
      refine take_ (i := 1) (N := some 131) (v := ?_) (a' := ?_) #[true, true, true, false, false, true, false, true, false, false, true, false, false, false, false, false, false, false] rfl rfl (by kernel_rfl) (fun _ _ _ h => h) (Or.inl ⟨by rfl, ?_⟩) hHeld ?_ ?_
      rotate_left
      · rintro w' ⟨s0, s1, s2, s3, s4, s5, s6, s7⟩
        go_simp
        with_reducible rfl
      rotate_left
      · simp only [Act.put, List.setIfInBounds_toArray, List.set_cons_zero, List.set_cons_succ, i64_w, i32_w]
        rfl
      refine pure_ (i := 3) (N := some 133) (v := ?_) (a' := ?_) #[true, true, true, true, false, true, false, true, false, false, true, false, false, false, false, false, false, false] rfl rfl (by kernel_rfl) (fun _ _ _ h => h) (Or.inl ⟨by rfl, ?_⟩) ?_ ?_
      rotate_left
      · intro w'
        go_simp
        with_reducible rfl
      rotate_left
      · simp only [Act.put, List.setIfInBounds_toArray, List.set_cons_zero, List.set_cons_succ, i64_w, i32_w]
        rfl
      refine take_ (i := 4) (N := some 134) (v := ?_) (a' := ?_) #[true, true, true, true, true, true, false, true, false, false, true, false, false, false, false, false, false, false] rfl rfl (by kernel_rfl) (fun _ _ _ h => h) (Or.inl ⟨by rfl, ?_⟩) hHeld ?_ ?_
      rotate_left
      · rintro w' ⟨s0, s1, s2, s3, s4, s5, s6, s7⟩
        go_simp
        with_reducible rfl
      rotate_left
      · simp only [Act.put, List.setIfInBounds_toArray, List.set_cons_zero, List.set_cons_succ, i64_w, i32_w]
        rfl
      refine take_ (i := 6) (N := some 136) (v := ?_) (a' := ?_) #[true, true, true, true, true, true, true, true, false, false, true, false, false, false, false, false, false, false] rfl rfl (by kernel_rfl) (fun _ _ _ h => h) (Or.inl ⟨by rfl, ?_⟩) hHeld ?_ ?_
      rotate_left
      · rintro w' ⟨s0, s1, s2, s3, s4, s5, s6, s7⟩
        go_simp
        with_reducible rfl
      rotate_left
      · simp only [Act.put, List.setIfInBounds_toArray, List.set_cons_zero, List.set_cons_succ, i64_w, i32_w]
        rfl
      refine pure_ (i := 8) (N := some 138) (v := ?_) (a' := ?_) #[true, true, true, true, true, true, true, true, true, false, true, false, false, false, false, false, false, false] rfl rfl (by kernel_rfl) (fun _ _ _ h => h) (Or.inl ⟨by rfl, ?_⟩) ?_ ?_
      rotate_left
      · intro w'
        go_simp
        with_reducible rfl
      rotate_left
      · simp only [Act.put, List.setIfInBounds_toArray, List.set_cons_zero, List.set_cons_succ, i64_w, i32_w]
        rfl
      refine take_ (i := 9) (N := some 139) (v := ?_) (a' := ?_) #[true, true, true, true, true, true, true, true, true, true, true, false, false, false, false, false, false, false] rfl rfl (by kernel_rfl) (fun _ _ _ h => h) (Or.inl ⟨by rfl, ?_⟩) hHeld ?_ ?_
      rotate_left
      · rintro w' ⟨s0, s1, s2, s3, s4, s5, s6, s7⟩
        go_simp
        with_reducible rfl
      rotate_left
      · simp only [Act.put, List.setIfInBounds_toArray, List.set_cons_zero, List.set_cons_succ, i64_w, i32_w]
        rfl
      refine join_ (σ := Nat × Option Addr × Nat) 2 #[true, true, true, true, true, true, true, true, true, true, true, true, true, true, true, true, false, false] (fun s => [(141, .tuple #[.int .i64 r, .agg #[.int .i64 k0, .slice s.2.1 k1.length s.2.2]]), (129, .tuple #[.int .i64 r, .agg #[.int .i64 k0, .slice s.2.1 k1.length s.2.2]]), (142, .int .i64 r), (143, .agg #[.int .i64 k0, .slice s.2.1 k1.length s.2.2]), (18, .pointer (some ⟨s.1, 0, none⟩))]) (fun s w' => Fk Q (fun k => k ≠ g15 ∧ k ≠ gb) W g3 g4 g7 (4 : Int) n1 n2 n3 (some ad) L c3 m0 m1 (some ae) cm k1 s w' ∧ (Bx W w' g3 g4 g7 g15 (boxM 0 (some ⟨gb, 0, none⟩) L cb) ∧ OutS Q (fun k => k ≠ s.1) W w' g3 g4 g7 g15 gb bl ∧ g15 ≠ s.1 ∧ gb ≠ s.1)) ?_ ?_
      rotate_left
      · intro hCont
        refine two_ (i := 11) (j := 15) (Ni := some 141) (Nj := some 18) #[true, true, true, true, true, true, true, true, true, true, true, true, false, false, false, false, false, false] #[true, true, true, true, true, true, true, true, true, true, true, false, false, false, false, true, false, false] rfl rfl rfl rfl (by kernel_rfl) (by decide) (by decide) (fun K hK => ?_) (fun K hK => ?_)
        · skip
          refine goes_ Try.func18 (by kernel_rfl) rfl #[.agg #[.int .i64 x.f0, .string x.f1, .int .i64 x.f2, .slice A4 x.f3.length c4], .agg #[.int .i64 y.f0, .slice A5 y.f1.length c5], .func (.func g) #[] lb] (by rfl) rfl rfl (by simp only [List.map_toArray, List.map_cons, List.map_nil]; rfl) ?_
          refine (ThinkC.within HZ.out HS.out HQ.out (q := fun k => k ≠ g15 ∧ k ≠ gb) (fun k hk => ⟨by have h1 := HY.out.wg; have h2 := blk_lt HY.out.b; omega, by have h1 := HO.out.wg; have h2 := HO.out.row.lt; omega⟩) HP.out HC4.out HC5.out HT4.out HM5.out).mono ?_
          rintro e wb ⟨Ak, ck, rfl, hck, hFk, hb⟩
          refine ⟨_, rfl, ?_⟩
          have HS := Aside0.mk (HS.out.below hb)
          have X0 := Aside0.mk (cellB hb X0.out)
          have X1 := Aside0.mk (cellB hb X1.out)
          have X2 := Aside0.mk (cellB hb X2.out)
          have X3 := Aside0.mk (cellB hb X3.out)
          have X4 := Aside0.mk (cellB hb X4.out)
          have X5 := Aside0.mk (cellB hb X5.out)
          have HT4 := Aside0.mk (Kd.F_below HT4.out hb)
          have HM5 := Aside0.mk (Kd.F_below HM5.out hb)
          have HY := Aside0.mk (HY.out.below hb)
          have HO := Aside0.mk (HO.out.below hb)
          have HF := Aside0.mk hFk
          have HCK := Aside0.mk hck
          clear hck hFk hb
          refine hK.out _ _ ⟨(blk_cell HS.out.b3 3).trans rfl, (blk_cell HS.out.b4 1).trans rfl, X0.out, X1.out, X2.out, X3.out, X4.out, X5.out⟩ (fun hHeld => ?_)
          clear hK K
          refine norm_ (a' := ?_) ?_ ?_
          rotate_left
          · show Act.put _ (some 141) _ = _
            simp only [Act.put, List.setIfInBounds_toArray, List.set_cons_zero, List.set_cons_succ, i64_w, i32_w]
            rfl
          refine pure_ (i := 12) (N := some 129) (v := ?_) (a' := ?_) #[true, true, true, true, true, true, true, true, true, true, true, true, true, false, false, false, false, false] rfl rfl (by kernel_rfl) (fun _ _ _ h => h) (Or.inl ⟨by rfl, ?_⟩) ?_ ?_
          rotate_left
          · intro w'
            go_simp
            with_reducible rfl
          rotate_left
          · simp only [Act.put, List.setIfInBounds_toArray, List.set_cons_zero, List.set_cons_succ, i64_w, i32_w]
            rfl
          refine pure_ (i := 13) (N := some 142) (v := ?_) (a' := ?_) #[true, true, true, true, true, true, true, true, true, true, true, true, true, true, false, false, false, false] rfl rfl (by kernel_rfl) (fun _ _ _ h => h) (Or.inl ⟨by rfl, ?_⟩) ?_ ?_
          rotate_left
          · intro w'
            go_simp
            with_reducible rfl
          rotate_left
          · simp only [Act.put, List.setIfInBounds_toArray, List.set_cons_zero, List.set_cons_succ, i64_w, i32_w]
            rfl
          refine pure_ (i := 14) (N := some 143) (v := ?_) (a' := ?_) #[true, true, true, true, true, true, true, true, true, true, true, true, true, true, true, false, false, false] rfl rfl (by kernel_rfl) (fun _ _ _ h => h) (Or.inl ⟨by rfl, ?_⟩) ?_ ?_
          rotate_left
          · intro w'
            go_simp
            with_reducible rfl
          rotate_left
          · simp only [Act.put, List.setIfInBounds_toArray, List.set_cons_zero, List.set_cons_succ, i64_w, i32_w]
            rfl
          refine one_ (i := 15) (N := some 18) #[true, true, true, true, true, true, true, true, true, true, true, true, true, true, true, true, false, false] rfl rfl (by kernel_rfl) (by decide) (fun K hK => ?_)
          refine boxN_step (by rfl) rfl (cs := #[.int .i64 0, .slice none 0 0]) (t := 40) ?_ ?_
          · first | (go_simp; done) | (go_simp; rfl)
          intro g18 hg wa hbox hb
          have HX := Aside0.mk (HS.out.new (Nat.le_of_eq hg.symm) hbox)
          have HF := Aside0.mk (Kd.F_below (Kd.F_elderB HF.out g18 (Nat.le_of_eq hg.symm)) hb)
          have N15 := Aside0.mk (show g15 ≠ g18 from by have := blk_lt HY.out.b; omega)
          have NB := Aside0.mk (show gb ≠ g18 from by have := HO.out.row.lt; omega)
          have HO := Aside0.mk (HO.out.new (Nat.le_of_eq hg.symm) hb)
          have HY := Aside0.mk (HY.out.below hb)
          have HS := Aside0.mk (HS.out.below hb)
          have X0 := Aside0.mk (cellB hb X0.out)
          have X1 := Aside0.mk (cellB hb X1.out)
          have X2 := Aside0.mk (cellB hb X2.out)
          have X3 := Aside0.mk (cellB hb X3.out)
          have X4 := Aside0.mk (cellB hb X4.out)
          have X5 := Aside0.mk (cellB hb X5.out)
          have HT4 := Aside0.mk (Kd.F_below HT4.out hb)
          have HM5 := Aside0.mk (Kd.F_below HM5.out hb)
          clear hg hbox hb
          refine hK.out _ _ ⟨(blk_cell HS.out.b3 3).trans rfl, (blk_cell HS.out.b4 1).trans rfl, X0.out, X1.out, X2.out, X3.out, X4.out, X5.out⟩ (fun hHeld => ?_)
          clear hK K
          refine norm_ (a' := ?_) ?_ ?_
          rotate_left
          · show Act.put _ (some 18) _ = _
            simp only [Act.put, List.setIfInBounds_toArray, List.set_cons_zero, List.set_cons_succ, i64_w, i32_w]
            rfl
          exact norm_ (by simp only [putAll, Act.put, List.setIfInBounds_toArray, List.set_cons_zero, List.set_cons_succ]) (hCont (g18, Ak, ck) _ ⟨⟨HS.out, HX.out, HCK.out, HF.out⟩, ⟨HY.out, HO.out, N15.out, NB.out⟩⟩)
        · skip
          refine boxN_step (by rfl) rfl (cs := #[.int .i64 0, .slice none 0 0]) (t := 40) ?_ ?_
          · first | (go_simp; done) | (go_simp; rfl)
          intro g18 hg wa hbox hb
          have HX := Aside0.mk (HS.out.new (Nat.le_of_eq hg.symm) hbox)
          have N15 := Aside0.mk (show g15 ≠ g18 from by have := blk_lt HY.out.b; omega)
          have NB := Aside0.mk (show gb ≠ g18 from by have := HO.out.row.lt; omega)
          have HO := Aside0.mk (HO.out.new (Nat.le_of_eq hg.symm) hb)
          have HY := Aside0.mk (HY.out.below hb)
          have HS := Aside0.mk (HS.out.below hb)
          have X0 := Aside0.mk (cellB hb X0.out)
          have X1 := Aside0.mk (cellB hb X1.out)
          have X2 := Aside0.mk (cellB hb X2.out)
          have X3 := Aside0.mk (cellB hb X3.out)
          have X4 := Aside0.mk (cellB hb X4.out)
          have X5 := Aside0.mk (cellB hb X5.out)
          have HT4 := Aside0.mk (Kd.F_below HT4.out hb)
          have HM5 := Aside0.mk (Kd.F_below HM5.out hb)
          clear hg hbox hb
          refine hK.out _ _ ⟨(blk_cell HS.out.b3 3).trans rfl, (blk_cell HS.out.b4 1).trans rfl, X0.out, X1.out, X2.out, X3.out, X4.out, X5.out⟩ (fun hHeld => ?_)
          clear hK K
          refine norm_ (a' := ?_) ?_ ?_
          rotate_left
          · show Act.put _ (some 18) _ = _
            simp only [Act.put, List.setIfInBounds_toArray, List.set_cons_zero, List.set_cons_succ, i64_w, i32_w]
            rfl
          refine one_ (i := 11) (N := some 141) #[true, true, true, true, true, true, true, true, true, true, true, true, false, false, false, true, false, false] rfl rfl (by kernel_rfl) (by decide) (fun K hK => ?_)
          refine goes_ Try.func18 (by kernel_rfl) rfl #[.agg #[.int .i64 x.f0, .string x.f1, .int .i64 x.f2, .slice A4 x.f3.length c4], .agg #[.int .i64 y.f0, .slice A5 y.f1.length c5], .func (.func g) #[] lb] (by rfl) rfl rfl (by simp only [List.map_toArray, List.map_cons, List.map_nil]; rfl) ?_
          refine (ThinkC.within HZ.out HS.out HQ.out (q := fun k => (fun k => k ≠ g15 ∧ k ≠ gb) k ∧ k ≠ g18) (fun k hk => ⟨⟨by have h1 := HY.out.wg; have h2 := blk_lt HY.out.b; omega, by have h1 := HO.out.wg; have h2 := HO.out.row.lt; omega⟩, by have h1 := HX.out.wg; have h2 := blk_lt HX.out.b; omega⟩) HP.out HC4.out HC5.out HT4.out HM5.out).mono ?_
          rintro e wb ⟨Ak, ck, rfl, hck, hFk, hb⟩
          refine ⟨_, rfl, ?_⟩
          have HS := Aside0.mk (HS.out.below hb)
          have X0 := Aside0.mk (cellB hb X0.out)
          have X1 := Aside0.mk (cellB hb X1.out)
          have X2 := Aside0.mk (cellB hb X2.out)
          have X3 := Aside0.mk (cellB hb X3.out)
          have X4 := Aside0.mk (cellB hb X4.out)
          have X5 := Aside0.mk (cellB hb X5.out)
          have HT4 := Aside0.mk (Kd.F_below HT4.out hb)
          have HM5 := Aside0.mk (Kd.F_below HM5.out hb)
          have HY := Aside0.mk (HY.out.below hb)
          have HO := Aside0.mk (HO.out.below hb)
          have HX := Aside0.mk (HX.out.below hb)
          have HF := Aside0.mk (Kd.F_mono (ok' := fun k => ((Q k ∧ k ≠ g7) ∧ (fun k => k ≠ g15 ∧ k ≠ gb) k) ∧ k ≠ g18) hFk (fun k hk => ⟨⟨hk.1, hk.2.1⟩, hk.2.2⟩))
          have HCK := Aside0.mk hck
          clear hck hFk hb
          refine hK.out _ _ ⟨(blk_cell HS.out.b3 3).trans rfl, (blk_cell HS.out.b4 1).trans rfl, X0.out, X1.out, X2.out, X3.out, X4.out, X5.out⟩ (fun hHeld => ?_)
          clear hK K
          refine norm_ (a' := ?_) ?_ ?_
          rotate_left
          · show Act.put _ (some 141) _ = _
            simp only [Act.put, List.setIfInBounds_toArray, List.set_cons_zero, List.set_cons_succ, i64_w, i32_w]
            rfl
          refine pure_ (i := 12) (N := some 129) (v := ?_) (a' := ?_) #[true, true, true, true, true, true, true, true, true, true, true, true, true, false, false, true, false, false] rfl rfl (by kernel_rfl) (fun _ _ _ h => h) (Or.inl ⟨by rfl, ?_⟩) ?_ ?_
          rotate_left
          · intro w'
            go_simp
            with_reducible rfl
          rotate_left
          · simp only [Act.put, List.setIfInBounds_toArray, List.set_cons_zero, List.set_cons_succ, i64_w, i32_w]
            rfl
          refine pure_ (i := 13) (N := some 142) (v := ?_) (a' := ?_) #[true, true, true, true, true, true, true, true, true, true, true, true, true, true, false, true, false, false] rfl rfl (by kernel_rfl) (fun _ _ _ h => h) (Or.inl ⟨by rfl, ?_⟩) ?_ ?_
          rotate_left
          · intro w'
            go_simp
            with_reducible rfl
          rotate_left
          · simp only [Act.put, List.setIfInBounds_toArray, List.set_cons_zero, List.set_cons_succ, i64_w, i32_w]
            rfl
          refine pure_ (i := 14) (N := some 143) (v := ?_) (a' := ?_) #[true, true, true, true, true, true, true, true, true, true, true, true, true, true, true, true, false, false] rfl rfl (by kernel_rfl) (fun _ _ _ h => h) (Or.inl ⟨by rfl, ?_⟩) ?_ ?_
          rotate_left
          · intro w'
            go_simp
            with_reducible rfl
          rotate_left
          · simp only [Act.put, List.setIfInBounds_toArray, List.set_cons_zero, List.set_cons_succ, i64_w, i32_w]
            rfl
          exact norm_ (by simp only [putAll, Act.put, List.setIfInBounds_toArray, List.set_cons_zero, List.set_cons_succ]) (hCont (g18, Ak, ck) _ ⟨⟨HS.out, HX.out, HCK.out, HF.out⟩, ⟨HY.out, HO.out, N15.out, NB.out⟩⟩)
      rintro ⟨g18, Ak, ck⟩ wz hFk
      have HFK := Aside0.mk hFk.1
      have HY := Aside0.mk hFk.2.1
      have HO := Aside0.mk hFk.2.2.1
      have N15 := Aside0.mk hFk.2.2.2.1
      have NB := Aside0.mk hFk.2.2.2.2
      clear hFk
      refine norm_ (a' := ?_) ?_ ?_
      rotate_left
      · simp only [putAll, Act.put, List.setIfInBounds_toArray, List.set_cons_zero, List.set_cons_succ]
        rfl
      refine pure_ (i := 16) (N := some 17) (v := ?_) (a' := ?_) #[true, true, true, true, true, true, true, true, true, true, true, true, true, true, true, true, true, false] rfl rfl (by kernel_rfl) (fun _ _ _ h => h) (Or.inl ⟨by rfl, ?_⟩) ?_ ?_
      rotate_left
      · intro w'
        go_simp
        with_reducible rfl
      rotate_left
      · simp only [Act.put, List.setIfInBounds_toArray, List.set_cons_zero, List.set_cons_succ, i64_w, i32_w]
        rfl
      refine last_ (i := 17) (N := none) #[true, true, true, true, true, true, true, true, true, true, true, true, true, true, true, true, true, true] rfl rfl (by kernel_rfl) (by decide) (fun K hK => ?_)
      have cz0 := (blk_cell HFK.out.2.1.b 0).trans rfl
      have cz1 := (blk_cell HFK.out.2.1.b 1).trans rfl
      have fz0 := blk_frozen HFK.out.2.1.b 0
      have fz1 := blk_frozen HFK.out.2.1.b 1
      refine skip_ (w1 := ?_) (by rfl) rfl ?_ ?_
      rotate_left
      · go_simp
        rfl
      refine hK.out _ _ ?_
      clear hK K
      refine done_ (by kernel_rfl) ?_
      have HP_ := Fk.put HFK.out k0
      have HS := Aside0.mk HP_.1
      have HX := Aside0.mk HP_.2.1
      have HCK := Aside0.mk HP_.2.2.1
      have HF := Aside0.mk HP_.2.2.2
      have HY := Aside0.mk ((HY.out.far (p := ⟨g18, 0, none⟩) N15.out (.int .i64 k0)).far (p := ⟨g18, 1, none⟩) N15.out (.slice Ak k1.length ck))
      have HO := Aside0.mk (HO.out.put NB.out (.int .i64 k0) (.slice Ak k1.length ck))
      clear HP_ HFK cz0 cz1 fz0 fz1
      generalize ((wz.setCell ⟨g18, 0, none⟩ (.int .i64 k0)).setCell ⟨g18, 1, none⟩ (.slice Ak k1.length ck)) = wy at HS HX HF HY HO ⊢
      by_cases r2 : r = 2
      · subst r2
        have HZ2 := Aside0.mk (show zz = (2, ⟨i, bl.set i.toNat ⟨k0, k1⟩⟩, u) from by rw [← HF1.out, if_pos rfl]; rfl)
        clear HF1
        obtain ⟨v0, v1, hv0, hv1, hfr⟩ := HO.out.row.cells i.toNat (by rw [HBLL.out]; have := HI.out.1; have := HIL.out; omega)
        have fr0 := hfr (i.toNat * 2)
        have fr1 := hfr (i.toNat * 2 + 1)
        clear hfr
        have c30 := (blk_cell HS.out.b3 0).trans rfl
        have cy0 := (blk_cell HY.out.b 0).trans rfl
        have cy1 := (blk_cell HY.out.b 1).trans rfl
        have fy0 := blk_frozen HY.out.b 0
        have cx0 := (blk_cell HX.out.b 0).trans rfl
        have cx1 := (blk_cell HX.out.b 1).trans rfl
        have e1 := N15.out
        have e2 := N15.out.symm
        have e3 := NB.out
        have e4 := NB.out.symm
        have e5 := HO.out.n15
        have e6 := HO.out.n15.symm
        go_upto_region 31 with (fail)
        have HFL := Aside0.mk (OutS.lay (HO.out.put15 0 (.int .i64 i)) i.toNat (by rw [HBLL.out]; have := HI.out.1; have := HIL.out; omega) (by rw [HBLL.out]; exact HMX.out) HQ.out ⟨k0, k1⟩ HCK.out (Kd.F_far (p := ⟨g15, 0, none⟩) HF.out (fun _ hk => hk.2.1) (.int .i64 i)))
        have HS := Aside0.mk (((HS.out.set HY.out.wg HY.out.n3 HY.out.n4 HY.out.n7 0 (.int .i64 i)).set HO.out.wg HO.out.n3 HO.out.n4 HO.out.n7 (i.toNat * 2) (.int .i64 k0)).set HO.out.wg HO.out.n3 HO.out.n4 HO.out.n7 (i.toNat * 2 + 1) (.slice Ak k1.length ck))
        have HY1 := Aside0.mk (show ((((wy.setCell ⟨g15, 0, none⟩ (.int .i64 i)).setCell ⟨gb, i.toNat * 2, none⟩ (.int .i64 k0)).setCell ⟨gb, i.toNat * 2 + 1, none⟩ (.slice Ak k1.length ck))).heap[g15]? = some (.cells (boxM i (some ⟨gb, 0, none⟩) L cb) 40 (0, 0)) from blk_far (blk_far (blk_put HY.out.b 0 (.int .i64 i) rfl) HO.out.n15 _) HO.out.n15 _)
        clear c30 cy0 cy1 fy0 cx0 cx1 e1 e2 e3 e4 e5 e6 fr0 fr1 hv0 hv1 HY HO HX HF
        generalize (((wy.setCell ⟨g15, 0, none⟩ (.int .i64 i)).setCell ⟨gb, i.toNat * 2, none⟩ (.int .i64 k0)).setCell ⟨gb, i.toNat * 2 + 1, none⟩ (.slice Ak k1.length ck)) = wf at HS HFL HY1 ⊢
        have HS := Aside0.mk HS.out.drew
        have HFL := Aside0.mk (Kd.F_drew HFL.out)
        have HY1 := Aside0.mk (blk_drew HY1.out)
        refine start_ (n := 3) (S := fun w' => w'.cell? ⟨g15, 0, none⟩ = some (.int .i64 i) ∧ w'.cell? ⟨g15, 1, none⟩ = some (.slice (some ⟨gb, 0, none⟩) L cb)) (ds := [2]) #[false, false, false] (by kernel_rfl) rfl rfl ⟨(blk_cell HY1.out 0).trans rfl, (blk_cell HY1.out 1).trans rfl⟩ (fun hHeld => ?_)
        generalize wf.drew = wd at HS HFL HY1 hHeld ⊢
        refine pure_ (i := 1) (N := some 6) (v := ?_) (a' := ?_) #[false, true, false] rfl rfl (by kernel_rfl) (fun _ _ _ h => h) (Or.inl ⟨by rfl, ?_⟩) ?_ ?_
        rotate_left
        · intro w'
          go_simp
          with_reducible rfl
        rotate_left
        · simp only [Act.put, List.setIfInBounds_toArray, List.set_cons_zero, List.set_cons_succ, i64_w, i32_w]
          rfl
        refine take_ (i := 0) (N := some 161) (v := ?_) (a' := ?_) #[true, true, false] rfl rfl (by kernel_rfl) (fun _ _ _ h => h) (Or.inl ⟨by rfl, ?_⟩) hHeld ?_ ?_
        rotate_left
        · rintro w' ⟨s0, s1⟩
          go_simp
          with_reducible rfl
        rotate_left
        · simp only [Act.put, List.setIfInBounds_toArray, List.set_cons_zero, List.set_cons_succ, i64_w, i32_w]
          rfl
        refine last_ (i := 2) (N := none) #[true, true, true] rfl rfl (by kernel_rfl) (by decide) (fun K hK => ?_)
        have cz0 := (blk_cell HS.out.b7 0).trans rfl
        have cz1 := (blk_cell HS.out.b7 1).trans rfl
        have fz0 := blk_frozen HS.out.b7 0
        have fz1 := blk_frozen HS.out.b7 1
        refine skip_ (w1 := ?_) (by rfl) rfl ?_ ?_
        rotate_left
        · go_simp
          rfl
        refine hK.out _ _ ?_
        clear hK K
        refine done_ (by kernel_rfl) ?_
        try go_wp2
        refine bodyPost_ret (results_tc rfl _ _ g7 40 #[.int .i64 i, .slice (some ⟨gb, 0, none⟩) L cb] (0, 0) _ rfl (put2 HS.out.b7 _ _) Try.underlying40 rfl (by kernel_rfl)) rfl ?_
        have h1_ : (bl.set i.toNat (⟨k0, k1⟩ : Md)).length = L := by rw [List.length_set]; exact HBLL.out
        rw [HZ2.out, show (Value.slice (some ⟨gb, 0, none⟩) L cb) = Value.slice (some ⟨gb, 0, none⟩) (bl.set i.toNat (⟨k0, k1⟩ : Md)).length cb from by rw [h1_]]
        exact HS.out.fin HFL.out (by rw [List.length_set, HBLL.out]; exact HCB.out) _ _
      · have R2 : (r == 2) = false := beqF r2
        by_cases r3 : r = 0
        · subst r3
          have HF2 := Aside0.mk (show thinkL Th ⟨0, bl⟩ (4 : Int) (i + 1).toNat (n3.drop (i + 1).toNat) (m1.drop (i + 1).toNat) () = zz from by rw [← HF1.out, if_neg r2, if_pos (show (0 : Int) = onV (4 : Int) from rfl)])
          have HW := Aside0.mk (show wrap64 (i + 1) = i + 1 from w64 (by have := HI.out.1; omega) (by have := HIL.out; have := HMX.out; omega))
          clear HF1 r2
          cases gk with
          | zero => exact absurd HI.out.2 (by have := HI.out.1; have := HIL.out; omega)
          | succ kz =>
            go_wp2
            go_roundg kz
            case measure => omega
            case rel => exact ⟨i + 1, by rw [HW.out], ⟨by have := HI.out.1; omega, by have := HI.out; omega⟩, HF2, HS, HY, ⟨fun _ => ⟨gb, rfl, HO.out⟩⟩⟩
        · have R3 : (r != 0) = true := bne_iff_ne.mpr r3
          have HZ2 := Aside0.mk (show zz = (r, ⟨0, bl⟩, u) from by rw [← HF1.out, if_neg r2, if_neg (show ¬ r = onV (4 : Int) from r3)])
          clear HF1 r2 r3
          have c30 := (blk_cell HS.out.b3 0).trans rfl
          have c31 := (blk_cell HS.out.b3 1).trans rfl
          have c32 := (blk_cell HS.out.b3 2).trans rfl
          have c33 := (blk_cell HS.out.b3 3).trans rfl
          have c40 := (blk_cell HS.out.b4 0).trans rfl
          have c41 := (blk_cell HS.out.b4 1).trans rfl
          go_wp2_with (first | ((with_reducible refine gate_callee (f := 16) rfl ?_); refine goesL_ (some 167) rfl rfl Try.func16 (by kernel_rfl) rfl #[.agg #[.int .i64 (4 : Int), .string n1, .int .i64 n2, .slice (some ad) L c3]] rfl (by (try simp only [zm1, zm2, zm3]); first | done | rfl) ?_; have hcall := blank_call HS.out HQ.out HL.out HC3.out HBL.out HBLL.out; (refine hcall.mono ?_); clear hcall; rintro e wq ⟨Ac, cc, rfl, hcc, hfc, hgc, hb⟩; refine ⟨_, rfl, ?_⟩; have HS := Aside0.mk (HS.out.below hb); have HFC := Aside0.mk hfc; have HCC := Aside0.mk hcc; clear hcc hfc hgc hb c30 c31 c32 c33 c40 c41; have cz0 := (blk_cell HS.out.b7 0).trans rfl; have cz1 := (blk_cell HS.out.b7 1).trans rfl; have fz0 := blk_frozen HS.out.b7 0; have fz1 := blk_frozen HS.out.b7 1))
          try go_wp2
          refine bodyPost_ret (results_tc rfl _ _ g7 40 #[.int .i64 0, .slice Ac L cc] (0, 0) _ rfl (put2 HS.out.b7 _ _) Try.underlying40 rfl (by kernel_rfl)) rfl ?_
          have h1_ := HBLL.out
          rw [HZ2.out, show (Value.slice Ac L cc) = Value.slice Ac bl.length cc from by rw [h1_]]
          exact HS.out.fin HFC.out (by rw [HBLL.out]; exact HCC.out) _ _
    · have HZ2 := Aside0.mk (show zz = (0, ⟨0, bl⟩, ()) from by rw [← HF0.out, thinkL_end Th ⟨0, bl⟩ (4 : Int) HL.out i hi]; rfl)
      have hib : decide (i < (L : Int)) = false := decide_eq_false hi
      have q0 : (i < (L : Int)) = False := eq_false hi
      clear HF0 hi
      have c30 := (blk_cell HS.out.b3 0).trans rfl
      have c31 := (blk_cell HS.out.b3 1).trans rfl
      have c32 := (blk_cell HS.out.b3 2).trans rfl
      have c33 := (blk_cell HS.out.b3 3).trans rfl
      have c40 := (blk_cell HS.out.b4 0).trans rfl
      have c41 := (blk_cell HS.out.b4 1).trans rfl
      go_wp2_with (first | ((with_reducible refine gate_callee (f := 16) rfl ?_); refine goesL_ (some 170) rfl rfl Try.func16 (by kernel_rfl) rfl #[.agg #[.int .i64 (4 : Int), .string n1, .int .i64 n2, .slice A3 L c3]] rfl (by (try simp only [zm1, zm2, zm3]); first | done | rfl) ?_; have hcall := blank_call HS.out HQ.out HL.out HC3.out HBL.out HBLL.out; (refine hcall.mono ?_); clear hcall; rintro e wq ⟨Ac, cc, rfl, hcc, hfc, hgc, hb⟩; refine ⟨_, rfl, ?_⟩; have HS := Aside0.mk (HS.out.below hb); have HFC := Aside0.mk hfc; have HCC := Aside0.mk hcc; clear hcc hfc hgc hb c30 c31 c32 c33 c40 c41; have cz0 := (blk_cell HS.out.b7 0).trans rfl; have cz1 := (blk_cell HS.out.b7 1).trans rfl; have fz0 := blk_frozen HS.out.b7 0; have fz1 := blk_frozen HS.out.b7 1))
      try go_wp2
      refine bodyPost_ret (results_tc rfl _ _ g7 40 #[.int .i64 0, .slice Ac L cc] (0, 0) _ rfl (put2 HS.out.b7 _ _) Try.underlying40 rfl (by kernel_rfl)) rfl ?_
      have h1_ := HBLL.out
      rw [HZ2.out, show (Value.slice Ac L cc) = Value.slice Ac bl.length cc from by rw [h1_]]
      exact HS.out.fin HFC.out (by rw [HBLL.out]; exact HCC.out) _ _
set_option maxHeartbeats 8000000 in
set_option maxRecDepth 100000 in
theorem think_list7 (hL : n3.length = L) (hLm : m1.length = L) (hP : Pure W g lb fn an0) (hc3 : L ≤ c3) (hcm : L ≤ cm) (hT : Tr W Al A3 n3) (hM : FM W Q Am m1) (hQ : ∀ k, W.heap.size ≤ k → Q k) (hmax : L ≤ 1000000) (hm0 : 0 ≤ m0) (hm1 : m0 ≤ L) {kb : Nat} {bl : List Md} (hbl : tourref5_Blank.f kb n0 n1 n2 n3 = some (0, bl)) (hbll : bl.length = L) {Th : Nd → Md → Unit → Int × Md × Unit} (ih : ∀ i : Int, 0 ≤ i → i < L → ThinkC an0 (Th (rdN n3 i) (rdM m1 i) ()) (rdN n3 i) (rdM m1 i)) {zz : Int × Md × Unit} (hzz : thinkL Th ⟨0, bl⟩ n0 m0.toNat (n3.drop m0.toNat) (m1.drop m0.toNat) () = zz) (e : n0 = 7) :
    Calls Try.prog 18 #[.agg #[.int .i64 n0, .string n1, .int .i64 n2, .slice A3 L c3], .agg #[.int .i64 m0, .slice Am L cm], .func (.func g) #[] lb] W fun e w' => Ret Q W w' e zz.1 zz.2.1.f0 zz.2.1.f1 := by
  subst e
  have HBL := Aside0.mk hbl
  have HBLL := Aside0.mk hbll
  have IH := Aside0.mk ih
  have HZZ := Aside0.mk hzz
  have HM0 := Aside0.mk (show 0 ≤ m0 ∧ m0.toNat + (L - m0.toNat) = L from ⟨hm0, by omega⟩)
  have HMX := Aside0.mk hmax
  clear hbl hbll ih hzz hm0 hm1 hmax
  have HL := Aside0.mk hL
  have HLm := Aside0.mk hLm
  have HP := Aside0.mk hP
  have HC3 := Aside0.mk hc3
  have HCM := Aside0.mk hcm
  have HT := Aside0.mk hT
  have HM := Aside0.mk hM
  have HQ := Aside0.mk hQ
  clear hL hLm hP hc3 hcm hT hM hQ
  go_enter Try.func18, Try.ntmps18
  go_upto_region 23 with (first | ((with_reducible refine gate_dst (N := 3) rfl ?_); refine box_event ?hg (N := 3) ?hd (cs := #[.int .i64 (7 : Int), .string n1, .int .i64 n2, .slice A3 L c3]) (t := 25) ?hr ?_; (case hd => rfl); (case hg => rfl); (case hr => first | (go_simp; done) | (go_simp; rfl)); intro g3 hg w1 hbox hb; have E3 := Aside0.mk hg; have BK3 := Aside0.mk hbox; have HB1 := Aside0.mk hb; clear hg hbox hb) | ((with_reducible refine gate_dst (N := 4) rfl ?_); refine box_event ?hg (N := 4) ?hd (cs := #[.int .i64 m0, .slice Am L cm]) (t := 40) ?hr ?_; (case hd => rfl); (case hg => rfl); (case hr => first | (go_simp; done) | (go_simp; rfl)); intro g4 hg w2 hbox hb; have E4 := Aside0.mk hg; have BK4 := Aside0.mk hbox; have HB2 := Aside0.mk hb; clear hg hbox hb) | ((with_reducible refine gate_dst (N := 7) rfl ?_); refine box_event ?hg (N := 7) ?hd (cs := #[.int .i64 0, .slice none 0 0]) (t := 40) ?hr ?_; (case hd => rfl); (case hg => rfl); (case hr => first | (go_simp; done) | (go_simp; rfl)); intro g7 hg w3 hbox hb; have HS := Aside0.mk (show Bs Q W w3 g3 g4 g7 (7 : Int) n1 n2 n3 A3 L c3 m0 m1 Am cm from Bs.start HT.out HM.out E3.out BK3.out HB1.out E4.out BK4.out HB2.out hg hbox hb); clear hg hbox hb E3 BK3 HB1 E4 BK4 HB2; have c30 := (blk_cell HS.out.b3 0).trans rfl; have c31 := (blk_cell HS.out.b3 1).trans rfl; have c32 := (blk_cell HS.out.b3 2).trans rfl; have c33 := (blk_cell HS.out.b3 3).trans rfl; have c40 := (blk_cell HS.out.b4 0).trans rfl; have c41 := (blk_cell HS.out.b4 1).trans rfl) | ((with_reducible refine gate_callee (f := 36) rfl ?_); refine goesL_ (some 117) rfl rfl Try.func36 (by kernel_rfl) rfl #[.bool true] rfl (by (try simp only [zm1, zm2, zm3]); first | done | rfl) ?_; (refine (tourref5_one.calls true 1 _ rfl).mono ?_); rintro e wo ⟨rfl, hb0⟩; refine ⟨_, rfl, ?_⟩; have HS := Aside0.mk (HS.out.below hb0.below); clear hb0 c30 c31 c32 c33 c40 c41; have c30 := (blk_cell HS.out.b3 0).trans rfl; have c31 := (blk_cell HS.out.b3 1).trans rfl; have c32 := (blk_cell HS.out.b3 2).trans rfl; have c33 := (blk_cell HS.out.b3 3).trans rfl; have c40 := (blk_cell HS.out.b4 0).trans rfl; have c41 := (blk_cell HS.out.b4 1).trans rfl) | ((with_reducible refine gate_callee (f := 16) rfl ?_); refine goesL_ (some 119) rfl rfl Try.func16 (by kernel_rfl) rfl #[.agg #[.int .i64 (7 : Int), .string n1, .int .i64 n2, .slice A3 L c3]] rfl (by (try simp only [zm1, zm2, zm3]); first | done | rfl) ?_; have hcall := blank_call HS.out HQ.out HL.out HC3.out HBL.out HBLL.out; (refine hcall.mono ?_); clear hcall; rintro e wc ⟨Ab, cb, rfl, hcb, hfb, hgb, hb⟩; refine ⟨_, rfl, ?_⟩; have HOB := Aside0.mk (show 0 < L → ∃ gb, Ab = some ⟨gb, 0, none⟩ ∧ OutR Q W wc g3 g4 g7 gb bl from fun hp => (hgb hp).imp fun _ h => ⟨h.1, h.2.2⟩); have HS := Aside0.mk (HS.out.below hb); have HFB := Aside0.mk hfb; have HCB := Aside0.mk hcb; clear hcb hfb hgb hb c30 c31 c32 c33 c40 c41) | ((with_reducible refine gate_dst (N := 15) rfl ?_); refine box_event ?hg (N := 15) ?hd (cs := #[.int .i64 0, .slice none 0 0]) (t := 40) ?hr ?_; (case hd => rfl); (case hg => rfl); (case hr => first | (go_simp; done) | (go_simp; rfl)); intro g15 hg wd hbox hb; have HY := Aside0.mk (HS.out.new (Nat.le_of_eq hg.symm) hbox); have HFB := Aside0.mk (Kd.F_below (Kd.F_elderB HFB.out g15 (Nat.le_of_eq hg.symm)) hb); have HO := Aside0.mk (show 0 < L → ∃ gb, Ab = some ⟨gb, 0, none⟩ ∧ OutS Q Al W wd g3 g4 g7 g15 gb bl from fun hp => (HOB.out hp).imp fun _ h => ⟨h.1, OutS.of h.2 (Nat.le_of_eq hg.symm) hb⟩); clear HOB; have HS := Aside0.mk (HS.out.below hb); clear hg hbox hb; have cy0 := (blk_cell HY.out.b 0).trans rfl; have cy1 := (blk_cell HY.out.b 1).trans rfl; have fy0 := blk_frozen HY.out.b 0; have fy1 := blk_frozen HY.out.b 1))
  have HS := Aside0.mk (HS.out.setX HY.out (.int .i64 0) (.slice Ab L cb))
  have HO := Aside0.mk (show 0 < L → ∃ gb, Ab = some ⟨gb, 0, none⟩ ∧ OutS Q Al W ((wd.setCell ⟨g15, 0, none⟩ (.int .i64 0)).setCell ⟨g15, 1, none⟩ (.slice Ab L cb)) g3 g4 g7 g15 gb bl from fun hp => (HO.out hp).imp fun _ h => ⟨h.1, (h.2.put15 0 _).put15 1 _⟩)
  have HY := Aside0.mk (HY.out.put (.int .i64 0) (.slice Ab L cb))
  clear cy0 cy1 fy0 fy1 HFB
  generalize ((wd.setCell ⟨g15, 0, none⟩ (.int .i64 0)).setCell ⟨g15, 1, none⟩ (.slice Ab L cb)) = we at HS HO HY ⊢
  have c40 := (blk_cell HS.out.b4 0).trans rfl
  go_wp2
  clear c40
  go_loopg [16] (L - m0.toNat) (fun kq v16 wr => ∃ i : Int, v16 = .int .i64 i ∧ Aside0 (0 ≤ i ∧ i.toNat + kq = L) ∧ Aside0 (thinkL Th ⟨0, bl⟩ (7 : Int) i.toNat (n3.drop i.toNat) (m1.drop i.toNat) () = zz) ∧ Aside0 (Bs Q W wr g3 g4 g7 (7 : Int) n1 n2 n3 A3 L c3 m0 m1 Am cm) ∧ Aside0 (Bx W wr g3 g4 g7 g15 (boxM 0 Ab L cb)) ∧ Aside0 (0 < L → ∃ gb, Ab = some ⟨gb, 0, none⟩ ∧ OutS Q Al W wr g3 g4 g7 g15 gb bl))
  case atStart => exact ⟨m0, rfl, HM0, HZZ, HS, HY, HO⟩
  case round =>
    clear HS HY HO HZZ HM0
    obtain ⟨i, rfl, HI, HF0, HS, HY, HO⟩ := hrel
    by_cases hi : i < (L : Int)
    · have h0 := HI.out.1
      have HIL := Aside0.mk hi
      obtain ⟨gb, rfl, ho⟩ := HO.out (by omega)
      clear HO
      have HO := Aside0.mk ho
      clear ho
      obtain ⟨x, hx⟩ : ∃ x, rdN n3 i = x := ⟨_, rfl⟩
      obtain ⟨y, hy⟩ : ∃ y, rdM m1 i = y := ⟨_, rfl⟩
      obtain ⟨⟨r, ⟨k0, k1⟩, u⟩, hz⟩ : ∃ z, Th x y () = z := ⟨_, rfl⟩
      have HZ := Aside0.mk (show ThinkC an0 (r, ⟨k0, k1⟩, u) x y from by rw [← hz, ← hx, ← hy]; exact IH.out i h0 hi)
      have hF := HF0.out
      rw [thinkL_step Th ⟨0, bl⟩ (7 : Int) HL.out HLm.out i h0 hi, hx, hy, hz] at hF
      dsimp only at hF
      have HF1 := Aside0.mk hF
      clear hF HF0 hz
      have c33 := (blk_cell HS.out.b3 3).trans rfl
      have p0 := eq_true h0
      have q0 := eq_true hi
      have hib : decide (i < (L : Int)) = true := decide_eq_true hi
      clear h0 hi
      go_upto_region 26 with (fail)
      clear c33
      have HS := Aside0.mk HS.out.drew
      have HY := Aside0.mk HY.out.drew
      have HO := Aside0.mk (HO.out.below (Below.refl _ _).drew)
      obtain ⟨ad, A4, c4, rfl, hc4, hT4, hcell⟩ := Tr.elem HS.out.tn i HI.out.1 (by rw [HL.out]; exact HIL.out)
      obtain ⟨ae, A5, c5, rfl, hc5, hM5, y0, y1⟩ := FM.elem HS.out.mind i HI.out.1 (by rw [HLm.out]; exact HIL.out)
      obtain ⟨x0, x1, x2, x3⟩ := hcell wr.drew (fun _ _ _ => rfl)
      rw [hx] at hc4 hT4 x0 x1 x2 x3
      rw [hy] at hc5 hM5 y0 y1
      have X0 := Aside0.mk x0
      have X1 := Aside0.mk x1
      have X2 := Aside0.mk x2
      have X3 := Aside0.mk x3
      have X4 := Aside0.mk y0
      have X5 := Aside0.mk y1
      have HC4 := Aside0.mk hc4
      have HC5 := Aside0.mk hc5
      have HT4 := Aside0.mk hT4
      have HM5 := Aside0.mk hM5
      clear x0 x1 x2 x3 y0 y1 hc4 hc5 hT4 hM5 hcell hx hy
      refine start_ (n := 18) (S := fun w' => w'.cell? ⟨g3, 3, none⟩ = some (.slice (some ad) L c3) ∧ w'.cell? ⟨g4, 1, none⟩ = some (.slice (some ae) L cm) ∧ w'.cell? (ad.add (i.toNat * 4)) = some (.int .i64 x.f0) ∧ w'.cell? ⟨(ad.add (i.toNat * 4)).block, (ad.add (i.toNat * 4)).off + 1, none⟩ = some (.string x.f1) ∧ w'.cell? ⟨(ad.add (i.toNat * 4)).block, (ad.add (i.toNat * 4)).off + 2, none⟩ = some (.int .i64 x.f2) ∧ w'.cell? ⟨(ad.add (i.toNat * 4)).block, (ad.add (i.toNat * 4)).off + 3, none⟩ = some (.slice A4 x.f3.length c4) ∧ w'.cell? (ae.add (i.toNat * 2)) = some (.int .i64 y.f0) ∧ w'.cell? ⟨(ae.add (i.toNat * 2)).block, (ae.add (i.toNat * 2)).off + 1, none⟩ = some (.slice A5 y.f1.length c5)) (ds := [17]) #[false, false, false, false, false, false, false, false, false, false, false, false, false, false, false, false, false, false] (by kernel_rfl) rfl rfl ⟨(blk_cell HS.out.b3 3).trans rfl, (blk_cell HS.out.b4 1).trans rfl, X0.out, X1.out, X2.out, X3.out, X4.out, X5.out⟩ (fun hHeld => ?_)
      generalize wr.drew = wd at HS X0 X1 X2 X3 X4 X5 HT4 HM5 HY HO hHeld ⊢
      refine pure_ (i := 0) (N := some 130) (v := ?_) (a' := ?_) #[true, false, false, false, false, false, false, false, false, false, false, false, false, false, false, false, false, false] rfl rfl (by kernel_rfl) (fun _ _ _ h => h) (Or.inl ⟨by rfl, ?_⟩) ?_ ?_
      rotate_left
      · intro w'
        go_simp
        with_reducible rfl
      rotate_left
      · simp only [Act.put, List.setIfInBounds_toArray, List.set_cons_zero, List.set_cons_succ, i64_w, i32_w]
        rfl
      refine pure_ (i := 2) (N := some 132) (v := ?_) (a' := ?_) #[true, false, true, false, false, false, false, false, false, false, false, false, false, false, false, false, false, false] rfl rfl (by kernel_rfl) (fun _ _ _ h => h) (Or.inl ⟨by rfl, ?_⟩) ?_ ?_
      rotate_left
      · intro w'
        go_simp
        with_reducible rfl
      rotate_left
      · simp only [Act.put, List.setIfInBounds_toArray, List.set_cons_zero, List.set_cons_succ, i64_w, i32_w]
        rfl
      refine pure_ (i := 5) (N := some 135) (v := ?_) (a' := ?_) #[true, false, true, false, false, true, false, false, false, false, false, false, false, false, false, false, false, false] rfl rfl (by kernel_rfl) (fun _ _ _ h => h) (Or.inl ⟨by rfl, ?_⟩) ?_ ?_
      rotate_left
      · intro w'
        go_simp
        with_reducible rfl
      rotate_left
      · simp only [Act.put, List.setIfInBounds_toArray, List.set_cons_zero, List.set_cons_succ, i64_w, i32_w]
        rfl
      refine pure_ (i := 7) (N := some 137) (v := ?_) (a' := ?_) #[true, false, true, false, false, true, false, true, false, false, false, false, false, false, false, false, false, false] rfl rfl (by kernel_rfl) (fun _ _ _ h => h) (Or.inl ⟨by rfl, ?_⟩) ?_ ?_
      rotate_left
      · intro w'
        go_simp
        with_reducible rfl
      rotate_left
      · simp only [Act.put, List.setIfInBounds_toArray, List.set_cons_zero, List.set_cons_succ, i64_w, i32_w]
        rfl
      refine pure_ (i := 10) (N := some 140) (v := ?_) (a' := ?_) #[true, false, true, false, false, true, false, true, false, false, true, false, false, false, false, false, false, false] rfl rfl (by kernel_rfl) (fun _ _ _ h => h) (Or.inl ⟨by rfl, ?_⟩) ?_ ?_
      rotate_left
      · intro w'
        go_simp
        with_reducible rfl
      rotate_left
      · simp only [Act.put, List.setIfInBounds_toArray, List.set_cons_zero, List.set_cons_succ, i64_w, i32_w]
        rfl
      refine take_ (i := 1) (N := some 131) (v := ?_) (a' := ?_) #[true, true, true, false, false, true, false, true, false, false, true, false, false, false, false, false, false, false] rfl rfl (by kernel_rfl) (fun _ _ _ h => h) (Or.inl ⟨by rfl, ?_⟩) hHeld ?_ ?_
      rotate_left
      · rintro w' ⟨s0, s1, s2, s3, s4, s5, s6, s7⟩
        go_simp
        with_reducible rfl
      rotate_left
      · simp only [Act.put, List.setIfInBounds_toArray, List.set_cons_zero, List.set_cons_succ, i64_w, i32_w]
        rfl
      refine pure_ (i := 3) (N := some 133) (v := ?_) (a' := ?_) #[true, true, true, true, false, true, false, true, false, false, true, false, false, false, false, false, false, false] rfl rfl (by kernel_rfl) (fun _ _ _ h => h) (Or.inl ⟨by rfl, ?_⟩) ?_ ?_
      rotate_left
      · intro w'
        go_simp
        with_reducible rfl
      rotate_left
      · simp only [Act.put, List.setIfInBounds_toArray, List.set_cons_zero, List.set_cons_succ, i64_w, i32_w]
        rfl
      refine take_ (i := 4) (N := some 134) (v := ?_) (a' := ?_) #[true, true, true, true, true, true, false, true, false, false, true, false, false, false, false, false, false, false] rfl rfl (by kernel_rfl) (fun _ _ _ h => h) (Or.inl ⟨by rfl, ?_⟩) hHeld ?_ ?_
      rotate_left
      · rintro w' ⟨s0, s1, s2, s3, s4, s5, s6, s7⟩
        go_simp
        with_reducible rfl
      rotate_left
      · simp only [Act.put, List.setIfInBounds_toArray, List.set_cons_zero, List.set_cons_succ, i64_w, i32_w]
        rfl
      refine take_ (i := 6) (N := some 136) (v := ?_) (a' := ?_) #[true, true, true, true, true, true, true, true, false, false, true, false, false, false, false, false, false, false] rfl rfl (by kernel_rfl) (fun _ _ _ h => h) (Or.inl ⟨by rfl, ?_⟩) hHeld ?_ ?_
      rotate_left
      · rintro w' ⟨s0, s1, s2, s3, s4, s5, s6, s7⟩
        go_simp
        with_reducible rfl
      rotate_left
      · simp only [Act.put, List.setIfInBounds_toArray, List.set_cons_zero, List.set_cons_succ, i64_w, i32_w]
        rfl
      refine pure_ (i := 8) (N := some 138) (v := ?_) (a' := ?_) #[true, true, true, true, true, true, true, true, true, false, true, false, false, false, false, false, false, false] rfl rfl (by kernel_rfl) (fun _ _ _ h => h) (Or.inl ⟨by rfl, ?_⟩) ?_ ?_
      rotate_left
      · intro w'
        go_simp
        with_reducible rfl
      rotate_left
      · simp only [Act.put, List.setIfInBounds_toArray, List.set_cons_zero, List.set_cons_succ, i64_w, i32_w]
        rfl
      refine take_ (i := 9) (N := some 139) (v := ?_) (a' := ?_) #[true, true, true, true, true, true, true, true, true, true, true, false, false, false, false, false, false, false] rfl rfl (by kernel_rfl) (fun _ _ _ h => h) (Or.inl ⟨by rfl, ?_⟩) hHeld ?_ ?_
      rotate_left
      · rintro w' ⟨s0, s1, s2, s3, s4, s5, s6, s7⟩
        go_simp
        with_reducible rfl
      rotate_left
      · simp only [Act.put, List.setIfInBounds_toArray, List.set_cons_zero, List.set_cons_succ, i64_w, i32_w]
        rfl
      refine join_ (σ := Nat × Option Addr × Nat) 2 #[true, true, true, true, true, true, true, true, true, true, true, true, true, true, true, true, false, false] (fun s => [(141, .tuple #[.int .i64 r, .agg #[.int .i64 k0, .slice s.2.1 k1.length s.2.2]]), (129, .tuple #[.int .i64 r, .agg #[.int .i64 k0, .slice s.2.1 k1.length s.2.2]]), (142, .int .i64 r), (143, .agg #[.int .i64 k0, .slice s.2.1 k1.length s.2.2]), (18, .pointer (some ⟨s.1, 0, none⟩))]) (fun s w' => Fk Q (fun k => k ≠ g15 ∧ k ≠ gb) W g3 g4 g7 (7 : Int) n1 n2 n3 (some ad) L c3 m0 m1 (some ae) cm k1 s w' ∧ (Bx W w' g3 g4 g7 g15 (boxM 0 (some ⟨gb, 0, none⟩) L cb) ∧ OutS Q (fun k => k ≠ s.1) W w' g3 g4 g7 g15 gb bl ∧ g15 ≠ s.1 ∧ gb ≠ s.1)) ?_ ?_
      rotate_left
      · intro hCont
        refine two_ (i := 11) (j := 15) (Ni := some 141) (Nj := some 18) #[true, true, true, true, true, true, true, true, true, true, true, true, false, false, false, false, false, false] #[true, true, true, true, true, true, true, true, true, true, true, false, false, false, false, true, false, false] rfl rfl rfl rfl (by kernel_rfl) (by decide) (by decide) (fun K hK => ?_) (fun K hK => ?_)
        · skip
          refine goes_ Try.func18 (by kernel_rfl) rfl #[.agg #[.int .i64 x.f0, .string x.f1, .int .i64 x.f2, .slice A4 x.f3.length c4], .agg #[.int .i64 y.f0, .slice A5 y.f1.length c5], .func (.func g) #[] lb] (by rfl) rfl rfl (by simp only [List.map_toArray, List.map_cons, List.map_nil]; rfl) ?_
          refine (ThinkC.within HZ.out HS.out HQ.out (q := fun k => k ≠ g15 ∧ k ≠ gb) (fun k hk => ⟨by have h1 := HY.out.wg; have h2 := blk_lt HY.out.b; omega, by have h1 := HO.out.wg; have h2 := HO.out.row.lt; omega⟩) HP.out HC4.out HC5.out HT4.out HM5.out).mono ?_
          rintro e wb ⟨Ak, ck, rfl, hck, hFk, hb⟩
          refine ⟨_, rfl, ?_⟩
          have HS := Aside0.mk (HS.out.below hb)
          have X0 := Aside0.mk (cellB hb X0.out)
          have X1 := Aside0.mk (cellB hb X1.out)
          have X2 := Aside0.mk (cellB hb X2.out)
          have X3 := Aside0.mk (cellB hb X3.out)
          have X4 := Aside0.mk (cellB hb X4.out)
          have X5 := Aside0.mk (cellB hb X5.out)
          have HT4 := Aside0.mk (Kd.F_below HT4.out hb)
          have HM5 := Aside0.mk (Kd.F_below HM5.out hb)
          have HY := Aside0.mk (HY.out.below hb)
          have HO := Aside0.mk (HO.out.below hb)
          have HF := Aside0.mk hFk
          have HCK := Aside0.mk hck
          clear hck hFk hb
          refine hK.out _ _ ⟨(blk_cell HS.out.b3 3).trans rfl, (blk_cell HS.out.b4 1).trans rfl, X0.out, X1.out, X2.out, X3.out, X4.out, X5.out⟩ (fun hHeld => ?_)
          clear hK K
          refine norm_ (a' := ?_) ?_ ?_
          rotate_left
          · show Act.put _ (some 141) _ = _
            simp only [Act.put, List.setIfInBounds_toArray, List.set_cons_zero, List.set_cons_succ, i64_w, i32_w]
            rfl
          refine pure_ (i := 12) (N := some 129) (v := ?_) (a' := ?_) #[true, true, true, true, true, true, true, true, true, true, true, true, true, false, false, false, false, false] rfl rfl (by kernel_rfl) (fun _ _ _ h => h) (Or.inl ⟨by rfl, ?_⟩) ?_ ?_
          rotate_left
          · intro w'
            go_simp
            with_reducible rfl
          rotate_left
          · simp only [Act.put, List.setIfInBounds_toArray, List.set_cons_zero, List.set_cons_succ, i64_w, i32_w]
            rfl
          refine pure_ (i := 13) (N := some 142) (v := ?_) (a' := ?_) #[true, true, true, true, true, true, true, true, true, true, true, true, true, true, false, false, false, false] rfl rfl (by kernel_rfl) (fun _ _ _ h => h) (Or.inl ⟨by rfl, ?_⟩) ?_ ?_
          rotate_left
          · intro w'
            go_simp
            with_reducible rfl
          rotate_left
          · simp only [Act.put, List.setIfInBounds_toArray, List.set_cons_zero, List.set_cons_succ, i64_w, i32_w]
            rfl
          refine pure_ (i := 14) (N := some 143) (v := ?_) (a' := ?_) #[true, true, true, true, true, true, true, true, true, true, true, true, true, true, true, false, false, false] rfl rfl (by kernel_rfl) (fun _ _ _ h => h) (Or.inl ⟨by rfl, ?_⟩) ?_ ?_
          rotate_left
          · intro w'
            go_simp
            with_reducible rfl
          rotate_left
          · simp only [Act.put, List.setIfInBounds_toArray, List.set_cons_zero, List.set_cons_succ, i64_w, i32_w]
            rfl
          refine one_ (i := 15) (N := some 18) #[true, true, true, true, true, true, true, true, true, true, true, true, true, true, true, true, false, false] rfl rfl (by kernel_rfl) (by decide) (fun K hK => ?_)
          refine boxN_step (by rfl) rfl (cs := #[.int .i64 0, .slice none 0 0]) (t := 40) ?_ ?_
          · first | (go_simp; done) | (go_simp; rfl)
          intro g18 hg wa hbox hb
          have HX := Aside0.mk (HS.out.new (Nat.le_of_eq hg.symm) hbox)
          have HF := Aside0.mk (Kd.F_below (Kd.F_elderB HF.out g18 (Nat.le_of_eq hg.symm)) hb)
          have N15 := Aside0.mk (show g15 ≠ g18 from by have := blk_lt HY.out.b; omega)
          have NB := Aside0.mk (show gb ≠ g18 from by have := HO.out.row.lt; omega)
          have HO := Aside0.mk (HO.out.new (Nat.le_of_eq hg.symm) hb)
          have HY := Aside0.mk (HY.out.below hb)
          have HS := Aside0.mk (HS.out.below hb)
          have X0 := Aside0.mk (cellB hb X0.out)
          have X1 := Aside0.mk (cellB hb X1.out)
          have X2 := Aside0.mk (cellB hb X2.out)
          have X3 := Aside0.mk (cellB hb X3.out)
          have X4 := Aside0.mk (cellB hb X4.out)
          have X5 := Aside0.mk (cellB hb X5.out)
          have HT4 := Aside0.mk (Kd.F_below HT4.out hb)
          have HM5 := Aside0.mk (Kd.F_below HM5.out hb)
          clear hg hbox hb
          refine hK.out _ _ ⟨(blk_cell HS.out.b3 3).trans rfl, (blk_cell HS.out.b4 1).trans rfl, X0.out, X1.out, X2.out, X3.out, X4.out, X5.out⟩ (fun hHeld => ?_)
          clear hK K
          refine norm_ (a' := ?_) ?_ ?_
          rotate_left
          · show Act.put _ (some 18) _ = _
            simp only [Act.put, List.setIfInBounds_toArray, List.set_cons_zero, List.set_cons_succ, i64_w, i32_w]
            rfl
          exact norm_ (by simp only [putAll, Act.put, List.setIfInBounds_toArray, List.set_cons_zero, List.set_cons_succ]) (hCont (g18, Ak, ck) _ ⟨⟨HS.out, HX.out, HCK.out, HF.out⟩, ⟨HY.out, HO.out, N15.out, NB.out⟩⟩)
        · skip
          refine boxN_step (by rfl) rfl (cs := #[.int .i64 0, .slice none 0 0]) (t := 40) ?_ ?_
          · first | (go_simp; done) | (go_simp; rfl)
          intro g18 hg wa hbox hb
          have HX := Aside0.mk (HS.out.new (Nat.le_of_eq hg.symm) hbox)
          have N15 := Aside0.mk (show g15 ≠ g18 from by have := blk_lt HY.out.b; omega)
          have NB := Aside0.mk (show gb ≠ g18 from by have := HO.out.row.lt; omega)
          have HO := Aside0.mk (HO.out.new (Nat.le_of_eq hg.symm) hb)
          have HY := Aside0.mk (HY.out.below hb)
          have HS := Aside0.mk (HS.out.below hb)
          have X0 := Aside0.mk (cellB hb X0.out)
          have X1 := Aside0.mk (cellB hb X1.out)
          have X2 := Aside0.mk (cellB hb X2.out)
          have X3 := Aside0.mk (cellB hb X3.out)
          have X4 := Aside0.mk (cellB hb X4.out)
          have X5 := Aside0.mk (cellB hb X5.out)
          have HT4 := Aside0.mk (Kd.F_below HT4.out hb)
          have HM5 := Aside0.mk (Kd.F_below HM5.out hb)
          clear hg hbox hb
          refine hK.out _ _ ⟨(blk_cell HS.out.b3 3).trans rfl, (blk_cell HS.out.b4 1).trans rfl, X0.out, X1.out, X2.out, X3.out, X4.out, X5.out⟩ (fun hHeld => ?_)
          clear hK K
          refine norm_ (a' := ?_) ?_ ?_
          rotate_left
          · show Act.put _ (some 18) _ = _
            simp only [Act.put, List.setIfInBounds_toArray, List.set_cons_zero, List.set_cons_succ, i64_w, i32_w]
            rfl
          refine one_ (i := 11) (N := some 141) #[true, true, true, true, true, true, true, true, true, true, true, true, false, false, false, true, false, false] rfl rfl (by kernel_rfl) (by decide) (fun K hK => ?_)
          refine goes_ Try.func18 (by kernel_rfl) rfl #[.agg #[.int .i64 x.f0, .string x.f1, .int .i64 x.f2, .slice A4 x.f3.length c4], .agg #[.int .i64 y.f0, .slice A5 y.f1.length c5], .func (.func g) #[] lb] (by rfl) rfl rfl (by simp only [List.map_toArray, List.map_cons, List.map_nil]; rfl) ?_
          refine (ThinkC.within HZ.out HS.out HQ.out (q := fun k => (fun k => k ≠ g15 ∧ k ≠ gb) k ∧ k ≠ g18) (fun k hk => ⟨⟨by have h1 := HY.out.wg; have h2 := blk_lt HY.out.b; omega, by have h1 := HO.out.wg; have h2 := HO.out.row.lt; omega⟩, by have h1 := HX.out.wg; have h2 := blk_lt HX.out.b; omega⟩) HP.out HC4.out HC5.out HT4.out HM5.out).mono ?_
          rintro e wb ⟨Ak, ck, rfl, hck, hFk, hb⟩
          refine ⟨_, rfl, ?_⟩
          have HS := Aside0.mk (HS.out.below hb)
          have X0 := Aside0.mk (cellB hb X0.out)
          have X1 := Aside0.mk (cellB hb X1.out)
          have X2 := Aside0.mk (cellB hb X2.out)
          have X3 := Aside0.mk (cellB hb X3.out)
          have X4 := Aside0.mk (cellB hb X4.out)
          have X5 := Aside0.mk (cellB hb X5.out)
          have HT4 := Aside0.mk (Kd.F_below HT4.out hb)
          have HM5 := Aside0.mk (Kd.F_below HM5.out hb)
          have HY := Aside0.mk (HY.out.below hb)
          have HO := Aside0.mk (HO.out.below hb)
          have HX := Aside0.mk (HX.out.below hb)
          have HF := Aside0.mk (Kd.F_mono (ok' := fun k => ((Q k ∧ k ≠ g7) ∧ (fun k => k ≠ g15 ∧ k ≠ gb) k) ∧ k ≠ g18) hFk (fun k hk => ⟨⟨hk.1, hk.2.1⟩, hk.2.2⟩))
          have HCK := Aside0.mk hck
          clear hck hFk hb
          refine hK.out _ _ ⟨(blk_cell HS.out.b3 3).trans rfl, (blk_cell HS.out.b4 1).trans rfl, X0.out, X1.out, X2.out, X3.out, X4.out, X5.out⟩ (fun hHeld => ?_)
          clear hK K
          refine norm_ (a' := ?_) ?_ ?_
          rotate_left
          · show Act.put _ (some 141) _ = _
            simp only [Act.put, List.setIfInBounds_toArray, List.set_cons_zero, List.set_cons_succ, i64_w, i32_w]
            rfl
          refine pure_ (i := 12) (N := some 129) (v := ?_) (a' := ?_) #[true, true, true, true, true, true, true, true, true, true, true, true, true, false, false, true, false, false] rfl rfl (by kernel_rfl) (fun _ _ _ h => h) (Or.inl ⟨by rfl, ?_⟩) ?_ ?_
          rotate_left
          · intro w'
            go_simp
            with_reducible rfl
          rotate_left
          · simp only [Act.put, List.setIfInBounds_toArray, List.set_cons_zero, List.set_cons_succ, i64_w, i32_w]
            rfl
          refine pure_ (i := 13) (N := some 142) (v := ?_) (a' := ?_) #[true, true, true, true, true, true, true, true, true, true, true, true, true, true, false, true, false, false] rfl rfl (by kernel_rfl) (fun _ _ _ h => h) (Or.inl ⟨by rfl, ?_⟩) ?_ ?_
          rotate_left
          · intro w'
            go_simp
            with_reducible rfl
          rotate_left
          · simp only [Act.put, List.setIfInBounds_toArray, List.set_cons_zero, List.set_cons_succ, i64_w, i32_w]
            rfl
          refine pure_ (i := 14) (N := some 143) (v := ?_) (a' := ?_) #[true, true, true, true, true, true, true, true, true, true, true, true, true, true, true, true, false, false] rfl rfl (by kernel_rfl) (fun _ _ _ h => h) (Or.inl ⟨by rfl, ?_⟩) ?_ ?_
          rotate_left
          · intro w'
            go_simp
            with_reducible rfl
          rotate_left
          · simp only [Act.put, List.setIfInBounds_toArray, List.set_cons_zero, List.set_cons_succ, i64_w, i32_w]
            rfl
          exact norm_ (by simp only [putAll, Act.put, List.setIfInBounds_toArray, List.set_cons_zero, List.set_cons_succ]) (hCont (g18, Ak, ck) _ ⟨⟨HS.out, HX.out, HCK.out, HF.out⟩, ⟨HY.out, HO.out, N15.out, NB.out⟩⟩)
      rintro ⟨g18, Ak, ck⟩ wz hFk
      have HFK := Aside0.mk hFk.1
      have HY := Aside0.mk hFk.2.1
      have HO := Aside0.mk hFk.2.2.1
      have N15 := Aside0.mk hFk.2.2.2.1
      have NB := Aside0.mk hFk.2.2.2.2
      clear hFk
      refine norm_ (a' := ?_) ?_ ?_
      rotate_left
      · simp only [putAll, Act.put, List.setIfInBounds_toArray, List.set_cons_zero, List.set_cons_succ]
        rfl
      refine pure_ (i := 16) (N := some 17) (v := ?_) (a' := ?_) #[true, true, true, true, true, true, true, true, true, true, true, true, true, true, true, true, true, false] rfl rfl (by kernel_rfl) (fun _ _ _ h => h) (Or.inl ⟨by rfl, ?_⟩) ?_ ?_
      rotate_left
      · intro w'
        go_simp
        with_reducible rfl
      rotate_left
      · simp only [Act.put, List.setIfInBounds_toArray, List.set_cons_zero, List.set_cons_succ, i64_w, i32_w]
        rfl
      refine last_ (i := 17) (N := none) #[true, true, true, true, true, true, true, true, true, true, true, true, true, true, true, true, true, true] rfl rfl (by kernel_rfl) (by decide) (fun K hK => ?_)
      have cz0 := (blk_cell HFK.out.2.1.b 0).trans rfl
      have cz1 := (blk_cell HFK.out.2.1.b 1).trans rfl
      have fz0 := blk_frozen HFK.out.2.1.b 0
      have fz1 := blk_frozen HFK.out.2.1.b 1
      refine skip_ (w1 := ?_) (by rfl) rfl ?_ ?_
      rotate_left
      · go_simp
        rfl
      refine hK.out _ _ ?_
      clear hK K
      refine done_ (by kernel_rfl) ?_
      have HP_ := Fk.put HFK.out k0
      have HS := Aside0.mk HP_.1
      have HX := Aside0.mk HP_.2.1
      have HCK := Aside0.mk HP_.2.2.1
      have HF := Aside0.mk HP_.2.2.2
      have HY := Aside0.mk ((HY.out.far (p := ⟨g18, 0, none⟩) N15.out (.int .i64 k0)).far (p := ⟨g18, 1, none⟩) N15.out (.slice Ak k1.length ck))
      have HO := Aside0.mk (HO.out.put NB.out (.int .i64 k0) (.slice Ak k1.length ck))
      clear HP_ HFK cz0 cz1 fz0 fz1
      generalize ((wz.setCell ⟨g18, 0, none⟩ (.int .i64 k0)).setCell ⟨g18, 1, none⟩ (.slice Ak k1.length ck)) = wy at HS HX HF HY HO ⊢
      by_cases r2 : r = 2
      · subst r2
        have HZ2 := Aside0.mk (show zz = (2, ⟨0, bl.set i.toNat ⟨k0, k1⟩⟩, u) from by rw [← HF1.out, if_pos rfl]; rfl)
        clear HF1
        obtain ⟨v0, v1, hv0, hv1, hfr⟩ := HO.out.row.cells i.toNat (by rw [HBLL.out]; have := HI.out.1; have := HIL.out; omega)
        have fr0 := hfr (i.toNat * 2)
        have fr1 := hfr (i.toNat * 2 + 1)
        clear hfr
        have c30 := (blk_cell HS.out.b3 0).trans rfl
        have cy0 := (blk_cell HY.out.b 0).trans rfl
        have cy1 := (blk_cell HY.out.b 1).trans rfl
        have fy0 := blk_frozen HY.out.b 0
        have cx0 := (blk_cell HX.out.b 0).trans rfl
        have cx1 := (blk_cell HX.out.b 1).trans rfl
        have e1 := N15.out
        have e2 := N15.out.symm
        have e3 := NB.out
        have e4 := NB.out.symm
        have e5 := HO.out.n15
        have e6 := HO.out.n15.symm
        go_upto_region 31 with (fail)
        have HFL := Aside0.mk (OutS.lay HO.out i.toNat (by rw [HBLL.out]; have := HI.out.1; have := HIL.out; omega) (by rw [HBLL.out]; exact HMX.out) HQ.out ⟨k0, k1⟩ HCK.out HF.out)
        have HS := Aside0.mk ((HS.out.set HO.out.wg HO.out.n3 HO.out.n4 HO.out.n7 (i.toNat * 2) (.int .i64 k0)).set HO.out.wg HO.out.n3 HO.out.n4 HO.out.n7 (i.toNat * 2 + 1) (.slice Ak k1.length ck))
        have HY1 := Aside0.mk (show (((wy.setCell ⟨gb, i.toNat * 2, none⟩ (.int .i64 k0)).setCell ⟨gb, i.toNat * 2 + 1, none⟩ (.slice Ak k1.length ck))).heap[g15]? = some (.cells (boxM 0 (some ⟨gb, 0, none⟩) L cb) 40 (0, 0)) from blk_far (blk_far HY.out.b HO.out.n15 _) HO.out.n15 _)
        clear c30 cy0 cy1 fy0 cx0 cx1 e1 e2 e3 e4 e5 e6 fr0 fr1 hv0 hv1 HY HO HX HF
        generalize ((wy.setCell ⟨gb, i.toNat * 2, none⟩ (.int .i64 k0)).setCell ⟨gb, i.toNat * 2 + 1, none⟩ (.slice Ak k1.length ck)) = wf at HS HFL HY1 ⊢
        have HS := Aside0.mk HS.out.drew
        have HFL := Aside0.mk (Kd.F_drew HFL.out)
        have HY1 := Aside0.mk (blk_drew HY1.out)
        refine start_ (n := 3) (S := fun w' => w'.cell? ⟨g15, 0, none⟩ = some (.int .i64 0) ∧ w'.cell? ⟨g15, 1, none⟩ = some (.slice (some ⟨gb, 0, none⟩) L cb)) (ds := [2]) #[false, false, false] (by kernel_rfl) rfl rfl ⟨(blk_cell HY1.out 0).trans rfl, (blk_cell HY1.out 1).trans rfl⟩ (fun hHeld => ?_)
        generalize wf.drew = wd at HS HFL HY1 hHeld ⊢
        refine pure_ (i := 1) (N := some 6) (v := ?_) (a' := ?_) #[false, true, false] rfl rfl (by kernel_rfl) (fun _ _ _ h => h) (Or.inl ⟨by rfl, ?_⟩) ?_ ?_
        rotate_left
        · intro w'
          go_simp
          with_reducible rfl
        rotate_left
        · simp only [Act.put, List.setIfInBounds_toArray, List.set_cons_zero, List.set_cons_succ, i64_w, i32_w]
          rfl
        refine take_ (i := 0) (N := some 161) (v := ?_) (a' := ?_) #[true, true, false] rfl rfl (by kernel_rfl) (fun _ _ _ h => h) (Or.inl ⟨by rfl, ?_⟩) hHeld ?_ ?_
        rotate_left
        · rintro w' ⟨s0, s1⟩
          go_simp
          with_reducible rfl
        rotate_left
        · simp only [Act.put, List.setIfInBounds_toArray, List.set_cons_zero, List.set_cons_succ, i64_w, i32_w]
          rfl
        refine last_ (i := 2) (N := none) #[true, true, true] rfl rfl (by kernel_rfl) (by decide) (fun K hK => ?_)
        have cz0 := (blk_cell HS.out.b7 0).trans rfl
        have cz1 := (blk_cell HS.out.b7 1).trans rfl
        have fz0 := blk_frozen HS.out.b7 0
        have fz1 := blk_frozen HS.out.b7 1
        refine skip_ (w1 := ?_) (by rfl) rfl ?_ ?_
        rotate_left
        · go_simp
          rfl
        refine hK.out _ _ ?_
        clear hK K
        refine done_ (by kernel_rfl) ?_
        try go_wp2
        refine bodyPost_ret (results_tc rfl _ _ g7 40 #[.int .i64 0, .slice (some ⟨gb, 0, none⟩) L cb] (0, 0) _ rfl (put2 HS.out.b7 _ _) Try.underlying40 rfl (by kernel_rfl)) rfl ?_
        have h1_ : (bl.set i.toNat (⟨k0, k1⟩ : Md)).length = L := by rw [List.length_set]; exact HBLL.out
        rw [HZ2.out, show (Value.slice (some ⟨gb, 0, none⟩) L cb) = Value.slice (some ⟨gb, 0, none⟩) (bl.set i.toNat (⟨k0, k1⟩ : Md)).length cb from by rw [h1_]]
        exact HS.out.fin HFL.out (by rw [List.length_set, HBLL.out]; exact HCB.out) _ _
      · have R2 : (r == 2) = false := beqF r2
        by_cases r3 : r = 1
        · subst r3
          have HF2 := Aside0.mk (show thinkL Th ⟨0, bl⟩ (7 : Int) (i + 1).toNat (n3.drop (i + 1).toNat) (m1.drop (i + 1).toNat) () = zz from by rw [← HF1.out, if_neg r2, if_pos (show (1 : Int) = onV (7 : Int) from rfl)])
          have HW := Aside0.mk (show wrap64 (i + 1) = i + 1 from w64 (by have := HI.out.1; omega) (by have := HIL.out; have := HMX.out; omega))
          clear HF1 r2
          cases gk with
          | zero => exact absurd HI.out.2 (by have := HI.out.1; have := HIL.out; omega)
          | succ kz =>
            go_wp2
            go_roundg kz
            case measure => omega
            case rel => exact ⟨i + 1, by rw [HW.out], ⟨by have := HI.out.1; omega, by have := HI.out; omega⟩, HF2, HS, HY, ⟨fun _ => ⟨gb, rfl, HO.out⟩⟩⟩
        · have R3 : (r != 1) = true := bne_iff_ne.mpr r3
          have HZ2 := Aside0.mk (show zz = (r, ⟨0, bl⟩, u) from by rw [← HF1.out, if_neg r2, if_neg (show ¬ r = onV (7 : Int) from r3)])
          clear HF1 r2 r3
          have c30 := (blk_cell HS.out.b3 0).trans rfl
          have c31 := (blk_cell HS.out.b3 1).trans rfl
          have c32 := (blk_cell HS.out.b3 2).trans rfl
          have c33 := (blk_cell HS.out.b3 3).trans rfl
          have c40 := (blk_cell HS.out.b4 0).trans rfl
          have c41 := (blk_cell HS.out.b4 1).trans rfl
          go_wp2_with (first | ((with_reducible refine gate_callee (f := 16) rfl ?_); refine goesL_ (some 167) rfl rfl Try.func16 (by kernel_rfl) rfl #[.agg #[.int .i64 (7 : Int), .string n1, .int .i64 n2, .slice (some ad) L c3]] rfl (by (try simp only [zm1, zm2, zm3]); first | done | rfl) ?_; have hcall := blank_call HS.out HQ.out HL.out HC3.out HBL.out HBLL.out; (refine hcall.mono ?_); clear hcall; rintro e wq ⟨Ac, cc, rfl, hcc, hfc, hgc, hb⟩; refine ⟨_, rfl, ?_⟩; have HS := Aside0.mk (HS.out.below hb); have HFC := Aside0.mk hfc; have HCC := Aside0.mk hcc; clear hcc hfc hgc hb c30 c31 c32 c33 c40 c41; have cz0 := (blk_cell HS.out.b7 0).trans rfl; have cz1 := (blk_cell HS.out.b7 1).trans rfl; have fz0 := blk_frozen HS.out.b7 0; have fz1 := blk_frozen HS.out.b7 1))
          try go_wp2
          refine bodyPost_ret (results_tc rfl _ _ g7 40 #[.int .i64 0, .slice Ac L cc] (0, 0) _ rfl (put2 HS.out.b7 _ _) Try.underlying40 rfl (by kernel_rfl)) rfl ?_
          have h1_ := HBLL.out
          rw [HZ2.out, show (Value.slice Ac L cc) = Value.slice Ac bl.length cc from by rw [h1_]]
          exact HS.out.fin HFC.out (by rw [HBLL.out]; exact HCC.out) _ _
    · have HZ2 := Aside0.mk (show zz = (1, ⟨0, bl⟩, ()) from by rw [← HF0.out, thinkL_end Th ⟨0, bl⟩ (7 : Int) HL.out i hi]; rfl)
      have hib : decide (i < (L : Int)) = false := decide_eq_false hi
      have q0 : (i < (L : Int)) = False := eq_false hi
      clear HF0 hi
      have c30 := (blk_cell HS.out.b3 0).trans rfl
      have c31 := (blk_cell HS.out.b3 1).trans rfl
      have c32 := (blk_cell HS.out.b3 2).trans rfl
      have c33 := (blk_cell HS.out.b3 3).trans rfl
      have c40 := (blk_cell HS.out.b4 0).trans rfl
      have c41 := (blk_cell HS.out.b4 1).trans rfl
      go_wp2_with (first | ((with_reducible refine gate_callee (f := 16) rfl ?_); refine goesL_ (some 170) rfl rfl Try.func16 (by kernel_rfl) rfl #[.agg #[.int .i64 (7 : Int), .string n1, .int .i64 n2, .slice A3 L c3]] rfl (by (try simp only [zm1, zm2, zm3]); first | done | rfl) ?_; have hcall := blank_call HS.out HQ.out HL.out HC3.out HBL.out HBLL.out; (refine hcall.mono ?_); clear hcall; rintro e wq ⟨Ac, cc, rfl, hcc, hfc, hgc, hb⟩; refine ⟨_, rfl, ?_⟩; have HS := Aside0.mk (HS.out.below hb); have HFC := Aside0.mk hfc; have HCC := Aside0.mk hcc; clear hcc hfc hgc hb c30 c31 c32 c33 c40 c41; have cz0 := (blk_cell HS.out.b7 0).trans rfl; have cz1 := (blk_cell HS.out.b7 1).trans rfl; have fz0 := blk_frozen HS.out.b7 0; have fz1 := blk_frozen HS.out.b7 1))
      try go_wp2
      refine bodyPost_ret (results_tc rfl _ _ g7 40 #[.int .i64 0, .slice Ac L cc] (0, 0) _ rfl (put2 HS.out.b7 _ _) Try.underlying40 rfl (by kernel_rfl)) rfl ?_
      have h1_ := HBLL.out
      rw [HZ2.out, show (Value.slice Ac L cc) = Value.slice Ac bl.length cc from by rw [h1_]]
      exact HS.out.fin HFC.out (by rw [HBLL.out]; exact HCC.out) _ _
set_option maxHeartbeats 8000000 in
set_option maxRecDepth 100000 in
theorem think_list8 (hL : n3.length = L) (hLm : m1.length = L) (hP : Pure W g lb fn an0) (hc3 : L ≤ c3) (hcm : L ≤ cm) (hT : Tr W Al A3 n3) (hM : FM W Q Am m1) (hQ : ∀ k, W.heap.size ≤ k → Q k) (hmax : L ≤ 1000000) (hm0 : 0 ≤ m0) (hm1 : m0 ≤ L) {kb : Nat} {bl : List Md} (hbl : tourref5_Blank.f kb n0 n1 n2 n3 = some (0, bl)) (hbll : bl.length = L) {Th : Nd → Md → Unit → Int × Md × Unit} (ih : ∀ i : Int, 0 ≤ i → i < L → ThinkC an0 (Th (rdN n3 i) (rdM m1 i) ()) (rdN n3 i) (rdM m1 i)) {zz : Int × Md × Unit} (hzz : thinkL Th ⟨0, bl⟩ n0 m0.toNat (n3.drop m0.toNat) (m1.drop m0.toNat) () = zz) (e : n0 = 8) :
    Calls Try.prog 18 #[.agg #[.int .i64 n0, .string n1, .int .i64 n2, .slice A3 L c3], .agg #[.int .i64 m0, .slice Am L cm], .func (.func g) #[] lb] W fun e w' => Ret Q W w' e zz.1 zz.2.1.f0 zz.2.1.f1 := by
  subst e
  have HBL := Aside0.mk hbl
  have HBLL := Aside0.mk hbll
  have IH := Aside0.mk ih
  have HZZ := Aside0.mk hzz
  have HM0 := Aside0.mk (show 0 ≤ m0 ∧ m0.toNat + (L - m0.toNat) = L from ⟨hm0, by omega⟩)
  have HMX := Aside0.mk hmax
  clear hbl hbll ih hzz hm0 hm1 hmax
  have HL := Aside0.mk hL
  have HLm := Aside0.mk hLm
  have HP := Aside0.mk hP
  have HC3 := Aside0.mk hc3
  have HCM := Aside0.mk hcm
  have HT := Aside0.mk hT
  have HM := Aside0.mk hM
  have HQ := Aside0.mk hQ
  clear hL hLm hP hc3 hcm hT hM hQ
  go_enter Try.func18, Try.ntmps18
  go_upto_region 23 with (first | ((with_reducible refine gate_dst (N := 3) rfl ?_); refine box_event ?hg (N := 3) ?hd (cs := #[.int .i64 (8 : Int), .string n1, .int .i64 n2, .slice A3 L c3]) (t := 25) ?hr ?_; (case hd => rfl); (case hg => rfl); (case hr => first | (go_simp; done) | (go_simp; rfl)); intro g3 hg w1 hbox hb; have E3 := Aside0.mk hg; have BK3 := Aside0.mk hbox; have HB1 := Aside0.mk hb; clear hg hbox hb) | ((with_reducible refine gate_dst (N := 4) rfl ?_); refine box_event ?hg (N := 4) ?hd (cs := #[.int .i64 m0, .slice Am L cm]) (t := 40) ?hr ?_; (case hd => rfl); (case hg => rfl); (case hr => first | (go_simp; done) | (go_simp; rfl)); intro g4 hg w2 hbox hb; have E4 := Aside0.mk hg; have BK4 := Aside0.mk hbox; have HB2 := Aside0.mk hb; clear hg hbox hb) | ((with_reducible refine gate_dst (N := 7) rfl ?_); refine box_event ?hg (N := 7) ?hd (cs := #[.int .i64 0, .slice none 0 0]) (t := 40) ?hr ?_; (case hd => rfl); (case hg => rfl); (case hr => first | (go_simp; done) | (go_simp; rfl)); intro g7 hg w3 hbox hb; have HS := Aside0.mk (show Bs Q W w3 g3 g4 g7 (8 : Int) n1 n2 n3 A3 L c3 m0 m1 Am cm from Bs.start HT.out HM.out E3.out BK3.out HB1.out E4.out BK4.out HB2.out hg hbox hb); clear hg hbox hb E3 BK3 HB1 E4 BK4 HB2; have c30 := (blk_cell HS.out.b3 0).trans rfl; have c31 := (blk_cell HS.out.b3 1).trans rfl; have c32 := (blk_cell HS.out.b3 2).trans rfl; have c33 := (blk_cell HS.out.b3 3).trans rfl; have c40 := (blk_cell HS.out.b4 0).trans rfl; have c41 := (blk_cell HS.out.b4 1).trans rfl) | ((with_reducible refine gate_callee (f := 36) rfl ?_); refine goesL_ (some 117) rfl rfl Try.func36 (by kernel_rfl) rfl #[.bool false] rfl (by (try simp only [zm1, zm2, zm3]); first | done | rfl) ?_; (refine (tourref5_one.calls false 0 _ rfl).mono ?_); rintro e wo ⟨rfl, hb0⟩; refine ⟨_, rfl, ?_⟩; have HS := Aside0.mk (HS.out.below hb0.below); clear hb0 c30 c31 c32 c33 c40 c41; have c30 := (blk_cell HS.out.b3 0).trans rfl; have c31 := (blk_cell HS.out.b3 1).trans rfl; have c32 := (blk_cell HS.out.b3 2).trans rfl; have c33 := (blk_cell HS.out.b3 3).trans rfl; have c40 := (blk_cell HS.out.b4 0).trans rfl; have c41 := (blk_cell HS.out.b4 1).trans rfl) | ((with_reducible refine gate_callee (f := 16) rfl ?_); refine goesL_ (some 119) rfl rfl Try.func16 (by kernel_rfl) rfl #[.agg #[.int .i64 (8 : Int), .string n1, .int .i64 n2, .slice A3 L c3]] rfl (by (try simp only [zm1, zm2, zm3]); first | done | rfl) ?_; have hcall := blank_call HS.out HQ.out HL.out HC3.out HBL.out HBLL.out; (refine hcall.mono ?_); clear hcall; rintro e wc ⟨Ab, cb, rfl, hcb, hfb, hgb, hb⟩; refine ⟨_, rfl, ?_⟩; have HOB := Aside0.mk (show 0 < L → ∃ gb, Ab = some ⟨gb, 0, none⟩ ∧ OutR Q W wc g3 g4 g7 gb bl from fun hp => (hgb hp).imp fun _ h => ⟨h.1, h.2.2⟩); have HS := Aside0.mk (HS.out.below hb); have HFB := Aside0.mk hfb; have HCB := Aside0.mk hcb; clear hcb hfb hgb hb c30 c31 c32 c33 c40 c41) | ((with_reducible refine gate_dst (N := 15) rfl ?_); refine box_event ?hg (N := 15) ?hd (cs := #[.int .i64 0, .slice none 0 0]) (t := 40) ?hr ?_; (case hd => rfl); (case hg => rfl); (case hr => first | (go_simp; done) | (go_simp; rfl)); intro g15 hg wd hbox hb; have HY := Aside0.mk (HS.out.new (Nat.le_of_eq hg.symm) hbox); have HFB := Aside0.mk (Kd.F_below (Kd.F_elderB HFB.out g15 (Nat.le_of_eq hg.symm)) hb); have HO := Aside0.mk (show 0 < L → ∃ gb, Ab = some ⟨gb, 0, none⟩ ∧ OutS Q Al W wd g3 g4 g7 g15 gb bl from fun hp => (HOB.out hp).imp fun _ h => ⟨h.1, OutS.of h.2 (Nat.le_of_eq hg.symm) hb⟩); clear HOB; have HS := Aside0.mk (HS.out.below hb); clear hg hbox hb; have cy0 := (blk_cell HY.out.b 0).trans rfl; have cy1 := (blk_cell HY.out.b 1).trans rfl; have fy0 := blk_frozen HY.out.b 0; have fy1 := blk_frozen HY.out.b 1))
  have HS := Aside0.mk (HS.out.setX HY.out (.int .i64 0) (.slice Ab L cb))
  have HO := Aside0.mk (show 0 < L → ∃ gb, Ab = some ⟨gb, 0, none⟩ ∧ OutS Q Al W ((wd.setCell ⟨g15, 0, none⟩ (.int .i64 0)).setCell ⟨g15, 1, none⟩ (.slice Ab L cb)) g3 g4 g7 g15 gb bl from fun hp => (HO.out hp).imp fun _ h => ⟨h.1, (h.2.put15 0 _).put15 1 _⟩)
  have HY := Aside0.mk (HY.out.put (.int .i64 0) (.slice Ab L cb))
  clear cy0 cy1 fy0 fy1 HFB
  generalize ((wd.setCell ⟨g15, 0, none⟩ (.int .i64 0)).setCell ⟨g15, 1, none⟩ (.slice Ab L cb)) = we at HS HO HY ⊢
  have c40 := (blk_cell HS.out.b4 0).trans rfl
  go_wp2
  clear c40
  go_loopg [16] (L - m0.toNat) (fun kq v16 wr => ∃ i : Int, v16 = .int .i64 i ∧ Aside0 (0 ≤ i ∧ i.toNat + kq = L) ∧ Aside0 (thinkL Th ⟨0, bl⟩ (8 : Int) i.toNat (n3.drop i.toNat) (m1.drop i.toNat) () = zz) ∧ Aside0 (Bs Q W wr g3 g4 g7 (8 : Int) n1 n2 n3 A3 L c3 m0 m1 Am cm) ∧ Aside0 (Bx W wr g3 g4 g7 g15 (boxM 0 Ab L cb)) ∧ Aside0 (0 < L → ∃ gb, Ab = some ⟨gb, 0, none⟩ ∧ OutS Q Al W wr g3 g4 g7 g15 gb bl))
  case atStart => exact ⟨m0, rfl, HM0, HZZ, HS, HY, HO⟩
  case round =>
    clear HS HY HO HZZ HM0
    obtain ⟨i, rfl, HI, HF0, HS, HY, HO⟩ := hrel
    by_cases hi : i < (L : Int)
    · have h0 := HI.out.1
      have HIL := Aside0.mk hi
      obtain ⟨gb, rfl, ho⟩ := HO.out (by omega)
      clear HO
      have HO := Aside0.mk ho
      clear ho
      obtain ⟨x, hx⟩ : ∃ x, rdN n3 i = x := ⟨_, rfl⟩
      obtain ⟨y, hy⟩ : ∃ y, rdM m1 i = y := ⟨_, rfl⟩
      obtain ⟨⟨r, ⟨k0, k1⟩, u⟩, hz⟩ : ∃ z, Th x y () = z := ⟨_, rfl⟩
      have HZ := Aside0.mk (show ThinkC an0 (r, ⟨k0, k1⟩, u) x y from by rw [← hz, ← hx, ← hy]; exact IH.out i h0 hi)
      have hF := HF0.out
      rw [thinkL_step Th ⟨0, bl⟩ (8 : Int) HL.out HLm.out i h0 hi, hx, hy, hz] at hF
      dsimp only at hF
      have HF1 := Aside0.mk hF
      clear hF HF0 hz
      have c33 := (blk_cell HS.out.b3 3).trans rfl
      have p0 := eq_true h0
      have q0 := eq_true hi
      have hib : decide (i < (L : Int)) = true := decide_eq_true hi
      clear h0 hi
      go_upto_region 26 with (fail)
      clear c33
      have HS := Aside0.mk HS.out.drew
      have HY := Aside0.mk HY.out.drew
      have HO := Aside0.mk (HO.out.below (Below.refl _ _).drew)
      obtain ⟨ad, A4, c4, rfl, hc4, hT4, hcell⟩ := Tr.elem HS.out.tn i HI.out.1 (by rw [HL.out]; exact HIL.out)
      obtain ⟨ae, A5, c5, rfl, hc5, hM5, y0, y1⟩ := FM.elem HS.out.mind i HI.out.1 (by rw [HLm.out]; exact HIL.out)
      obtain ⟨x0, x1, x2, x3⟩ := hcell wr.drew (fun _ _ _ => rfl)
      rw [hx] at hc4 hT4 x0 x1 x2 x3
      rw [hy] at hc5 hM5 y0 y1
      have X0 := Aside0.mk x0
      have X1 := Aside0.mk x1
      have X2 := Aside0.mk x2
      have X3 := Aside0.mk x3
      have X4 := Aside0.mk y0
      have X5 := Aside0.mk y1
      have HC4 := Aside0.mk hc4
      have HC5 := Aside0.mk hc5
      have HT4 := Aside0.mk hT4
      have HM5 := Aside0.mk hM5
      clear x0 x1 x2 x3 y0 y1 hc4 hc5 hT4 hM5 hcell hx hy
      refine start_ (n := 18) (S := fun w' => w'.cell? ⟨g3, 3, none⟩ = some (.slice (some ad) L c3) ∧ w'.cell? ⟨g4, 1, none⟩ = some (.slice (some ae) L cm) ∧ w'.cell? (ad.add (i.toNat * 4)) = some (.int .i64 x.f0) ∧ w'.cell? ⟨(ad.add (i.toNat * 4)).block, (ad.add (i.toNat * 4)).off + 1, none⟩ = some (.string x.f1) ∧ w'.cell? ⟨(ad.add (i.toNat * 4)).block, (ad.add (i.toNat * 4)).off + 2, none⟩ = some (.int .i64 x.f2) ∧ w'.cell? ⟨(ad.add (i.toNat * 4)).block, (ad.add (i.toNat * 4)).off + 3, none⟩ = some (.slice A4 x.f3.length c4) ∧ w'.cell? (ae.add (i.toNat * 2)) = some (.int .i64 y.f0) ∧ w'.cell? ⟨(ae.add (i.toNat * 2)).block, (ae.add (i.toNat * 2)).off + 1, none⟩ = some (.slice A5 y.f1.length c5)) (ds := [17]) #[false, false, false, false, false, false, false, false, false, false, false, false, false, false, false, false, false, false] (by kernel_rfl) rfl rfl ⟨(blk_cell HS.out.b3 3).trans rfl, (blk_cell HS.out.b4 1).trans rfl, X0.out, X1.out, X2.out, X3.out, X4.out, X5.out⟩ (fun hHeld => ?_)
      generalize wr.drew = wd at HS X0 X1 X2 X3 X4 X5 HT4 HM5 HY HO hHeld ⊢
      refine pure_ (i := 0) (N := some 130) (v := ?_) (a' := ?_) #[true, false, false, false, false, false, false, false, false, false, false, false, false, false, false, false, false, false] rfl rfl (by kernel_rfl) (fun _ _ _ h => h) (Or.inl ⟨by rfl, ?_⟩) ?_ ?_
      rotate_left
      · intro w'
        go_simp
        with_reducible rfl
      rotate_left
      · simp only [Act.put, List.setIfInBounds_toArray, List.set_cons_zero, List.set_cons_succ, i64_w, i32_w]
        rfl
      refine pure_ (i := 2) (N := some 132) (v := ?_) (a' := ?_) #[true, false, true, false, false, false, false, false, false, false, false, false, false, false, false, false, false, false] rfl rfl (by kernel_rfl) (fun _ _ _ h => h) (Or.inl ⟨by rfl, ?_⟩) ?_ ?_
      rotate_left
      · intro w'
        go_simp
        with_reducible rfl
      rotate_left
      · simp only [Act.put, List.setIfInBounds_toArray, List.set_cons_zero, List.set_cons_succ, i64_w, i32_w]
        rfl
      refine pure_ (i := 5) (N := some 135) (v := ?_) (a' := ?_) #[true, false, true, false, false, true, false, false, false, false, false, false, false, false, false, false, false, false] rfl rfl (by kernel_rfl) (fun _ _ _ h => h) (Or.inl ⟨by rfl, ?_⟩) ?_ ?_
      rotate_left
      · intro w'
        go_simp
        with_reducible rfl
      rotate_left
      · simp only [Act.put, List.setIfInBounds_toArray, List.set_cons_zero, List.set_cons_succ, i64_w, i32_w]
        rfl
      refine pure_ (i := 7) (N := some 137) (v := ?_) (a' := ?_) #[true, false, true, false, false, true, false, true, false, false, false, false, false, false, false, false, false, false] rfl rfl (by kernel_rfl) (fun _ _ _ h => h) (Or.inl ⟨by rfl, ?_⟩) ?_ ?_
      rotate_left
      · intro w'
        go_simp
        with_reducible rfl
      rotate_left
      · simp only [Act.put, List.setIfInBounds_toArray, List.set_cons_zero, List.set_cons_succ, i64_w, i32_w]
        rfl
      refine pure_ (i := 10) (N := some 140) (v := ?_) (a' := ?_) #[true, false, true, false, false, true, false, true, false, false, true, false, false, false, false, false, false, false] rfl rfl (by kernel_rfl) (fun _ _ _ h => h) (Or.inl ⟨by rfl, ?_⟩) ?_ ?_
      rotate_left
      · intro w'
        go_simp
        with_reducible rfl
      rotate_left
      · simp only [Act.put, List.setIfInBounds_toArray, List.set_cons_zero, List.set_cons_succ, i64_w, i32_w]
        rfl
      refine take_ (i := 1) (N := some 131) (v := ?_) (a' := ?_) #[true, true, true, false, false, true, false, true, false, false, true, false, false, false, false, false, false, false] rfl rfl (by kernel_rfl) (fun _ _ _ h => h) (Or.inl ⟨by rfl, ?_⟩) hHeld ?_ ?_
      rotate_left
      · rintro w' ⟨s0, s1, s2, s3, s4, s5, s6, s7⟩
        go_simp
        with_reducible rfl
      rotate_left
      · simp only [Act.put, List.setIfInBounds_toArray, List.set_cons_zero, List.set_cons_succ, i64_w, i32_w]
        rfl
      refine pure_ (i := 3) (N := some 133) (v := ?_) (a' := ?_) #[true, true, true, true, false, true, false, true, false, false, true, false, false, false, false, false, false, false] rfl rfl (by kernel_rfl) (fun _ _ _ h => h) (Or.inl ⟨by rfl, ?_⟩) ?_ ?_
      rotate_left
      · intro w'
        go_simp
        with_reducible rfl
      rotate_left
      · simp only [Act.put, List.setIfInBounds_toArray, List.set_cons_zero, List.set_cons_succ, i64_w, i32_w]
        rfl
      refine take_ (i := 4) (N := some 134) (v := ?_) (a' := ?_) #[true, true, true, true, true, true, false, true, false, false, true, false, false, false, false, false, false, false] rfl rfl (by kernel_rfl) (fun _ _ _ h => h) (Or.inl ⟨by rfl, ?_⟩) hHeld ?_ ?_
      rotate_left
      · rintro w' ⟨s0, s1, s2, s3, s4, s5, s6, s7⟩
        go_simp
        with_reducible rfl
      rotate_left
      · simp only [Act.put, List.setIfInBounds_toArray, List.set_cons_zero, List.set_cons_succ, i64_w, i32_w]
        rfl
      refine take_ (i := 6) (N := some 136) (v := ?_) (a' := ?_) #[true, true, true, true, true, true, true, true, false, false, true, false, false, false, false, false, false, false] rfl rfl (by kernel_rfl) (fun _ _ _ h => h) (Or.inl ⟨by rfl, ?_⟩) hHeld ?_ ?_
      rotate_left
      · rintro w' ⟨s0, s1, s2, s3, s4, s5, s6, s7⟩
        go_simp
        with_reducible rfl
      rotate_left
      · simp only [Act.put, List.setIfInBounds_toArray, List.set_cons_zero, List.set_cons_succ, i64_w, i32_w]
        rfl
      refine pure_ (i := 8) (N := some 138) (v := ?_) (a' := ?_) #[true, true, true, true, true, true, true, true, true, false, true, false, false, false, false, false, false, false] rfl rfl (by kernel_rfl) (fun _ _ _ h => h) (Or.inl ⟨by rfl, ?_⟩) ?_ ?_
      rotate_left
      · intro w'
        go_simp
        with_reducible rfl
      rotate_left
      · simp only [Act.put, List.setIfInBounds_toArray, List.set_cons_zero, List.set_cons_succ, i64_w, i32_w]
        rfl
      refine take_ (i := 9) (N := some 139) (v := ?_) (a' := ?_) #[true, true, true, true, true, true, true, true, true, true, true, false, false, false, false, false, false, false] rfl rfl (by kernel_rfl) (fun _ _ _ h => h) (Or.inl ⟨by rfl, ?_⟩) hHeld ?_ ?_
      rotate_left
      · rintro w' ⟨s0, s1, s2, s3, s4, s5, s6, s7⟩
        go_simp
        with_reducible rfl
      rotate_left
      · simp only [Act.put, List.setIfInBounds_toArray, List.set_cons_zero, List.set_cons_succ, i64_w, i32_w]
        rfl
      refine join_ (σ := Nat × Option Addr × Nat) 2 #[true, true, true, true, true, true, true, true, true, true, true, true, true, true, true, true, false, false] (fun s => [(141, .tuple #[.int .i64 r, .agg #[.int .i64 k0, .slice s.2.1 k1.length s.2.2]]), (129, .tuple #[.int .i64 r, .agg #[.int .i64 k0, .slice s.2.1 k1.length s.2.2]]), (142, .int .i64 r), (143, .agg #[.int .i64 k0, .slice s.2.1 k1.length s.2.2]), (18, .pointer (some ⟨s.1, 0, none⟩))]) (fun s w' => Fk Q (fun k => k ≠ g15 ∧ k ≠ gb) W g3 g4 g7 (8 : Int) n1 n2 n3 (some ad) L c3 m0 m1 (some ae) cm k1 s w' ∧ (Bx W w' g3 g4 g7 g15 (boxM 0 (some ⟨gb, 0, none⟩) L cb) ∧ OutS Q (fun k => k ≠ s.1) W w' g3 g4 g7 g15 gb bl ∧ g15 ≠ s.1 ∧ gb ≠ s.1)) ?_ ?_
      rotate_left
      · intro hCont
        refine two_ (i := 11) (j := 15) (Ni := some 141) (Nj := some 18) #[true, true, true, true, true, true, true, true, true, true, true, true, false, false, false, false, false, false] #[true, true, true, true, true, true, true, true, true, true, true, false, false, false, false, true, false, false] rfl rfl rfl rfl (by kernel_rfl) (by decide) (by decide) (fun K hK => ?_) (fun K hK => ?_)
        · skip
          refine goes_ Try.func18 (by kernel_rfl) rfl #[.agg #[.int .i64 x.f0, .string x.f1, .int .i64 x.f2, .slice A4 x.f3.length c4], .agg #[.int .i64 y.f0, .slice A5 y.f1.length c5], .func (.func g) #[] lb] (by rfl) rfl rfl (by simp only [List.map_toArray, List.map_cons, List.map_nil]; rfl) ?_
          refine (ThinkC.within HZ.out HS.out HQ.out (q := fun k => k ≠ g15 ∧ k ≠ gb) (fun k hk => ⟨by have h1 := HY.out.wg; have h2 := blk_lt HY.out.b; omega, by have h1 := HO.out.wg; have h2 := HO.out.row.lt; omega⟩) HP.out HC4.out HC5.out HT4.out HM5.out).mono ?_
          rintro e wb ⟨Ak, ck, rfl, hck, hFk, hb⟩
          refine ⟨_, rfl, ?_⟩
          have HS := Aside0.mk (HS.out.below hb)
          have X0 := Aside0.mk (cellB hb X0.out)
          have X1 := Aside0.mk (cellB hb X1.out)
          have X2 := Aside0.mk (cellB hb X2.out)
          have X3 := Aside0.mk (cellB hb X3.out)
          have X4 := Aside0.mk (cellB hb X4.out)
          have X5 := Aside0.mk (cellB hb X5.out)
          have HT4 := Aside0.mk (Kd.F_below HT4.out hb)
          have HM5 := Aside0.mk (Kd.F_below HM5.out hb)
          have HY := Aside0.mk (HY.out.below hb)
          have HO := Aside0.mk (HO.out.below hb)
          have HF := Aside0.mk hFk
          have HCK := Aside0.mk hck
          clear hck hFk hb
          refine hK.out _ _ ⟨(blk_cell HS.out.b3 3).trans rfl, (blk_cell HS.out.b4 1).trans rfl, X0.out, X1.out, X2.out, X3.out, X4.out, X5.out⟩ (fun hHeld => ?_)
          clear hK K
          refine norm_ (a' := ?_) ?_ ?_
          rotate_left
          · show Act.put _ (some 141) _ = _
            simp only [Act.put, List.setIfInBounds_toArray, List.set_cons_zero, List.set_cons_succ, i64_w, i32_w]
            rfl
          refine pure_ (i := 12) (N := some 129) (v := ?_) (a' := ?_) #[true, true, true, true, true, true, true, true, true, true, true, true, true, false, false, false, false, false] rfl rfl (by kernel_rfl) (fun _ _ _ h => h) (Or.inl ⟨by rfl, ?_⟩) ?_ ?_
          rotate_left
          · intro w'
            go_simp
            with_reducible rfl
          rotate_left
          · simp only [Act.put, List.setIfInBounds_toArray, List.set_cons_zero, List.set_cons_succ, i64_w, i32_w]
            rfl
          refine pure_ (i := 13) (N := some 142) (v := ?_) (a' := ?_) #[true, true, true, true, true, true, true, true, true, true, true, true, true, true, false, false, false, false] rfl rfl (by kernel_rfl) (fun _ _ _ h => h) (Or.inl ⟨by rfl, ?_⟩) ?_ ?_
          rotate_left
          · intro w'
            go_simp
            with_reducible rfl
          rotate_left
          · simp only [Act.put, List.setIfInBounds_toArray, List.set_cons_zero, List.set_cons_succ, i64_w, i32_w]
            rfl
          refine pure_ (i := 14) (N := some 143) (v := ?_) (a' := ?_) #[true, true, true, true, true, true, true, true, true, true, true, true, true, true, true, false, false, false] rfl rfl (by kernel_rfl) (fun _ _ _ h => h) (Or.inl ⟨by rfl, ?_⟩) ?_ ?_
          rotate_left
          · intro w'
            go_simp
            with_reducible rfl
          rotate_left
          · simp only [Act.put, List.setIfInBounds_toArray, List.set_cons_zero, List.set_cons_succ, i64_w, i32_w]
            rfl
          refine one_ (i := 15) (N := some 18) #[true, true, true, true, true, true, true, true, true, true, true, true, true, true, true, true, false, false] rfl rfl (by kernel_rfl) (by decide) (fun K hK => ?_)
          refine boxN_step (by rfl) rfl (cs := #[.int .i64 0, .slice none 0 0]) (t := 40) ?_ ?_
          · first | (go_simp; done) | (go_simp; rfl)
          intro g18 hg wa hbox hb
          have HX := Aside0.mk (HS.out.new (Nat.le_of_eq hg.symm) hbox)
          have HF := Aside0.mk (Kd.F_below (Kd.F_elderB HF.out g18 (Nat.le_of_eq hg.symm)) hb)
          have N15 := Aside0.mk (show g15 ≠ g18 from by have := blk_lt HY.out.b; omega)
          have NB := Aside0.mk (show gb ≠ g18 from by have := HO.out.row.lt; omega)
          have HO := Aside0.mk (HO.out.new (Nat.le_of_eq hg.symm) hb)
          have HY := Aside0.mk (HY.out.below hb)
          have HS := Aside0.mk (HS.out.below hb)
          have X0 := Aside0.mk (cellB hb X0.out)
          have X1 := Aside0.mk (cellB hb X1.out)
          have X2 := Aside0.mk (cellB hb X2.out)
          have X3 := Aside0.mk (cellB hb X3.out)
          have X4 := Aside0.mk (cellB hb X4.out)
          have X5 := Aside0.mk (cellB hb X5.out)
          have HT4 := Aside0.mk (Kd.F_below HT4.out hb)
          have HM5 := Aside0.mk (Kd.F_below HM5.out hb)
          clear hg hbox hb
          refine hK.out _ _ ⟨(blk_cell HS.out.b3 3).trans rfl, (blk_cell HS.out.b4 1).trans rfl, X0.out, X1.out, X2.out, X3.out, X4.out, X5.out⟩ (fun hHeld => ?_)
          clear hK K
          refine norm_ (a' := ?_) ?_ ?_
          rotate_left
          · show Act.put _ (some 18) _ = _
            simp only [Act.put, List.setIfInBounds_toArray, List.set_cons_zero, List.set_cons_succ, i64_w, i32_w]
            rfl
          exact norm_ (by simp only [putAll, Act.put, List.setIfInBounds_toArray, List.set_cons_zero, List.set_cons_succ]) (hCont (g18, Ak, ck) _ ⟨⟨HS.out, HX.out, HCK.out, HF.out⟩, ⟨HY.out, HO.out, N15.out, NB.out⟩⟩)
        · skip
          refine boxN_step (by rfl) rfl (cs := #[.int .i64 0, .slice none 0 0]) (t := 40) ?_ ?_
          · first | (go_simp; done) | (go_simp; rfl)
          intro g18 hg wa hbox hb
          have HX := Aside0.mk (HS.out.new (Nat.le_of_eq hg.symm) hbox)
          have N15 := Aside0.mk (show g15 ≠ g18 from by have := blk_lt HY.out.b; omega)
          have NB := Aside0.mk (show gb ≠ g18 from by have := HO.out.row.lt; omega)
          have HO := Aside0.mk (HO.out.new (Nat.le_of_eq hg.symm) hb)
          have HY := Aside0.mk (HY.out.below hb)
          have HS := Aside0.mk (HS.out.below hb)
          have X0 := Aside0.mk (cellB hb X0.out)
          have X1 := Aside0.mk (cellB hb X1.out)
          have X2 := Aside0.mk (cellB hb X2.out)
          have X3 := Aside0.mk (cellB hb X3.out)
          have X4 := Aside0.mk (cellB hb X4.out)
          have X5 := Aside0.mk (cellB hb X5.out)
          have HT4 := Aside0.mk (Kd.F_below HT4.out hb)
          have HM5 := Aside0.mk (Kd.F_below HM5.out hb)
          clear hg hbox hb
          refine hK.out _ _ ⟨(blk_cell HS.out.b3 3).trans rfl, (blk_cell HS.out.b4 1).trans rfl, X0.out, X1.out, X2.out, X3.out, X4.out, X5.out⟩ (fun hHeld => ?_)
          clear hK K
          refine norm_ (a' := ?_) ?_ ?_
          rotate_left
          · show Act.put _ (some 18) _ = _
            simp only [Act.put, List.setIfInBounds_toArray, List.set_cons_zero, List.set_cons_succ, i64_w, i32_w]
            rfl
          refine one_ (i := 11) (N := some 141) #[true, true, true, true, true, true, true, true, true, true, true, true, false, false, false, true, false, false] rfl rfl (by kernel_rfl) (by decide) (fun K hK => ?_)
          refine goes_ Try.func18 (by kernel_rfl) rfl #[.agg #[.int .i64 x.f0, .string x.f1, .int .i64 x.f2, .slice A4 x.f3.length c4], .agg #[.int .i64 y.f0, .slice A5 y.f1.length c5], .func (.func g) #[] lb] (by rfl) rfl rfl (by simp only [List.map_toArray, List.map_cons, List.map_nil]; rfl) ?_
          refine (ThinkC.within HZ.out HS.out HQ.out (q := fun k => (fun k => k ≠ g15 ∧ k ≠ gb) k ∧ k ≠ g18) (fun k hk => ⟨⟨by have h1 := HY.out.wg; have h2 := blk_lt HY.out.b; omega, by have h1 := HO.out.wg; have h2 := HO.out.row.lt; omega⟩, by have h1 := HX.out.wg; have h2 := blk_lt HX.out.b; omega⟩) HP.out HC4.out HC5.out HT4.out HM5.out).mono ?_
          rintro e wb ⟨Ak, ck, rfl, hck, hFk, hb⟩
          refine ⟨_, rfl, ?_⟩
          have HS := Aside0.mk (HS.out.below hb)
          have X0 := Aside0.mk (cellB hb X0.out)
          have X1 := Aside0.mk (cellB hb X1.out)
          have X2 := Aside0.mk (cellB hb X2.out)
          have X3 := Aside0.mk (cellB hb X3.out)
          have X4 := Aside0.mk (cellB hb X4.out)
          have X5 := Aside0.mk (cellB hb X5.out)
          have HT4 := Aside0.mk (Kd.F_below HT4.out hb)
          have HM5 := Aside0.mk (Kd.F_below HM5.out hb)
          have HY := Aside0.mk (HY.out.below hb)
          have HO := Aside0.mk (HO.out.below hb)
          have HX := Aside0.mk (HX.out.below hb)
          have HF := Aside0.mk (Kd.F_mono (ok' := fun k => ((Q k ∧ k ≠ g7) ∧ (fun k => k ≠ g15 ∧ k ≠ gb) k) ∧ k ≠ g18) hFk (fun k hk => ⟨⟨hk.1, hk.2.1⟩, hk.2.2⟩))
          have HCK := Aside0.mk hck
          clear hck hFk hb
          refine hK.out _ _ ⟨(blk_cell HS.out.b3 3).trans rfl, (blk_cell HS.out.b4 1).trans rfl, X0.out, X1.out, X2.out, X3.out, X4.out, X5.out⟩ (fun hHeld => ?_)
          clear hK K
          refine norm_ (a' := ?_) ?_ ?_
          rotate_left
          · show Act.put _ (some 141) _ = _
            simp only [Act.put, List.setIfInBounds_toArray, List.set_cons_zero, List.set_cons_succ, i64_w, i32_w]
            rfl
          refine pure_ (i := 12) (N := some 129) (v := ?_) (a' := ?_) #[true, true, true, true, true, true, true, true, true, true, true, true, true, false, false, true, false, false] rfl rfl (by kernel_rfl) (fun _ _ _ h => h) (Or.inl ⟨by rfl, ?_⟩) ?_ ?_
          rotate_left
          · intro w'
            go_simp
            with_reducible rfl
          rotate_left
          · simp only [Act.put, List.setIfInBounds_toArray, List.set_cons_zero, List.set_cons_succ, i64_w, i32_w]
            rfl
          refine pure_ (i := 13) (N := some 142) (v := ?_) (a' := ?_) #[true, true, true, true, true, true, true, true, true, true, true, true, true, true, false, true, false, false] rfl rfl (by kernel_rfl) (fun _ _ _ h => h) (Or.inl ⟨by rfl, ?_⟩) ?_ ?_
          rotate_left
          · intro w'
            go_simp
            with_reducible rfl
          rotate_left
          · simp only [Act.put, List.setIfInBounds_toArray, List.set_cons_zero, List.set_cons_succ, i64_w, i32_w]
            rfl
          refine pure_ (i := 14) (N := some 143) (v := ?_) (a' := ?_) #[true, true, true, true, true, true, true, true, true, true, true, true, true, true, true, true, false, false] rfl rfl (by kernel_rfl) (fun _ _ _ h => h) (Or.inl ⟨by rfl, ?_⟩) ?_ ?_
          rotate_left
          · intro w'
            go_simp
            with_reducible rfl
          rotate_left
          · simp only [Act.put, List.setIfInBounds_toArray, List.set_cons_zero, List.set_cons_succ, i64_w, i32_w]
            rfl
          exact norm_ (by simp only [putAll, Act.put, List.setIfInBounds_toArray, List.set_cons_zero, List.set_cons_succ]) (hCont (g18, Ak, ck) _ ⟨⟨HS.out, HX.out, HCK.out, HF.out⟩, ⟨HY.out, HO.out, N15.out, NB.out⟩⟩)
      rintro ⟨g18, Ak, ck⟩ wz hFk
      have HFK := Aside0.mk hFk.1
      have HY := Aside0.mk hFk.2.1
      have HO := Aside0.mk hFk.2.2.1
      have N15 := Aside0.mk hFk.2.2.2.1
      have NB := Aside0.mk hFk.2.2.2.2
      clear hFk
      refine norm_ (a' := ?_) ?_ ?_
      rotate_left
      · simp only [putAll, Act.put, List.setIfInBounds_toArray, List.set_cons_zero, List.set_cons_succ]
        rfl
      refine pure_ (i := 16) (N := some 17) (v := ?_) (a' := ?_) #[true, true, true, true, true, true, true, true, true, true, true, true, true, true, true, true, true, false] rfl rfl (by kernel_rfl) (fun _ _ _ h => h) (Or.inl ⟨by rfl, ?_⟩) ?_ ?_
      rotate_left
      · intro w'
        go_simp
        with_reducible rfl
      rotate_left
      · simp only [Act.put, List.setIfInBounds_toArray, List.set_cons_zero, List.set_cons_succ, i64_w, i32_w]
        rfl
      refine last_ (i := 17) (N := none) #[true, true, true, true, true, true, true, true, true, true, true, true, true, true, true, true, true, true] rfl rfl (by kernel_rfl) (by decide) (fun K hK => ?_)
      have cz0 := (blk_cell HFK.out.2.1.b 0).trans rfl
      have cz1 := (blk_cell HFK.out.2.1.b 1).trans rfl
      have fz0 := blk_frozen HFK.out.2.1.b 0
      have fz1 := blk_frozen HFK.out.2.1.b 1
      refine skip_ (w1 := ?_) (by rfl) rfl ?_ ?_
      rotate_left
      · go_simp
        rfl
      refine hK.out _ _ ?_
      clear hK K
      refine done_ (by kernel_rfl) ?_
      have HP_ := Fk.put HFK.out k0
      have HS := Aside0.mk HP_.1
      have HX := Aside0.mk HP_.2.1
      have HCK := Aside0.mk HP_.2.2.1
      have HF := Aside0.mk HP_.2.2.2
      have HY := Aside0.mk ((HY.out.far (p := ⟨g18, 0, none⟩) N15.out (.int .i64 k0)).far (p := ⟨g18, 1, none⟩) N15.out (.slice Ak k1.length ck))
      have HO := Aside0.mk (HO.out.put NB.out (.int .i64 k0) (.slice Ak k1.length ck))
      clear HP_ HFK cz0 cz1 fz0 fz1
      generalize ((wz.setCell ⟨g18, 0, none⟩ (.int .i64 k0)).setCell ⟨g18, 1, none⟩ (.slice Ak k1.length ck)) = wy at HS HX HF HY HO ⊢
      by_cases r2 : r = 2
      · subst r2
        have HZ2 := Aside0.mk (show zz = (2, ⟨0, bl.set i.toNat ⟨k0, k1⟩⟩, u) from by rw [← HF1.out, if_pos rfl]; rfl)
        clear HF1
        obtain ⟨v0, v1, hv0, hv1, hfr⟩ := HO.out.row.cells i.toNat (by rw [HBLL.out]; have := HI.out.1; have := HIL.out; omega)
        have fr0 := hfr (i.toNat * 2)
        have fr1 := hfr (i.toNat * 2 + 1)
        clear hfr
        have c30 := (blk_cell HS.out.b3 0).trans rfl
        have cy0 := (blk_cell HY.out.b 0).trans rfl
        have cy1 := (blk_cell HY.out.b 1).trans rfl
        have fy0 := blk_frozen HY.out.b 0
        have cx0 := (blk_cell HX.out.b 0).trans rfl
        have cx1 := (blk_cell HX.out.b 1).trans rfl
        have e1 := N15.out
        have e2 := N15.out.symm
        have e3 := NB.out
        have e4 := NB.out.symm
        have e5 := HO.out.n15
        have e6 := HO.out.n15.symm
        go_upto_region 31 with (fail)
        have HFL := Aside0.mk (OutS.lay HO.out i.toNat (by rw [HBLL.out]; have := HI.out.1; have := HIL.out; omega) (by rw [HBLL.out]; exact HMX.out) HQ.out ⟨k0, k1⟩ HCK.out HF.out)
        have HS := Aside0.mk ((HS.out.set HO.out.wg HO.out.n3 HO.out.n4 HO.out.n7 (i.toNat * 2) (.int .i64 k0)).set HO.out.wg HO.out.n3 HO.out.n4 HO.out.n7 (i.toNat * 2 + 1) (.slice Ak k1.length ck))
        have HY1 := Aside0.mk (show (((wy.setCell ⟨gb, i.toNat * 2, none⟩ (.int .i64 k0)).setCell ⟨gb, i.toNat * 2 + 1, none⟩ (.slice Ak k1.length ck))).heap[g15]? = some (.cells (boxM 0 (some ⟨gb, 0, none⟩) L cb) 40 (0, 0)) from blk_far (blk_far HY.out.b HO.out.n15 _) HO.out.n15 _)
        clear c30 cy0 cy1 fy0 cx0 cx1 e1 e2 e3 e4 e5 e6 fr0 fr1 hv0 hv1 HY HO HX HF
        generalize ((wy.setCell ⟨gb, i.toNat * 2, none⟩ (.int .i64 k0)).setCell ⟨gb, i.toNat * 2 + 1, none⟩ (.slice Ak k1.length ck)) = wf at HS HFL HY1 ⊢
        have HS := Aside0.mk HS.out.drew
        have HFL := Aside0.mk (Kd.F_drew HFL.out)
        have HY1 := Aside0.mk (blk_drew HY1.out)
        refine start_ (n := 3) (S := fun w' => w'.cell? ⟨g15, 0, none⟩ = some (.int .i64 0) ∧ w'.cell? ⟨g15, 1, none⟩ = some (.slice (some ⟨gb, 0, none⟩) L cb)) (ds := [2]) #[false, false, false] (by kernel_rfl) rfl rfl ⟨(blk_cell HY1.out 0).trans rfl, (blk_cell HY1.out 1).trans rfl⟩ (fun hHeld => ?_)
        generalize wf.drew = wd at HS HFL HY1 hHeld ⊢
        refine pure_ (i := 1) (N := some 6) (v := ?_) (a' := ?_) #[false, true, false] rfl rfl (by kernel_rfl) (fun _ _ _ h => h) (Or.inl ⟨by rfl, ?_⟩) ?_ ?_
        rotate_left
        · intro w'
          go_simp
          with_reducible rfl
        rotate_left
        · simp only [Act.put, List.setIfInBounds_toArray, List.set_cons_zero, List.set_cons_succ, i64_w, i32_w]
          rfl
        refine take_ (i := 0) (N := some 161) (v := ?_) (a' := ?_) #[true, true, false] rfl rfl (by kernel_rfl) (fun _ _ _ h => h) (Or.inl ⟨by rfl, ?_⟩) hHeld ?_ ?_
        rotate_left
        · rintro w' ⟨s0, s1⟩
          go_simp
          with_reducible rfl
        rotate_left
        · simp only [Act.put, List.setIfInBounds_toArray, List.set_cons_zero, List.set_cons_succ, i64_w, i32_w]
          rfl
        refine last_ (i := 2) (N := none) #[true, true, true] rfl rfl (by kernel_rfl) (by decide) (fun K hK => ?_)
        have cz0 := (blk_cell HS.out.b7 0).trans rfl
        have cz1 := (blk_cell HS.out.b7 1).trans rfl
        have fz0 := blk_frozen HS.out.b7 0
        have fz1 := blk_frozen HS.out.b7 1
        refine skip_ (w1 := ?_) (by rfl) rfl ?_ ?_
        rotate_left
        · go_simp
          rfl
        refine hK.out _ _ ?_
        clear hK K
        refine done_ (by kernel_rfl) ?_
        try go_wp2
        refine bodyPost_ret (results_tc rfl _ _ g7 40 #[.int .i64 0, .slice (some ⟨gb, 0, none⟩) L cb] (0, 0) _ rfl (put2 HS.out.b7 _ _) Try.underlying40 rfl (by kernel_rfl)) rfl ?_
        have h1_ : (bl.set i.toNat (⟨k0, k1⟩ : Md)).length = L := by rw [List.length_set]; exact HBLL.out
        rw [HZ2.out, show (Value.slice (some ⟨gb, 0, none⟩) L cb) = Value.slice (some ⟨gb, 0, none⟩) (bl.set i.toNat (⟨k0, k1⟩ : Md)).length cb from by rw [h1_]]
        exact HS.out.fin HFL.out (by rw [List.length_set, HBLL.out]; exact HCB.out) _ _
      · have R2 : (r == 2) = false := beqF r2
        by_cases r3 : r = 0
        · subst r3
          have HF2 := Aside0.mk (show thinkL Th ⟨0, bl⟩ (8 : Int) (i + 1).toNat (n3.drop (i + 1).toNat) (m1.drop (i + 1).toNat) () = zz from by rw [← HF1.out, if_neg r2, if_pos (show (0 : Int) = onV (8 : Int) from rfl)])
          have HW := Aside0.mk (show wrap64 (i + 1) = i + 1 from w64 (by have := HI.out.1; omega) (by have := HIL.out; have := HMX.out; omega))
          clear HF1 r2
          cases gk with
          | zero => exact absurd HI.out.2 (by have := HI.out.1; have := HIL.out; omega)
          | succ kz =>
            go_wp2
            go_roundg kz
            case measure => omega
            case rel => exact ⟨i + 1, by rw [HW.out], ⟨by have := HI.out.1; omega, by have := HI.out; omega⟩, HF2, HS, HY, ⟨fun _ => ⟨gb, rfl, HO.out⟩⟩⟩
        · have R3 : (r != 0) = true := bne_iff_ne.mpr r3
          have HZ2 := Aside0.mk (show zz = (r, ⟨0, bl⟩, u) from by rw [← HF1.out, if_neg r2, if_neg (show ¬ r = onV (8 : Int) from r3)])
          clear HF1 r2 r3
          have c30 := (blk_cell HS.out.b3 0).trans rfl
          have c31 := (blk_cell HS.out.b3 1).trans rfl
          have c32 := (blk_cell HS.out.b3 2).trans rfl
          have c33 := (blk_cell HS.out.b3 3).trans rfl
          have c40 := (blk_cell HS.out.b4 0).trans rfl
          have c41 := (blk_cell HS.out.b4 1).trans rfl
          go_wp2_with (first | ((with_reducible refine gate_callee (f := 16) rfl ?_); refine goesL_ (some 167) rfl rfl Try.func16 (by kernel_rfl) rfl #[.agg #[.int .i64 (8 : Int), .string n1, .int .i64 n2, .slice (some ad) L c3]] rfl (by (try simp only [zm1, zm2, zm3]); first | done | rfl) ?_; have hcall := blank_call HS.out HQ.out HL.out HC3.out HBL.out HBLL.out; (refine hcall.mono ?_); clear hcall; rintro e wq ⟨Ac, cc, rfl, hcc, hfc, hgc, hb⟩; refine ⟨_, rfl, ?_⟩; have HS := Aside0.mk (HS.out.below hb); have HFC := Aside0.mk hfc; have HCC := Aside0.mk hcc; clear hcc hfc hgc hb c30 c31 c32 c33 c40 c41; have cz0 := (blk_cell HS.out.b7 0).trans rfl; have cz1 := (blk_cell HS.out.b7 1).trans rfl; have fz0 := blk_frozen HS.out.b7 0; have fz1 := blk_frozen HS.out.b7 1))
          try go_wp2
          refine bodyPost_ret (results_tc rfl _ _ g7 40 #[.int .i64 0, .slice Ac L cc] (0, 0) _ rfl (put2 HS.out.b7 _ _) Try.underlying40 rfl (by kernel_rfl)) rfl ?_
          have h1_ := HBLL.out
          rw [HZ2.out, show (Value.slice Ac L cc) = Value.slice Ac bl.length cc from by rw [h1_]]
          exact HS.out.fin HFC.out (by rw [HBLL.out]; exact HCC.out) _ _
    · have HZ2 := Aside0.mk (show zz = (0, ⟨0, bl⟩, ()) from by rw [← HF0.out, thinkL_end Th ⟨0, bl⟩ (8 : Int) HL.out i hi]; rfl)
      have hib : decide (i < (L : Int)) = false := decide_eq_false hi
      have q0 : (i < (L : Int)) = False := eq_false hi
      clear HF0 hi
      have c30 := (blk_cell HS.out.b3 0).trans rfl
      have c31 := (blk_cell HS.out.b3 1).trans rfl
      have c32 := (blk_cell HS.out.b3 2).trans rfl
      have c33 := (blk_cell HS.out.b3 3).trans rfl
      have c40 := (blk_cell HS.out.b4 0).trans rfl
      have c41 := (blk_cell HS.out.b4 1).trans rfl
      go_wp2_with (first | ((with_reducible refine gate_callee (f := 16) rfl ?_); refine goesL_ (some 170) rfl rfl Try.func16 (by kernel_rfl) rfl #[.agg #[.int .i64 (8 : Int), .string n1, .int .i64 n2, .slice A3 L c3]] rfl (by (try simp only [zm1, zm2, zm3]); first | done | rfl) ?_; have hcall := blank_call HS.out HQ.out HL.out HC3.out HBL.out HBLL.out; (refine hcall.mono ?_); clear hcall; rintro e wq ⟨Ac, cc, rfl, hcc, hfc, hgc, hb⟩; refine ⟨_, rfl, ?_⟩; have HS := Aside0.mk (HS.out.below hb); have HFC := Aside0.mk hfc; have HCC := Aside0.mk hcc; clear hcc hfc hgc hb c30 c31 c32 c33 c40 c41; have cz0 := (blk_cell HS.out.b7 0).trans rfl; have cz1 := (blk_cell HS.out.b7 1).trans rfl; have fz0 := blk_frozen HS.out.b7 0; have fz1 := blk_frozen HS.out.b7 1))
      try go_wp2
      refine bodyPost_ret (results_tc rfl _ _ g7 40 #[.int .i64 0, .slice Ac L cc] (0, 0) _ rfl (put2 HS.out.b7 _ _) Try.underlying40 rfl (by kernel_rfl)) rfl ?_
      have h1_ := HBLL.out
      rw [HZ2.out, show (Value.slice Ac L cc) = Value.slice Ac bl.length cc from by rw [h1_]]
      exact HS.out.fin HFC.out (by rw [HBLL.out]; exact HCC.out) _ _
end
end Go.Proofs.Ytbpgfjfkogdolaa.TreeThinkListTreeTells
