-- Printed by a program: the print with changes of this session (wip/printpatch.py).
import Derived.Test.YtfallkiaojefnaaPBonesLongx0
import Derived.Test.YtfallkiaojefnaaPBonesLongx7
namespace Go.Proofs.Ytfallkiaojefnaa.PBonesLong
open Go.Proofs.Ytfallkiaojefnaa.Fnv Go.Proofs.Ytfallkiaojefnaa.Ary Go.Proofs.Ytfallkiaojefnaa.Ext
open Go.RowKit Go.Proofs.YtfallkiaojefnaaW.PrintWords Go.Proofs.YtfallkiaojefnaaW.PrintLast Go.Proofs.YtfallkiaojefnaaW.PrintMore
attribute [local go_sem] max2_int min2_int max_two min_two max_three min_three max_four min_four   -- for this text's walks alone
set_option linter.unusedVariables false
set_option linter.unusedSimpArgs false

/-! ### quat_Mul: function 29 -/
def quat_Mul.f (k : Nat) (a0_0 : Int) (a0_1 : Int) (a0_2 : Int) (a0_3 : Int) (a1_0 : Int) (a1_1 : Int) (a1_2 : Int) (a1_3 : Int) : Option (Int × Int × Int × Int) := (fix_Mul.f k a0_0 a1_0).bind fun t166 => ((fix_Mul.f k a0_1 a1_1).bind fun t167 => ((fix_Mul.f k a0_2 a1_2).bind fun t168 => ((fix_Mul.f k a0_3 a1_3).bind fun t169 => ((quat_sum.f k (([t166, wrap64 (-t167), wrap64 (-t168), wrap64 (-t169)] : List Int))).bind fun t173 => ((fix_Mul.f k a0_0 a1_1).bind fun t174 => ((fix_Mul.f k a0_1 a1_0).bind fun t175 => ((fix_Mul.f k a0_2 a1_3).bind fun t176 => ((fix_Mul.f k a0_3 a1_2).bind fun t177 => ((quat_sum.f k (([t174, t175, t176, wrap64 (-t177)] : List Int))).bind fun t181 => ((fix_Mul.f k a0_0 a1_2).bind fun t182 => ((fix_Mul.f k a0_1 a1_3).bind fun t183 => ((fix_Mul.f k a0_2 a1_0).bind fun t184 => ((fix_Mul.f k a0_3 a1_1).bind fun t185 => ((quat_sum.f k (([t182, wrap64 (-t183), t184, t185] : List Int))).bind fun t189 => ((fix_Mul.f k a0_0 a1_3).bind fun t190 => ((fix_Mul.f k a0_1 a1_2).bind fun t191 => ((fix_Mul.f k a0_2 a1_1).bind fun t192 => ((fix_Mul.f k a0_3 a1_0).bind fun t193 => ((quat_sum.f k (([t190, t191, wrap64 (-t192), t193] : List Int))).bind fun t197 => (some (t173, t181, t189, t197)))))))))))))))))))))
theorem quat_Mul.mono : ∀ a0 a1 a2 a3 a4 a5 a6 a7 k, LeO (quat_Mul.f k a0 a1 a2 a3 a4 a5 a6 a7) (quat_Mul.f (k + 1) a0 a1 a2 a3 a4 a5 a6 a7) := by
 intro a0 a1 a2 a3 a4 a5 a6 a7 k
 unfold quat_Mul.f
 repeat' first
   | (with_reducible exact fix_Mul.mono _ _ _)
   | (with_reducible exact quat_sum.mono _ _)
   | (with_reducible exact LeO.refl _)
   | (with_reducible exact LeO.none _)
   | (with_reducible refine LeO.ite ?_ ?_)
   | (with_reducible refine LeO.bind ?_ (fun _ => ?_))
   | exact fix_Mul.mono _ _ _
   | exact quat_sum.mono _ _
   | exact LeO.none _
   | refine LeO.ite ?_ ?_
   | refine LeO.bind ?_ (fun _ => ?_)
def quat_Mul.T2 : Bool × List (List Nat × List Nat) := (true, [([], []), ([], []), ([1], [1]), ([], []), ([3], [3]), ([0, 2, 4], [0, 2, 4]), ([], []), ([], []), ([7], [7]), ([], []), ([9], [9]), ([6, 8, 10, 5], [6, 8, 10]), ([11], [11]), ([], []), ([], []), ([14], [14]), ([], []), ([16], [16]), ([13, 15, 17, 11], [13, 15, 17]), ([18], [18]), ([], []), ([], []), ([21], [21]), ([], []), ([23], [23]), ([20, 22, 24, 18], [20, 22, 24]), ([25], [25]), ([5, 12, 19, 26], [5, 12, 19, 26]), ([27, 25], [27]), ([], []), ([], []), ([30], [30]), ([], []), ([32], [32]), ([29, 31, 33, 28], [29, 31, 33]), ([], []), ([], []), ([36], [36]), ([], []), ([38], [38]), ([35, 37, 39, 34], [35, 37, 39]), ([], []), ([], []), ([42], [42]), ([], []), ([44], [44]), ([41, 43, 45, 40], [41, 43, 45]), ([], []), ([], []), ([48], [48]), ([], []), ([50], [50]), ([47, 49, 51, 46], [47, 49, 51]), ([52], [52]), ([34, 40, 46, 53], [34, 40, 46, 53]), ([54, 52], [54]), ([], []), ([], []), ([57], [57]), ([], []), ([59], [59]), ([56, 58, 60, 55], [56, 58, 60]), ([], []), ([], []), ([63], [63]), ([], []), ([65], [65]), ([62, 64, 66, 61], [62, 64, 66]), ([67], [67]), ([], []), ([], []), ([70], [70]), ([], []), ([72], [72]), ([69, 71, 73, 67], [69, 71, 73]), ([], []), ([], []), ([76], [76]), ([], []), ([78], [78]), ([75, 77, 79, 74], [75, 77, 79]), ([61, 68, 74, 80], [61, 68, 74, 80]), ([81, 80], [81]), ([], []), ([], []), ([84], [84]), ([], []), ([86], [86]), ([83, 85, 87, 82], [83, 85, 87]), ([], []), ([], []), ([90], [90]), ([], []), ([92], [92]), ([89, 91, 93, 88], [89, 91, 93]), ([], []), ([], []), ([96], [96]), ([], []), ([98], [98]), ([95, 97, 99, 94], [95, 97, 99]), ([100], [100]), ([], []), ([], []), ([103], [103]), ([], []), ([105], [105]), ([102, 104, 106, 100], [102, 104, 106]), ([88, 94, 101, 107], [88, 94, 101, 107]), ([108, 107], [108]), ([28, 55, 82, 109], [28, 55, 82, 109]), ([110, 109, 0, 1, 2, 3, 4, 5, 6, 7, 8, 9, 10, 11, 12, 13, 14, 15, 16, 17, 18, 19, 20, 21, 22, 23, 24, 25, 26, 27, 28, 29, 30, 31, 32, 33, 34, 35, 36, 37, 38, 39, 40, 41, 42, 43, 44, 45, 46, 47, 48, 49, 50, 51, 52, 53, 54, 55, 56, 57, 58, 59, 60, 61, 62, 63, 64, 65, 66, 67, 68, 69, 70, 71, 72, 73, 74, 75, 76, 77, 78, 79, 80, 81, 82, 83, 84, 85, 86, 87, 88, 89, 90, 91, 92, 93, 94, 95, 96, 97, 98, 99, 100, 101, 102, 103, 104, 105, 106, 107, 108, 109, 110], [110])])
def quat_Mul.B2 : List Nat := [0, 0, 2, 0, 8, 31, 0, 0, 128, 0, 512, 2047, 4095, 0, 0, 16384, 0, 65536, 258047, 520191, 0, 0, 2097152, 0, 8388608, 33026047, 66580479, 134217727, 268435455, 0, 0, 1073741824, 0, 4294967296, 17179869183, 0, 0, 68719476736, 0, 274877906944, 1099511627775, 0, 0, 4398046511104, 0, 17592186044416, 70368744177663, 0, 0, 281474976710656, 0, 1125899906842624, 4503599627370495, 9007199254740991, 18014398509481983, 36028797018963967, 0, 0, 144115188075855872, 0, 576460752303423488, 2305843009213693951, 0, 0, 9223372036854775808, 0, 36893488147419103232, 147573952589676412927, 295147905179352825855, 0, 0, 1180591620717411303424, 0, 4722366482869645213696, 18594318026299228028927, 0, 0, 75557863725914323419136, 0, 302231454903657293676544, 1208630671709449821880319, 2417851639229258349412351, 4835703278458516698824703, 0, 0, 19342813113834066795298816, 0, 77371252455336267181195264, 309485009821345068724781055, 0, 0, 1237940039285380274899124224, 0, 4951760157141521099596496896, 19807040628566084398385987583, 0, 0, 79228162514264337593543950336, 0, 316912650057057350374175801344, 1267650600228229401496703205375, 2535301200456458802993406410751, 0, 0, 10141204801825835211973625643008, 0, 40564819207303340847894502572032, 159723975628756904588584603877375, 324518553658426726783156020576255, 649037107316853453566312041152511, 1298074214633706907132624082305023, 2596148429267413814265248164610047]
theorem quat_Mul.tab2 : rtab .any (opsOf Try.f29 2) = quat_Mul.T2 := by kernel_rfl
theorem quat_Mul.bits2 : waitsOk quat_Mul.T2.2 quat_Mul.B2 = true := by kernel_rfl
set_option maxHeartbeats 8000000 in
set_option maxRecDepth 100000 in
theorem quat_Mul.calls (k : Nat) (a0_0 : Int) (a0_1 : Int) (a0_2 : Int) (a0_3 : Int) (a1_0 : Int) (a1_1 : Int) (a1_2 : Int) (a1_3 : Int) (r1 : Int) (r2 : Int) (r3 : Int) (r4 : Int) (w : World) (h : quat_Mul.f k a0_0 a0_1 a0_2 a0_3 a1_0 a1_1 a1_2 a1_3 = some (r1, r2, r3, r4)) :
  Calls Try.prog 29 #[.agg #[.int .i64 a0_0, .int .i64 a0_1, .int .i64 a0_2, .int .i64 a0_3], .agg #[.int .i64 a1_0, .int .i64 a1_1, .int .i64 a1_2, .int .i64 a1_3]] w fun e w' => e = .returned (.agg #[.int .i64 r1, .int .i64 r2, .int .i64 r3, .int .i64 r4]) ∧ Below w.heap.size w w' := by
 have hu37 := Try.underlying37
 have HB := Aside0.mk (Below.refl w.heap.size w)
 have H : ((fix_Mul.f k a0_0 a1_0).bind fun t166 => ((fix_Mul.f k a0_1 a1_1).bind fun t167 => ((fix_Mul.f k a0_2 a1_2).bind fun t168 => ((fix_Mul.f k a0_3 a1_3).bind fun t169 => ((quat_sum.f k (([t166, wrap64 (-t167), wrap64 (-t168), wrap64 (-t169)] : List Int))).bind fun t173 => ((fix_Mul.f k a0_0 a1_1).bind fun t174 => ((fix_Mul.f k a0_1 a1_0).bind fun t175 => ((fix_Mul.f k a0_2 a1_3).bind fun t176 => ((fix_Mul.f k a0_3 a1_2).bind fun t177 => ((quat_sum.f k (([t174, t175, t176, wrap64 (-t177)] : List Int))).bind fun t181 => ((fix_Mul.f k a0_0 a1_2).bind fun t182 => ((fix_Mul.f k a0_1 a1_3).bind fun t183 => ((fix_Mul.f k a0_2 a1_0).bind fun t184 => ((fix_Mul.f k a0_3 a1_1).bind fun t185 => ((quat_sum.f k (([t182, wrap64 (-t183), t184, t185] : List Int))).bind fun t189 => ((fix_Mul.f k a0_0 a1_3).bind fun t190 => ((fix_Mul.f k a0_1 a1_2).bind fun t191 => ((fix_Mul.f k a0_2 a1_1).bind fun t192 => ((fix_Mul.f k a0_3 a1_0).bind fun t193 => ((quat_sum.f k (([t190, t191, wrap64 (-t192), t193] : List Int))).bind fun t197 => (some (t173, t181, t189, t197)))))))))))))))))))))) = some (r1, r2, r3, r4) := h
 clear h
 replace H := Option.bind_eq_some_iff.mp H
 obtain ⟨t166, A30, H⟩ := H
 replace H : ((fix_Mul.f k a0_1 a1_1).bind fun t167 => ((fix_Mul.f k a0_2 a1_2).bind fun t168 => ((fix_Mul.f k a0_3 a1_3).bind fun t169 => ((quat_sum.f k (([t166, wrap64 (-t167), wrap64 (-t168), wrap64 (-t169)] : List Int))).bind fun t173 => ((fix_Mul.f k a0_0 a1_1).bind fun t174 => ((fix_Mul.f k a0_1 a1_0).bind fun t175 => ((fix_Mul.f k a0_2 a1_3).bind fun t176 => ((fix_Mul.f k a0_3 a1_2).bind fun t177 => ((quat_sum.f k (([t174, t175, t176, wrap64 (-t177)] : List Int))).bind fun t181 => ((fix_Mul.f k a0_0 a1_2).bind fun t182 => ((fix_Mul.f k a0_1 a1_3).bind fun t183 => ((fix_Mul.f k a0_2 a1_0).bind fun t184 => ((fix_Mul.f k a0_3 a1_1).bind fun t185 => ((quat_sum.f k (([t182, wrap64 (-t183), t184, t185] : List Int))).bind fun t189 => ((fix_Mul.f k a0_0 a1_3).bind fun t190 => ((fix_Mul.f k a0_1 a1_2).bind fun t191 => ((fix_Mul.f k a0_2 a1_1).bind fun t192 => ((fix_Mul.f k a0_3 a1_0).bind fun t193 => ((quat_sum.f k (([t190, t191, wrap64 (-t192), t193] : List Int))).bind fun t197 => (some (t173, t181, t189, t197))))))))))))))))))))) = some (r1, r2, r3, r4) := H
 have A3 := Aside0.mk A30
 clear A30
 replace H := Option.bind_eq_some_iff.mp H
 obtain ⟨t167, A40, H⟩ := H
 replace H : ((fix_Mul.f k a0_2 a1_2).bind fun t168 => ((fix_Mul.f k a0_3 a1_3).bind fun t169 => ((quat_sum.f k (([t166, wrap64 (-t167), wrap64 (-t168), wrap64 (-t169)] : List Int))).bind fun t173 => ((fix_Mul.f k a0_0 a1_1).bind fun t174 => ((fix_Mul.f k a0_1 a1_0).bind fun t175 => ((fix_Mul.f k a0_2 a1_3).bind fun t176 => ((fix_Mul.f k a0_3 a1_2).bind fun t177 => ((quat_sum.f k (([t174, t175, t176, wrap64 (-t177)] : List Int))).bind fun t181 => ((fix_Mul.f k a0_0 a1_2).bind fun t182 => ((fix_Mul.f k a0_1 a1_3).bind fun t183 => ((fix_Mul.f k a0_2 a1_0).bind fun t184 => ((fix_Mul.f k a0_3 a1_1).bind fun t185 => ((quat_sum.f k (([t182, wrap64 (-t183), t184, t185] : List Int))).bind fun t189 => ((fix_Mul.f k a0_0 a1_3).bind fun t190 => ((fix_Mul.f k a0_1 a1_2).bind fun t191 => ((fix_Mul.f k a0_2 a1_1).bind fun t192 => ((fix_Mul.f k a0_3 a1_0).bind fun t193 => ((quat_sum.f k (([t190, t191, wrap64 (-t192), t193] : List Int))).bind fun t197 => (some (t173, t181, t189, t197)))))))))))))))))))) = some (r1, r2, r3, r4) := H
 have A4 := Aside0.mk A40
 clear A40
 replace H := Option.bind_eq_some_iff.mp H
 obtain ⟨t168, A50, H⟩ := H
 replace H : ((fix_Mul.f k a0_3 a1_3).bind fun t169 => ((quat_sum.f k (([t166, wrap64 (-t167), wrap64 (-t168), wrap64 (-t169)] : List Int))).bind fun t173 => ((fix_Mul.f k a0_0 a1_1).bind fun t174 => ((fix_Mul.f k a0_1 a1_0).bind fun t175 => ((fix_Mul.f k a0_2 a1_3).bind fun t176 => ((fix_Mul.f k a0_3 a1_2).bind fun t177 => ((quat_sum.f k (([t174, t175, t176, wrap64 (-t177)] : List Int))).bind fun t181 => ((fix_Mul.f k a0_0 a1_2).bind fun t182 => ((fix_Mul.f k a0_1 a1_3).bind fun t183 => ((fix_Mul.f k a0_2 a1_0).bind fun t184 => ((fix_Mul.f k a0_3 a1_1).bind fun t185 => ((quat_sum.f k (([t182, wrap64 (-t183), t184, t185] : List Int))).bind fun t189 => ((fix_Mul.f k a0_0 a1_3).bind fun t190 => ((fix_Mul.f k a0_1 a1_2).bind fun t191 => ((fix_Mul.f k a0_2 a1_1).bind fun t192 => ((fix_Mul.f k a0_3 a1_0).bind fun t193 => ((quat_sum.f k (([t190, t191, wrap64 (-t192), t193] : List Int))).bind fun t197 => (some (t173, t181, t189, t197))))))))))))))))))) = some (r1, r2, r3, r4) := H
 have A5 := Aside0.mk A50
 clear A50
 replace H := Option.bind_eq_some_iff.mp H
 obtain ⟨t169, A60, H⟩ := H
 replace H : ((quat_sum.f k (([t166, wrap64 (-t167), wrap64 (-t168), wrap64 (-t169)] : List Int))).bind fun t173 => ((fix_Mul.f k a0_0 a1_1).bind fun t174 => ((fix_Mul.f k a0_1 a1_0).bind fun t175 => ((fix_Mul.f k a0_2 a1_3).bind fun t176 => ((fix_Mul.f k a0_3 a1_2).bind fun t177 => ((quat_sum.f k (([t174, t175, t176, wrap64 (-t177)] : List Int))).bind fun t181 => ((fix_Mul.f k a0_0 a1_2).bind fun t182 => ((fix_Mul.f k a0_1 a1_3).bind fun t183 => ((fix_Mul.f k a0_2 a1_0).bind fun t184 => ((fix_Mul.f k a0_3 a1_1).bind fun t185 => ((quat_sum.f k (([t182, wrap64 (-t183), t184, t185] : List Int))).bind fun t189 => ((fix_Mul.f k a0_0 a1_3).bind fun t190 => ((fix_Mul.f k a0_1 a1_2).bind fun t191 => ((fix_Mul.f k a0_2 a1_1).bind fun t192 => ((fix_Mul.f k a0_3 a1_0).bind fun t193 => ((quat_sum.f k (([t190, t191, wrap64 (-t192), t193] : List Int))).bind fun t197 => (some (t173, t181, t189, t197)))))))))))))))))) = some (r1, r2, r3, r4) := H
 have A6 := Aside0.mk A60
 clear A60
 obtain ⟨y170, hy170⟩ : ∃ y_ : List Int, y_ = (([t166, wrap64 (-t167), wrap64 (-t168), wrap64 (-t169)] : List Int)) := ⟨_, rfl⟩
 replace H : ((quat_sum.f k y170).bind fun t173 => ((fix_Mul.f k a0_0 a1_1).bind fun t174 => ((fix_Mul.f k a0_1 a1_0).bind fun t175 => ((fix_Mul.f k a0_2 a1_3).bind fun t176 => ((fix_Mul.f k a0_3 a1_2).bind fun t177 => ((quat_sum.f k (([t174, t175, t176, wrap64 (-t177)] : List Int))).bind fun t181 => ((fix_Mul.f k a0_0 a1_2).bind fun t182 => ((fix_Mul.f k a0_1 a1_3).bind fun t183 => ((fix_Mul.f k a0_2 a1_0).bind fun t184 => ((fix_Mul.f k a0_3 a1_1).bind fun t185 => ((quat_sum.f k (([t182, wrap64 (-t183), t184, t185] : List Int))).bind fun t189 => ((fix_Mul.f k a0_0 a1_3).bind fun t190 => ((fix_Mul.f k a0_1 a1_2).bind fun t191 => ((fix_Mul.f k a0_2 a1_1).bind fun t192 => ((fix_Mul.f k a0_3 a1_0).bind fun t193 => ((quat_sum.f k (([t190, t191, wrap64 (-t192), t193] : List Int))).bind fun t197 => (some (t173, t181, t189, t197)))))))))))))))))) = some (r1, r2, r3, r4) := by first | (rw [hy170]; with_reducible exact H) | (have H2_ := (Option.bind_some _ _).symm.trans H; rw [hy170]; with_reducible exact H2_) | (have H2_ := (Option.bind_some _ _).symm.trans H; with_reducible exact H2_) | with_reducible exact H | (rw [hy170]; exact H) | exact H
 have Ny170 := Aside0.mk hy170
 clear hy170
 replace H := Option.bind_eq_some_iff.mp H
 obtain ⟨t173, A70, H⟩ := H
 replace H : ((fix_Mul.f k a0_0 a1_1).bind fun t174 => ((fix_Mul.f k a0_1 a1_0).bind fun t175 => ((fix_Mul.f k a0_2 a1_3).bind fun t176 => ((fix_Mul.f k a0_3 a1_2).bind fun t177 => ((quat_sum.f k (([t174, t175, t176, wrap64 (-t177)] : List Int))).bind fun t181 => ((fix_Mul.f k a0_0 a1_2).bind fun t182 => ((fix_Mul.f k a0_1 a1_3).bind fun t183 => ((fix_Mul.f k a0_2 a1_0).bind fun t184 => ((fix_Mul.f k a0_3 a1_1).bind fun t185 => ((quat_sum.f k (([t182, wrap64 (-t183), t184, t185] : List Int))).bind fun t189 => ((fix_Mul.f k a0_0 a1_3).bind fun t190 => ((fix_Mul.f k a0_1 a1_2).bind fun t191 => ((fix_Mul.f k a0_2 a1_1).bind fun t192 => ((fix_Mul.f k a0_3 a1_0).bind fun t193 => ((quat_sum.f k (([t190, t191, wrap64 (-t192), t193] : List Int))).bind fun t197 => (some (t173, t181, t189, t197))))))))))))))))) = some (r1, r2, r3, r4) := H
 have A7 := Aside0.mk A70
 clear A70
 replace H := Option.bind_eq_some_iff.mp H
 obtain ⟨t174, A80, H⟩ := H
 replace H : ((fix_Mul.f k a0_1 a1_0).bind fun t175 => ((fix_Mul.f k a0_2 a1_3).bind fun t176 => ((fix_Mul.f k a0_3 a1_2).bind fun t177 => ((quat_sum.f k (([t174, t175, t176, wrap64 (-t177)] : List Int))).bind fun t181 => ((fix_Mul.f k a0_0 a1_2).bind fun t182 => ((fix_Mul.f k a0_1 a1_3).bind fun t183 => ((fix_Mul.f k a0_2 a1_0).bind fun t184 => ((fix_Mul.f k a0_3 a1_1).bind fun t185 => ((quat_sum.f k (([t182, wrap64 (-t183), t184, t185] : List Int))).bind fun t189 => ((fix_Mul.f k a0_0 a1_3).bind fun t190 => ((fix_Mul.f k a0_1 a1_2).bind fun t191 => ((fix_Mul.f k a0_2 a1_1).bind fun t192 => ((fix_Mul.f k a0_3 a1_0).bind fun t193 => ((quat_sum.f k (([t190, t191, wrap64 (-t192), t193] : List Int))).bind fun t197 => (some (t173, t181, t189, t197)))))))))))))))) = some (r1, r2, r3, r4) := H
 have A8 := Aside0.mk A80
 clear A80
 replace H := Option.bind_eq_some_iff.mp H
 obtain ⟨t175, A90, H⟩ := H
 replace H : ((fix_Mul.f k a0_2 a1_3).bind fun t176 => ((fix_Mul.f k a0_3 a1_2).bind fun t177 => ((quat_sum.f k (([t174, t175, t176, wrap64 (-t177)] : List Int))).bind fun t181 => ((fix_Mul.f k a0_0 a1_2).bind fun t182 => ((fix_Mul.f k a0_1 a1_3).bind fun t183 => ((fix_Mul.f k a0_2 a1_0).bind fun t184 => ((fix_Mul.f k a0_3 a1_1).bind fun t185 => ((quat_sum.f k (([t182, wrap64 (-t183), t184, t185] : List Int))).bind fun t189 => ((fix_Mul.f k a0_0 a1_3).bind fun t190 => ((fix_Mul.f k a0_1 a1_2).bind fun t191 => ((fix_Mul.f k a0_2 a1_1).bind fun t192 => ((fix_Mul.f k a0_3 a1_0).bind fun t193 => ((quat_sum.f k (([t190, t191, wrap64 (-t192), t193] : List Int))).bind fun t197 => (some (t173, t181, t189, t197))))))))))))))) = some (r1, r2, r3, r4) := H
 have A9 := Aside0.mk A90
 clear A90
 replace H := Option.bind_eq_some_iff.mp H
 obtain ⟨t176, A100, H⟩ := H
 replace H : ((fix_Mul.f k a0_3 a1_2).bind fun t177 => ((quat_sum.f k (([t174, t175, t176, wrap64 (-t177)] : List Int))).bind fun t181 => ((fix_Mul.f k a0_0 a1_2).bind fun t182 => ((fix_Mul.f k a0_1 a1_3).bind fun t183 => ((fix_Mul.f k a0_2 a1_0).bind fun t184 => ((fix_Mul.f k a0_3 a1_1).bind fun t185 => ((quat_sum.f k (([t182, wrap64 (-t183), t184, t185] : List Int))).bind fun t189 => ((fix_Mul.f k a0_0 a1_3).bind fun t190 => ((fix_Mul.f k a0_1 a1_2).bind fun t191 => ((fix_Mul.f k a0_2 a1_1).bind fun t192 => ((fix_Mul.f k a0_3 a1_0).bind fun t193 => ((quat_sum.f k (([t190, t191, wrap64 (-t192), t193] : List Int))).bind fun t197 => (some (t173, t181, t189, t197)))))))))))))) = some (r1, r2, r3, r4) := H
 have A10 := Aside0.mk A100
 clear A100
 replace H := Option.bind_eq_some_iff.mp H
 obtain ⟨t177, A110, H⟩ := H
 replace H : ((quat_sum.f k (([t174, t175, t176, wrap64 (-t177)] : List Int))).bind fun t181 => ((fix_Mul.f k a0_0 a1_2).bind fun t182 => ((fix_Mul.f k a0_1 a1_3).bind fun t183 => ((fix_Mul.f k a0_2 a1_0).bind fun t184 => ((fix_Mul.f k a0_3 a1_1).bind fun t185 => ((quat_sum.f k (([t182, wrap64 (-t183), t184, t185] : List Int))).bind fun t189 => ((fix_Mul.f k a0_0 a1_3).bind fun t190 => ((fix_Mul.f k a0_1 a1_2).bind fun t191 => ((fix_Mul.f k a0_2 a1_1).bind fun t192 => ((fix_Mul.f k a0_3 a1_0).bind fun t193 => ((quat_sum.f k (([t190, t191, wrap64 (-t192), t193] : List Int))).bind fun t197 => (some (t173, t181, t189, t197))))))))))))) = some (r1, r2, r3, r4) := H
 have A11 := Aside0.mk A110
 clear A110
 obtain ⟨y178, hy178⟩ : ∃ y_ : List Int, y_ = (([t174, t175, t176, wrap64 (-t177)] : List Int)) := ⟨_, rfl⟩
 replace H : ((quat_sum.f k y178).bind fun t181 => ((fix_Mul.f k a0_0 a1_2).bind fun t182 => ((fix_Mul.f k a0_1 a1_3).bind fun t183 => ((fix_Mul.f k a0_2 a1_0).bind fun t184 => ((fix_Mul.f k a0_3 a1_1).bind fun t185 => ((quat_sum.f k (([t182, wrap64 (-t183), t184, t185] : List Int))).bind fun t189 => ((fix_Mul.f k a0_0 a1_3).bind fun t190 => ((fix_Mul.f k a0_1 a1_2).bind fun t191 => ((fix_Mul.f k a0_2 a1_1).bind fun t192 => ((fix_Mul.f k a0_3 a1_0).bind fun t193 => ((quat_sum.f k (([t190, t191, wrap64 (-t192), t193] : List Int))).bind fun t197 => (some (t173, t181, t189, t197))))))))))))) = some (r1, r2, r3, r4) := by first | (rw [hy178]; with_reducible exact H) | (have H2_ := (Option.bind_some _ _).symm.trans H; rw [hy178]; with_reducible exact H2_) | (have H2_ := (Option.bind_some _ _).symm.trans H; with_reducible exact H2_) | with_reducible exact H | (rw [hy178]; exact H) | exact H
 have Ny178 := Aside0.mk hy178
 clear hy178
 replace H := Option.bind_eq_some_iff.mp H
 obtain ⟨t181, A120, H⟩ := H
 replace H : ((fix_Mul.f k a0_0 a1_2).bind fun t182 => ((fix_Mul.f k a0_1 a1_3).bind fun t183 => ((fix_Mul.f k a0_2 a1_0).bind fun t184 => ((fix_Mul.f k a0_3 a1_1).bind fun t185 => ((quat_sum.f k (([t182, wrap64 (-t183), t184, t185] : List Int))).bind fun t189 => ((fix_Mul.f k a0_0 a1_3).bind fun t190 => ((fix_Mul.f k a0_1 a1_2).bind fun t191 => ((fix_Mul.f k a0_2 a1_1).bind fun t192 => ((fix_Mul.f k a0_3 a1_0).bind fun t193 => ((quat_sum.f k (([t190, t191, wrap64 (-t192), t193] : List Int))).bind fun t197 => (some (t173, t181, t189, t197)))))))))))) = some (r1, r2, r3, r4) := H
 have A12 := Aside0.mk A120
 clear A120
 replace H := Option.bind_eq_some_iff.mp H
 obtain ⟨t182, A130, H⟩ := H
 replace H : ((fix_Mul.f k a0_1 a1_3).bind fun t183 => ((fix_Mul.f k a0_2 a1_0).bind fun t184 => ((fix_Mul.f k a0_3 a1_1).bind fun t185 => ((quat_sum.f k (([t182, wrap64 (-t183), t184, t185] : List Int))).bind fun t189 => ((fix_Mul.f k a0_0 a1_3).bind fun t190 => ((fix_Mul.f k a0_1 a1_2).bind fun t191 => ((fix_Mul.f k a0_2 a1_1).bind fun t192 => ((fix_Mul.f k a0_3 a1_0).bind fun t193 => ((quat_sum.f k (([t190, t191, wrap64 (-t192), t193] : List Int))).bind fun t197 => (some (t173, t181, t189, t197))))))))))) = some (r1, r2, r3, r4) := H
 have A13 := Aside0.mk A130
 clear A130
 replace H := Option.bind_eq_some_iff.mp H
 obtain ⟨t183, A140, H⟩ := H
 replace H : ((fix_Mul.f k a0_2 a1_0).bind fun t184 => ((fix_Mul.f k a0_3 a1_1).bind fun t185 => ((quat_sum.f k (([t182, wrap64 (-t183), t184, t185] : List Int))).bind fun t189 => ((fix_Mul.f k a0_0 a1_3).bind fun t190 => ((fix_Mul.f k a0_1 a1_2).bind fun t191 => ((fix_Mul.f k a0_2 a1_1).bind fun t192 => ((fix_Mul.f k a0_3 a1_0).bind fun t193 => ((quat_sum.f k (([t190, t191, wrap64 (-t192), t193] : List Int))).bind fun t197 => (some (t173, t181, t189, t197)))))))))) = some (r1, r2, r3, r4) := H
 have A14 := Aside0.mk A140
 clear A140
 replace H := Option.bind_eq_some_iff.mp H
 obtain ⟨t184, A150, H⟩ := H
 replace H : ((fix_Mul.f k a0_3 a1_1).bind fun t185 => ((quat_sum.f k (([t182, wrap64 (-t183), t184, t185] : List Int))).bind fun t189 => ((fix_Mul.f k a0_0 a1_3).bind fun t190 => ((fix_Mul.f k a0_1 a1_2).bind fun t191 => ((fix_Mul.f k a0_2 a1_1).bind fun t192 => ((fix_Mul.f k a0_3 a1_0).bind fun t193 => ((quat_sum.f k (([t190, t191, wrap64 (-t192), t193] : List Int))).bind fun t197 => (some (t173, t181, t189, t197))))))))) = some (r1, r2, r3, r4) := H
 have A15 := Aside0.mk A150
 clear A150
 replace H := Option.bind_eq_some_iff.mp H
 obtain ⟨t185, A160, H⟩ := H
 replace H : ((quat_sum.f k (([t182, wrap64 (-t183), t184, t185] : List Int))).bind fun t189 => ((fix_Mul.f k a0_0 a1_3).bind fun t190 => ((fix_Mul.f k a0_1 a1_2).bind fun t191 => ((fix_Mul.f k a0_2 a1_1).bind fun t192 => ((fix_Mul.f k a0_3 a1_0).bind fun t193 => ((quat_sum.f k (([t190, t191, wrap64 (-t192), t193] : List Int))).bind fun t197 => (some (t173, t181, t189, t197)))))))) = some (r1, r2, r3, r4) := H
 have A16 := Aside0.mk A160
 clear A160
 obtain ⟨y186, hy186⟩ : ∃ y_ : List Int, y_ = (([t182, wrap64 (-t183), t184, t185] : List Int)) := ⟨_, rfl⟩
 replace H : ((quat_sum.f k y186).bind fun t189 => ((fix_Mul.f k a0_0 a1_3).bind fun t190 => ((fix_Mul.f k a0_1 a1_2).bind fun t191 => ((fix_Mul.f k a0_2 a1_1).bind fun t192 => ((fix_Mul.f k a0_3 a1_0).bind fun t193 => ((quat_sum.f k (([t190, t191, wrap64 (-t192), t193] : List Int))).bind fun t197 => (some (t173, t181, t189, t197)))))))) = some (r1, r2, r3, r4) := by first | (rw [hy186]; with_reducible exact H) | (have H2_ := (Option.bind_some _ _).symm.trans H; rw [hy186]; with_reducible exact H2_) | (have H2_ := (Option.bind_some _ _).symm.trans H; with_reducible exact H2_) | with_reducible exact H | (rw [hy186]; exact H) | exact H
 have Ny186 := Aside0.mk hy186
 clear hy186
 replace H := Option.bind_eq_some_iff.mp H
 obtain ⟨t189, A170, H⟩ := H
 replace H : ((fix_Mul.f k a0_0 a1_3).bind fun t190 => ((fix_Mul.f k a0_1 a1_2).bind fun t191 => ((fix_Mul.f k a0_2 a1_1).bind fun t192 => ((fix_Mul.f k a0_3 a1_0).bind fun t193 => ((quat_sum.f k (([t190, t191, wrap64 (-t192), t193] : List Int))).bind fun t197 => (some (t173, t181, t189, t197))))))) = some (r1, r2, r3, r4) := H
 have A17 := Aside0.mk A170
 clear A170
 replace H := Option.bind_eq_some_iff.mp H
 obtain ⟨t190, A180, H⟩ := H
 replace H : ((fix_Mul.f k a0_1 a1_2).bind fun t191 => ((fix_Mul.f k a0_2 a1_1).bind fun t192 => ((fix_Mul.f k a0_3 a1_0).bind fun t193 => ((quat_sum.f k (([t190, t191, wrap64 (-t192), t193] : List Int))).bind fun t197 => (some (t173, t181, t189, t197)))))) = some (r1, r2, r3, r4) := H
 have A18 := Aside0.mk A180
 clear A180
 replace H := Option.bind_eq_some_iff.mp H
 obtain ⟨t191, A190, H⟩ := H
 replace H : ((fix_Mul.f k a0_2 a1_1).bind fun t192 => ((fix_Mul.f k a0_3 a1_0).bind fun t193 => ((quat_sum.f k (([t190, t191, wrap64 (-t192), t193] : List Int))).bind fun t197 => (some (t173, t181, t189, t197))))) = some (r1, r2, r3, r4) := H
 have A19 := Aside0.mk A190
 clear A190
 replace H := Option.bind_eq_some_iff.mp H
 obtain ⟨t192, A200, H⟩ := H
 replace H : ((fix_Mul.f k a0_3 a1_0).bind fun t193 => ((quat_sum.f k (([t190, t191, wrap64 (-t192), t193] : List Int))).bind fun t197 => (some (t173, t181, t189, t197)))) = some (r1, r2, r3, r4) := H
 have A20 := Aside0.mk A200
 clear A200
 replace H := Option.bind_eq_some_iff.mp H
 obtain ⟨t193, A210, H⟩ := H
 replace H : ((quat_sum.f k (([t190, t191, wrap64 (-t192), t193] : List Int))).bind fun t197 => (some (t173, t181, t189, t197))) = some (r1, r2, r3, r4) := H
 have A21 := Aside0.mk A210
 clear A210
 obtain ⟨y194, hy194⟩ : ∃ y_ : List Int, y_ = (([t190, t191, wrap64 (-t192), t193] : List Int)) := ⟨_, rfl⟩
 replace H : ((quat_sum.f k y194).bind fun t197 => (some (t173, t181, t189, t197))) = some (r1, r2, r3, r4) := by first | (rw [hy194]; with_reducible exact H) | (have H2_ := (Option.bind_some _ _).symm.trans H; rw [hy194]; with_reducible exact H2_) | (have H2_ := (Option.bind_some _ _).symm.trans H; with_reducible exact H2_) | with_reducible exact H | (rw [hy194]; exact H) | exact H
 have Ny194 := Aside0.mk hy194
 clear hy194
 replace H := Option.bind_eq_some_iff.mp H
 obtain ⟨t197, A220, H⟩ := H
 replace H : (some (t173, t181, t189, t197)) = some (r1, r2, r3, r4) := H
 have A22 := Aside0.mk A220
 clear A220
 simp only [Option.some.injEq, Prod.mk.injEq] at H
 obtain ⟨rfl, rfl, rfl, rfl⟩ := H
 go_enter Try.func29, Try.ntmps29
 try go_wp2_with (first | ((with_reducible refine gate_dst (N := 2) rfl ?_); refine box_event ?hg (N := 2) ?hd (cs := #[.int .i64 a0_0, .int .i64 a0_1, .int .i64 a0_2, .int .i64 a0_3]) (t := 37) ?hr ?_; (case hd => rfl); (case hg => rfl); (case hr => first | (go_simp; done) | (go_simp; rfl)); intro gb163 hg w23 hbox hb; have n0_ := Aside0.mk (below_step (by repeat (first | (with_reducible first | exact HB.out | apply below_alloc | apply pw_below_drewN | apply below_drew1) | exact HB.out)) hb); have n1_ := Aside0.mk (hbox); have n2_ := Aside0.mk ((by rw [hg]; exact (below_size (by repeat (first | (with_reducible first | exact HB.out | apply below_alloc | apply pw_below_drewN | apply below_drew1) | exact HB.out))) : w.heap.size ≤ gb163)); have n3_ := Aside0.mk ((by rw [hg]; exact (below_size (by repeat (first | (with_reducible first | exact HB.out | apply below_alloc | apply pw_below_drewN | apply below_drew1) | exact HB.out))) : w.heap.size ≤ gb163)); clear HB; have HB := n0_; have BK163 := n1_; have GW163 := n2_; have GE163 := n3_; clear n0_ n1_ n2_ n3_; clear hb hbox hg) | ((with_reducible refine gate_dst (N := 3) rfl ?_); refine box_event ?hg (N := 3) ?hd (cs := #[.int .i64 a1_0, .int .i64 a1_1, .int .i64 a1_2, .int .i64 a1_3]) (t := 37) ?hr ?_; (case hd => rfl); (case hg => rfl); (case hr => first | (go_simp; done) | (go_simp; rfl)); intro gb164 hg w24 hbox hb; have n0_ := Aside0.mk (bb hb BK163.out); have n1_ := Aside0.mk (below_step (by repeat (first | (with_reducible first | exact HB.out | apply below_alloc | apply pw_below_drewN | apply below_drew1 | refine below_set ?_ GE163.out) | exact HB.out)) hb); have n2_ := Aside0.mk (hbox); have n3_ := Aside0.mk ((by rw [hg]; exact (below_size (by repeat (first | (with_reducible first | exact HB.out | apply below_alloc | apply pw_below_drewN | apply below_drew1 | refine below_set ?_ GE163.out) | exact HB.out))) : w.heap.size ≤ gb164)); have n4_ := Aside0.mk ((by rw [hg]; exact (below_size (by repeat (first | (with_reducible first | exact HB.out | apply below_alloc | apply pw_below_drewN | apply below_drew1 | refine below_set ?_ GE163.out) | exact HB.out))) : w.heap.size ≤ gb164)); have n5_ := Aside0.mk (nl hg BK163.out); have n6_ := Aside0.mk (ng hg BK163.out); clear BK163; clear HB; have BK163 := n0_; have HB := n1_; have BK164 := n2_; have GW164 := n3_; have GE164 := n4_; have NB163_164 := n5_; have NB164_163 := n6_; clear n0_ n1_ n2_ n3_ n4_ n5_ n6_; clear hb hbox hg) | ((with_reducible refine gate_dst (N := 4) rfl ?_); refine box_event ?hg (N := 4) ?hd (cs := #[.int .i64 0, .int .i64 0, .int .i64 0, .int .i64 0]) (t := 37) ?hr ?_; (case hd => rfl); (case hg => rfl); (case hr => first | (go_simp; done) | (go_simp; rfl)); intro gb165 hg w25 hbox hb; have n0_ := Aside0.mk (bb hb BK163.out); have n1_ := Aside0.mk (bb hb BK164.out); have n2_ := Aside0.mk (below_step (by repeat (first | (with_reducible first | exact HB.out | apply below_alloc | apply pw_below_drewN | apply below_drew1 | refine below_set ?_ GE163.out | refine below_set ?_ GE164.out) | exact HB.out)) hb); have n3_ := Aside0.mk (hbox); have n4_ := Aside0.mk ((by rw [hg]; exact (below_size (by repeat (first | (with_reducible first | exact HB.out | apply below_alloc | apply pw_below_drewN | apply below_drew1 | refine below_set ?_ GE163.out | refine below_set ?_ GE164.out) | exact HB.out))) : w.heap.size ≤ gb165)); have n5_ := Aside0.mk ((by rw [hg]; exact (below_size (by repeat (first | (with_reducible first | exact HB.out | apply below_alloc | apply pw_below_drewN | apply below_drew1 | refine below_set ?_ GE163.out | refine below_set ?_ GE164.out) | exact HB.out))) : w.heap.size ≤ gb165)); have n6_ := Aside0.mk (nl hg BK163.out); have n7_ := Aside0.mk (ng hg BK163.out); have n8_ := Aside0.mk (nl hg BK164.out); have n9_ := Aside0.mk (ng hg BK164.out); clear BK163; clear BK164; clear HB; have BK163 := n0_; have BK164 := n1_; have HB := n2_; have BK165 := n3_; have GW165 := n4_; have GE165 := n5_; have NB163_165 := n6_; have NB165_163 := n7_; have NB164_165 := n8_; have NB165_164 := n9_; clear n0_ n1_ n2_ n3_ n4_ n5_ n6_ n7_ n8_ n9_; clear hb hbox hg))
 have n0_ := Aside0.mk (blk_drew BK163.out)
 have n1_ := Aside0.mk (blk_drew BK164.out)
 have n2_ := Aside0.mk (blk_drew BK165.out)
 have n3_ := Aside0.mk (below_drew1 HB.out)
 clear BK163
 clear BK164
 clear BK165
 clear HB
 have BK163 := n0_
 have BK164 := n1_
 have BK165 := n2_
 have HB := n3_
 clear n0_ n1_ n2_ n3_
 refine start_ (n := 112) (S := fun w' => w'.cell? ⟨gb163, 0, none⟩ = some (.int .i64 a0_0) ∧ w'.cell? ⟨gb163, 1, none⟩ = some (.int .i64 a0_1) ∧ w'.cell? ⟨gb163, 2, none⟩ = some (.int .i64 a0_2) ∧ w'.cell? ⟨gb163, 3, none⟩ = some (.int .i64 a0_3) ∧ w'.cell? ⟨gb164, 0, none⟩ = some (.int .i64 a1_0) ∧ w'.cell? ⟨gb164, 1, none⟩ = some (.int .i64 a1_1) ∧ w'.cell? ⟨gb164, 2, none⟩ = some (.int .i64 a1_2) ∧ w'.cell? ⟨gb164, 3, none⟩ = some (.int .i64 a1_3)) (ds := []) (ab 112 0) (by kernel_rfl) rfl rfl ⟨(blk_cell BK163.out 0).trans rfl, (blk_cell BK163.out 1).trans rfl, (blk_cell BK163.out 2).trans rfl, (blk_cell BK163.out 3).trans rfl, (blk_cell BK164.out 0).trans rfl, (blk_cell BK164.out 1).trans rfl, (blk_cell BK164.out 2).trans rfl, (blk_cell BK164.out 3).trans rfl⟩ (fun hHeld => ?_); refine with_tabW quat_Mul.tab2 quat_Mul.bits2 (fun HT_ HW_ => ?_)
 generalize w25.drew = w26 at BK163 BK164 BK165 HB hHeld ⊢
 refine pure_ (i := 0) (N := some 6) (v := ?_) (a' := ?_) (ab 112 1) rfl rfl (any_of HT_.out (by kernel_rfl)) (fun _ _ _ h => h) (Or.inl ⟨by rfl, ?_⟩) ?_ ?_
 rotate_left
 ·intro w'
  go_simp
  with_reducible rfl
 rotate_left
 ·simp only [Act.put, zq1, zq2, zq3, i64_w, i32_w]
  rfl
 refine pure_ (i := 1) (N := some 7) (v := ?_) (a' := ?_) (ab 112 3) rfl rfl (any_of HT_.out (by kernel_rfl)) (fun _ _ _ h => h) (Or.inl ⟨by rfl, ?_⟩) ?_ ?_
 rotate_left
 ·intro w'
  go_simp
  with_reducible rfl
 rotate_left
 ·simp only [Act.put, zq1, zq2, zq3, i64_w, i32_w]
  rfl
 refine pure_ (i := 3) (N := some 9) (v := ?_) (a' := ?_) (ab 112 11) rfl rfl (any_of HT_.out (by kernel_rfl)) (fun _ _ _ h => h) (Or.inl ⟨by rfl, ?_⟩) ?_ ?_
 rotate_left
 ·intro w'
  go_simp
  with_reducible rfl
 rotate_left
 ·simp only [Act.put, zq1, zq2, zq3, i64_w, i32_w]
  rfl
 refine pure_ (i := 6) (N := some 12) (v := ?_) (a' := ?_) (ab 112 75) rfl rfl (any_of HT_.out (by kernel_rfl)) (fun _ _ _ h => h) (Or.inl ⟨by rfl, ?_⟩) ?_ ?_
 rotate_left
 ·intro w'
  go_simp
  with_reducible rfl
 rotate_left
 ·simp only [Act.put, zq1, zq2, zq3, i64_w, i32_w]
  rfl
 refine pure_ (i := 7) (N := some 13) (v := ?_) (a' := ?_) (ab 112 203) rfl rfl (any_of HT_.out (by kernel_rfl)) (fun _ _ _ h => h) (Or.inl ⟨by rfl, ?_⟩) ?_ ?_
 rotate_left
 ·intro w'
  go_simp
  with_reducible rfl
 rotate_left
 ·simp only [Act.put, zq1, zq2, zq3, i64_w, i32_w]
  rfl
 refine pure_ (i := 9) (N := some 15) (v := ?_) (a' := ?_) (ab 112 715) rfl rfl (any_of HT_.out (by kernel_rfl)) (fun _ _ _ h => h) (Or.inl ⟨by rfl, ?_⟩) ?_ ?_
 rotate_left
 ·intro w'
  go_simp
  with_reducible rfl
 rotate_left
 ·simp only [Act.put, zq1, zq2, zq3, i64_w, i32_w]
  rfl
 refine pure_ (i := 13) (N := some 19) (v := ?_) (a' := ?_) (ab 112 8907) rfl rfl (any_of HT_.out (by kernel_rfl)) (fun _ _ _ h => h) (Or.inl ⟨by rfl, ?_⟩) ?_ ?_
 rotate_left
 ·intro w'
  go_simp
  with_reducible rfl
 rotate_left
 ·simp only [Act.put, zq1, zq2, zq3, i64_w, i32_w]
  rfl
 refine pure_ (i := 14) (N := some 20) (v := ?_) (a' := ?_) (ab 112 25291) rfl rfl (any_of HT_.out (by kernel_rfl)) (fun _ _ _ h => h) (Or.inl ⟨by rfl, ?_⟩) ?_ ?_
 rotate_left
 ·intro w'
  go_simp
  with_reducible rfl
 rotate_left
 ·simp only [Act.put, zq1, zq2, zq3, i64_w, i32_w]
  rfl
 refine pure_ (i := 16) (N := some 22) (v := ?_) (a' := ?_) (ab 112 90827) rfl rfl (any_of HT_.out (by kernel_rfl)) (fun _ _ _ h => h) (Or.inl ⟨by rfl, ?_⟩) ?_ ?_
 rotate_left
 ·intro w'
  go_simp
  with_reducible rfl
 rotate_left
 ·simp only [Act.put, zq1, zq2, zq3, i64_w, i32_w]
  rfl
 refine pure_ (i := 20) (N := some 26) (v := ?_) (a' := ?_) (ab 112 1139403) rfl rfl (any_of HT_.out (by kernel_rfl)) (fun _ _ _ h => h) (Or.inl ⟨by rfl, ?_⟩) ?_ ?_
 rotate_left
 ·intro w'
  go_simp
  with_reducible rfl
 rotate_left
 ·simp only [Act.put, zq1, zq2, zq3, i64_w, i32_w]
  rfl
 refine pure_ (i := 21) (N := some 27) (v := ?_) (a' := ?_) (ab 112 3236555) rfl rfl (any_of HT_.out (by kernel_rfl)) (fun _ _ _ h => h) (Or.inl ⟨by rfl, ?_⟩) ?_ ?_
 rotate_left
 ·intro w'
  go_simp
  with_reducible rfl
 rotate_left
 ·simp only [Act.put, zq1, zq2, zq3, i64_w, i32_w]
  rfl
 refine pure_ (i := 23) (N := some 29) (v := ?_) (a' := ?_) (ab 112 11625163) rfl rfl (any_of HT_.out (by kernel_rfl)) (fun _ _ _ h => h) (Or.inl ⟨by rfl, ?_⟩) ?_ ?_
 rotate_left
 ·intro w'
  go_simp
  with_reducible rfl
 rotate_left
 ·simp only [Act.put, zq1, zq2, zq3, i64_w, i32_w]
  rfl
 refine pure_ (i := 29) (N := some 35) (v := ?_) (a' := ?_) (ab 112 548496075) rfl rfl (any_of HT_.out (by kernel_rfl)) (fun _ _ _ h => h) (Or.inl ⟨by rfl, ?_⟩) ?_ ?_
 rotate_left
 ·intro w'
  go_simp
  with_reducible rfl
 rotate_left
 ·simp only [Act.put, zq1, zq2, zq3, i64_w, i32_w]
  rfl
 refine pure_ (i := 30) (N := some 36) (v := ?_) (a' := ?_) (ab 112 1622237899) rfl rfl (any_of HT_.out (by kernel_rfl)) (fun _ _ _ h => h) (Or.inl ⟨by rfl, ?_⟩) ?_ ?_
 rotate_left
 ·intro w'
  go_simp
  with_reducible rfl
 rotate_left
 ·simp only [Act.put, zq1, zq2, zq3, i64_w, i32_w]
  rfl
 refine pure_ (i := 32) (N := some 38) (v := ?_) (a' := ?_) (ab 112 5917205195) rfl rfl (any_of HT_.out (by kernel_rfl)) (fun _ _ _ h => h) (Or.inl ⟨by rfl, ?_⟩) ?_ ?_
 rotate_left
 ·intro w'
  go_simp
  with_reducible rfl
 rotate_left
 ·simp only [Act.put, zq1, zq2, zq3, i64_w, i32_w]
  rfl
 refine pure_ (i := 35) (N := some 41) (v := ?_) (a' := ?_) (ab 112 40276943563) rfl rfl (any_of HT_.out (by kernel_rfl)) (fun _ _ _ h => h) (Or.inl ⟨by rfl, ?_⟩) ?_ ?_
 rotate_left
 ·intro w'
  go_simp
  with_reducible rfl
 rotate_left
 ·simp only [Act.put, zq1, zq2, zq3, i64_w, i32_w]
  rfl
 refine pure_ (i := 36) (N := some 42) (v := ?_) (a' := ?_) (ab 112 108996420299) rfl rfl (any_of HT_.out (by kernel_rfl)) (fun _ _ _ h => h) (Or.inl ⟨by rfl, ?_⟩) ?_ ?_
 rotate_left
 ·intro w'
  go_simp
  with_reducible rfl
 rotate_left
 ·simp only [Act.put, zq1, zq2, zq3, i64_w, i32_w]
  rfl
 refine pure_ (i := 38) (N := some 44) (v := ?_) (a' := ?_) (ab 112 383874327243) rfl rfl (any_of HT_.out (by kernel_rfl)) (fun _ _ _ h => h) (Or.inl ⟨by rfl, ?_⟩) ?_ ?_
 rotate_left
 ·intro w'
  go_simp
  with_reducible rfl
 rotate_left
 ·simp only [Act.put, zq1, zq2, zq3, i64_w, i32_w]
  rfl
 refine pure_ (i := 41) (N := some 47) (v := ?_) (a' := ?_) (ab 112 2582897582795) rfl rfl (any_of HT_.out (by kernel_rfl)) (fun _ _ _ h => h) (Or.inl ⟨by rfl, ?_⟩) ?_ ?_
 rotate_left
 ·intro w'
  go_simp
  with_reducible rfl
 rotate_left
 ·simp only [Act.put, zq1, zq2, zq3, i64_w, i32_w]
  rfl
 refine pure_ (i := 42) (N := some 48) (v := ?_) (a' := ?_) (ab 112 6980944093899) rfl rfl (any_of HT_.out (by kernel_rfl)) (fun _ _ _ h => h) (Or.inl ⟨by rfl, ?_⟩) ?_ ?_
 rotate_left
 ·intro w'
  go_simp
  with_reducible rfl
 rotate_left
 ·simp only [Act.put, zq1, zq2, zq3, i64_w, i32_w]
  rfl
 refine pure_ (i := 44) (N := some 50) (v := ?_) (a' := ?_) (ab 112 24573130138315) rfl rfl (any_of HT_.out (by kernel_rfl)) (fun _ _ _ h => h) (Or.inl ⟨by rfl, ?_⟩) ?_ ?_
 rotate_left
 ·intro w'
  go_simp
  with_reducible rfl
 rotate_left
 ·simp only [Act.put, zq1, zq2, zq3, i64_w, i32_w]
  rfl
 refine pure_ (i := 47) (N := some 53) (v := ?_) (a' := ?_) (ab 112 165310618493643) rfl rfl (any_of HT_.out (by kernel_rfl)) (fun _ _ _ h => h) (Or.inl ⟨by rfl, ?_⟩) ?_ ?_
 rotate_left
 ·intro w'
  go_simp
  with_reducible rfl
 rotate_left
 ·simp only [Act.put, zq1, zq2, zq3, i64_w, i32_w]
  rfl
 refine pure_ (i := 48) (N := some 54) (v := ?_) (a' := ?_) (ab 112 446785595204299) rfl rfl (any_of HT_.out (by kernel_rfl)) (fun _ _ _ h => h) (Or.inl ⟨by rfl, ?_⟩) ?_ ?_
 rotate_left
 ·intro w'
  go_simp
  with_reducible rfl
 rotate_left
 ·simp only [Act.put, zq1, zq2, zq3, i64_w, i32_w]
  rfl
 refine pure_ (i := 50) (N := some 56) (v := ?_) (a' := ?_) (ab 112 1572685502046923) rfl rfl (any_of HT_.out (by kernel_rfl)) (fun _ _ _ h => h) (Or.inl ⟨by rfl, ?_⟩) ?_ ?_
 rotate_left
 ·intro w'
  go_simp
  with_reducible rfl
 rotate_left
 ·simp only [Act.put, zq1, zq2, zq3, i64_w, i32_w]
  rfl
 refine pure_ (i := 56) (N := some 62) (v := ?_) (a' := ?_) (ab 112 73630279539974859) rfl rfl (any_of HT_.out (by kernel_rfl)) (fun _ _ _ h => h) (Or.inl ⟨by rfl, ?_⟩) ?_ ?_
 rotate_left
 ·intro w'
  go_simp
  with_reducible rfl
 rotate_left
 ·simp only [Act.put, zq1, zq2, zq3, i64_w, i32_w]
  rfl
 refine pure_ (i := 57) (N := some 63) (v := ?_) (a' := ?_) (ab 112 217745467615830731) rfl rfl (any_of HT_.out (by kernel_rfl)) (fun _ _ _ h => h) (Or.inl ⟨by rfl, ?_⟩) ?_ ?_
 rotate_left
 ·intro w'
  go_simp
  with_reducible rfl
 rotate_left
 ·simp only [Act.put, zq1, zq2, zq3, i64_w, i32_w]
  rfl
 refine pure_ (i := 59) (N := some 65) (v := ?_) (a' := ?_) (ab 112 794206219919254219) rfl rfl (any_of HT_.out (by kernel_rfl)) (fun _ _ _ h => h) (Or.inl ⟨by rfl, ?_⟩) ?_ ?_
 rotate_left
 ·intro w'
  go_simp
  with_reducible rfl
 rotate_left
 ·simp only [Act.put, zq1, zq2, zq3, i64_w, i32_w]
  rfl
 refine pure_ (i := 62) (N := some 68) (v := ?_) (a' := ?_) (ab 112 5405892238346642123) rfl rfl (any_of HT_.out (by kernel_rfl)) (fun _ _ _ h => h) (Or.inl ⟨by rfl, ?_⟩) ?_ ?_
 rotate_left
 ·intro w'
  go_simp
  with_reducible rfl
 rotate_left
 ·simp only [Act.put, zq1, zq2, zq3, i64_w, i32_w]
  rfl
 refine pure_ (i := 63) (N := some 69) (v := ?_) (a' := ?_) (ab 112 14629264275201417931) rfl rfl (any_of HT_.out (by kernel_rfl)) (fun _ _ _ h => h) (Or.inl ⟨by rfl, ?_⟩) ?_ ?_
 rotate_left
 ·intro w'
  go_simp
  with_reducible rfl
 rotate_left
 ·simp only [Act.put, zq1, zq2, zq3, i64_w, i32_w]
  rfl
 refine pure_ (i := 65) (N := some 71) (v := ?_) (a' := ?_) (ab 112 51522752422620521163) rfl rfl (any_of HT_.out (by kernel_rfl)) (fun _ _ _ h => h) (Or.inl ⟨by rfl, ?_⟩) ?_ ?_
 rotate_left
 ·intro w'
  go_simp
  with_reducible rfl
 rotate_left
 ·simp only [Act.put, zq1, zq2, zq3, i64_w, i32_w]
  rfl
 refine pure_ (i := 69) (N := some 75) (v := ?_) (a' := ?_) (ab 112 641818562781326172875) rfl rfl (any_of HT_.out (by kernel_rfl)) (fun _ _ _ h => h) (Or.inl ⟨by rfl, ?_⟩) ?_ ?_
 rotate_left
 ·intro w'
  go_simp
  with_reducible rfl
 rotate_left
 ·simp only [Act.put, zq1, zq2, zq3, i64_w, i32_w]
  rfl
 refine pure_ (i := 70) (N := some 76) (v := ?_) (a' := ?_) (ab 112 1822410183498737476299) rfl rfl (any_of HT_.out (by kernel_rfl)) (fun _ _ _ h => h) (Or.inl ⟨by rfl, ?_⟩) ?_ ?_
 rotate_left
 ·intro w'
  go_simp
  with_reducible rfl
 rotate_left
 ·simp only [Act.put, zq1, zq2, zq3, i64_w, i32_w]
  rfl
 refine pure_ (i := 72) (N := some 78) (v := ?_) (a' := ?_) (ab 112 6544776666368382689995) rfl rfl (any_of HT_.out (by kernel_rfl)) (fun _ _ _ h => h) (Or.inl ⟨by rfl, ?_⟩) ?_ ?_
 rotate_left
 ·intro w'
  go_simp
  with_reducible rfl
 rotate_left
 ·simp only [Act.put, zq1, zq2, zq3, i64_w, i32_w]
  rfl
 refine pure_ (i := 75) (N := some 81) (v := ?_) (a' := ?_) (ab 112 44323708529325544399563) rfl rfl (any_of HT_.out (by kernel_rfl)) (fun _ _ _ h => h) (Or.inl ⟨by rfl, ?_⟩) ?_ ?_
 rotate_left
 ·intro w'
  go_simp
  with_reducible rfl
 rotate_left
 ·simp only [Act.put, zq1, zq2, zq3, i64_w, i32_w]
  rfl
 refine pure_ (i := 76) (N := some 82) (v := ?_) (a' := ?_) (ab 112 119881572255239867818699) rfl rfl (any_of HT_.out (by kernel_rfl)) (fun _ _ _ h => h) (Or.inl ⟨by rfl, ?_⟩) ?_ ?_
 rotate_left
 ·intro w'
  go_simp
  with_reducible rfl
 rotate_left
 ·simp only [Act.put, zq1, zq2, zq3, i64_w, i32_w]
  rfl
 refine pure_ (i := 78) (N := some 84) (v := ?_) (a' := ?_) (ab 112 422113027158897161495243) rfl rfl (any_of HT_.out (by kernel_rfl)) (fun _ _ _ h => h) (Or.inl ⟨by rfl, ?_⟩) ?_ ?_
 rotate_left
 ·intro w'
  go_simp
  with_reducible rfl
 rotate_left
 ·simp only [Act.put, zq1, zq2, zq3, i64_w, i32_w]
  rfl
 refine pure_ (i := 83) (N := some 89) (v := ?_) (a' := ?_) (ab 112 10093519584075930559144651) rfl rfl (any_of HT_.out (by kernel_rfl)) (fun _ _ _ h => h) (Or.inl ⟨by rfl, ?_⟩) ?_ ?_
 rotate_left
 ·intro w'
  go_simp
  with_reducible rfl
 rotate_left
 ·simp only [Act.put, zq1, zq2, zq3, i64_w, i32_w]
  rfl
 refine pure_ (i := 84) (N := some 90) (v := ?_) (a' := ?_) (ab 112 29436332697909997354443467) rfl rfl (any_of HT_.out (by kernel_rfl)) (fun _ _ _ h => h) (Or.inl ⟨by rfl, ?_⟩) ?_ ?_
 rotate_left
 ·intro w'
  go_simp
  with_reducible rfl
 rotate_left
 ·simp only [Act.put, zq1, zq2, zq3, i64_w, i32_w]
  rfl
 refine pure_ (i := 86) (N := some 92) (v := ?_) (a' := ?_) (ab 112 106807585153246264535638731) rfl rfl (any_of HT_.out (by kernel_rfl)) (fun _ _ _ h => h) (Or.inl ⟨by rfl, ?_⟩) ?_ ?_
 rotate_left
 ·intro w'
  go_simp
  with_reducible rfl
 rotate_left
 ·simp only [Act.put, zq1, zq2, zq3, i64_w, i32_w]
  rfl
 refine pure_ (i := 89) (N := some 95) (v := ?_) (a' := ?_) (ab 112 725777604795936401985200843) rfl rfl (any_of HT_.out (by kernel_rfl)) (fun _ _ _ h => h) (Or.inl ⟨by rfl, ?_⟩) ?_ ?_
 rotate_left
 ·intro w'
  go_simp
  with_reducible rfl
 rotate_left
 ·simp only [Act.put, zq1, zq2, zq3, i64_w, i32_w]
  rfl
 refine pure_ (i := 90) (N := some 96) (v := ?_) (a' := ?_) (ab 112 1963717644081316676884325067) rfl rfl (any_of HT_.out (by kernel_rfl)) (fun _ _ _ h => h) (Or.inl ⟨by rfl, ?_⟩) ?_ ?_
 rotate_left
 ·intro w'
  go_simp
  with_reducible rfl
 rotate_left
 ·simp only [Act.put, zq1, zq2, zq3, i64_w, i32_w]
  rfl
 refine pure_ (i := 92) (N := some 98) (v := ?_) (a' := ?_) (ab 112 6915477801222837776480821963) rfl rfl (any_of HT_.out (by kernel_rfl)) (fun _ _ _ h => h) (Or.inl ⟨by rfl, ?_⟩) ?_ ?_
 rotate_left
 ·intro w'
  go_simp
  with_reducible rfl
 rotate_left
 ·simp only [Act.put, zq1, zq2, zq3, i64_w, i32_w]
  rfl
 refine pure_ (i := 95) (N := some 101) (v := ?_) (a' := ?_) (ab 112 46529559058355006573252797131) rfl rfl (any_of HT_.out (by kernel_rfl)) (fun _ _ _ h => h) (Or.inl ⟨by rfl, ?_⟩) ?_ ?_
 rotate_left
 ·intro w'
  go_simp
  with_reducible rfl
 rotate_left
 ·simp only [Act.put, zq1, zq2, zq3, i64_w, i32_w]
  rfl
 refine pure_ (i := 96) (N := some 102) (v := ?_) (a' := ?_) (ab 112 125757721572619344166796747467) rfl rfl (any_of HT_.out (by kernel_rfl)) (fun _ _ _ h => h) (Or.inl ⟨by rfl, ?_⟩) ?_ ?_
 rotate_left
 ·intro w'
  go_simp
  with_reducible rfl
 rotate_left
 ·simp only [Act.put, zq1, zq2, zq3, i64_w, i32_w]
  rfl
 refine pure_ (i := 98) (N := some 104) (v := ?_) (a' := ?_) (ab 112 442670371629676694540972548811) rfl rfl (any_of HT_.out (by kernel_rfl)) (fun _ _ _ h => h) (Or.inl ⟨by rfl, ?_⟩) ?_ ?_
 rotate_left
 ·intro w'
  go_simp
  with_reducible rfl
 rotate_left
 ·simp only [Act.put, zq1, zq2, zq3, i64_w, i32_w]
  rfl
 refine pure_ (i := 102) (N := some 108) (v := ?_) (a' := ?_) (ab 112 5513272772542594300527785370315) rfl rfl (any_of HT_.out (by kernel_rfl)) (fun _ _ _ h => h) (Or.inl ⟨by rfl, ?_⟩) ?_ ?_
 rotate_left
 ·intro w'
  go_simp
  with_reducible rfl
 rotate_left
 ·simp only [Act.put, zq1, zq2, zq3, i64_w, i32_w]
  rfl
 refine pure_ (i := 103) (N := some 109) (v := ?_) (a' := ?_) (ab 112 15654477574368429512501411013323) rfl rfl (any_of HT_.out (by kernel_rfl)) (fun _ _ _ h => h) (Or.inl ⟨by rfl, ?_⟩) ?_ ?_
 rotate_left
 ·intro w'
  go_simp
  with_reducible rfl
 rotate_left
 ·simp only [Act.put, zq1, zq2, zq3, i64_w, i32_w]
  rfl
 refine pure_ (i := 105) (N := some 111) (v := ?_) (a' := ?_) (ab 112 56219296781671770360395913585355) rfl rfl (any_of HT_.out (by kernel_rfl)) (fun _ _ _ h => h) (Or.inl ⟨by rfl, ?_⟩) ?_ ?_
 rotate_left
 ·intro w'
  go_simp
  with_reducible rfl
 rotate_left
 ·simp only [Act.put, zq1, zq2, zq3, i64_w, i32_w]
  rfl
 refine take_ (i := 2) (N := some 8) (v := ?_) (a' := ?_) (ab 112 56219296781671770360395913585359) rfl rfl (take_ofW HT_.out HW_.out (by kernel_rfl)) (fun _ _ _ h => h) (Or.inl ⟨by rfl, ?_⟩) hHeld ?_ ?_
 rotate_left
 ·rintro w' ⟨s0, s1, s2, s3, s4, s5, s6, s7⟩
  go_simp
  with_reducible rfl
 rotate_left
 ·simp only [Act.put, zq1, zq2, zq3, i64_w, i32_w]
  rfl
 refine take_ (i := 4) (N := some 10) (v := ?_) (a' := ?_) (ab 112 56219296781671770360395913585375) rfl rfl (take_ofW HT_.out HW_.out (by kernel_rfl)) (fun _ _ _ h => h) (Or.inl ⟨by rfl, ?_⟩) hHeld ?_ ?_
 rotate_left
 ·rintro w' ⟨s0, s1, s2, s3, s4, s5, s6, s7⟩
  go_simp
  with_reducible rfl
 rotate_left
 ·simp only [Act.put, zq1, zq2, zq3, i64_w, i32_w]
  rfl
 refine take_ (i := 8) (N := some 14) (v := ?_) (a' := ?_) (ab 112 56219296781671770360395913585631) rfl rfl (take_ofW HT_.out HW_.out (by kernel_rfl)) (fun _ _ _ h => h) (Or.inl ⟨by rfl, ?_⟩) hHeld ?_ ?_
 rotate_left
 ·rintro w' ⟨s0, s1, s2, s3, s4, s5, s6, s7⟩
  go_simp
  with_reducible rfl
 rotate_left
 ·simp only [Act.put, zq1, zq2, zq3, i64_w, i32_w]
  rfl
 refine take_ (i := 10) (N := some 16) (v := ?_) (a' := ?_) (ab 112 56219296781671770360395913586655) rfl rfl (take_ofW HT_.out HW_.out (by kernel_rfl)) (fun _ _ _ h => h) (Or.inl ⟨by rfl, ?_⟩) hHeld ?_ ?_
 rotate_left
 ·rintro w' ⟨s0, s1, s2, s3, s4, s5, s6, s7⟩
  go_simp
  with_reducible rfl
 rotate_left
 ·simp only [Act.put, zq1, zq2, zq3, i64_w, i32_w]
  rfl
 refine take_ (i := 15) (N := some 21) (v := ?_) (a' := ?_) (ab 112 56219296781671770360395913619423) rfl rfl (take_ofW HT_.out HW_.out (by kernel_rfl)) (fun _ _ _ h => h) (Or.inl ⟨by rfl, ?_⟩) hHeld ?_ ?_
 rotate_left
 ·rintro w' ⟨s0, s1, s2, s3, s4, s5, s6, s7⟩
  go_simp
  with_reducible rfl
 rotate_left
 ·simp only [Act.put, zq1, zq2, zq3, i64_w, i32_w]
  rfl
 refine take_ (i := 17) (N := some 23) (v := ?_) (a' := ?_) (ab 112 56219296781671770360395913750495) rfl rfl (take_ofW HT_.out HW_.out (by kernel_rfl)) (fun _ _ _ h => h) (Or.inl ⟨by rfl, ?_⟩) hHeld ?_ ?_
 rotate_left
 ·rintro w' ⟨s0, s1, s2, s3, s4, s5, s6, s7⟩
  go_simp
  with_reducible rfl
 rotate_left
 ·simp only [Act.put, zq1, zq2, zq3, i64_w, i32_w]
  rfl
 refine take_ (i := 22) (N := some 28) (v := ?_) (a' := ?_) (ab 112 56219296781671770360395917944799) rfl rfl (take_ofW HT_.out HW_.out (by kernel_rfl)) (fun _ _ _ h => h) (Or.inl ⟨by rfl, ?_⟩) hHeld ?_ ?_
 rotate_left
 ·rintro w' ⟨s0, s1, s2, s3, s4, s5, s6, s7⟩
  go_simp
  with_reducible rfl
 rotate_left
 ·simp only [Act.put, zq1, zq2, zq3, i64_w, i32_w]
  rfl
 refine take_ (i := 24) (N := some 30) (v := ?_) (a' := ?_) (ab 112 56219296781671770360395934722015) rfl rfl (take_ofW HT_.out HW_.out (by kernel_rfl)) (fun _ _ _ h => h) (Or.inl ⟨by rfl, ?_⟩) hHeld ?_ ?_
 rotate_left
 ·rintro w' ⟨s0, s1, s2, s3, s4, s5, s6, s7⟩
  go_simp
  with_reducible rfl
 rotate_left
 ·simp only [Act.put, zq1, zq2, zq3, i64_w, i32_w]
  rfl
 refine take_ (i := 31) (N := some 37) (v := ?_) (a' := ?_) (ab 112 56219296781671770360398082205663) rfl rfl (take_ofW HT_.out HW_.out (by kernel_rfl)) (fun _ _ _ h => h) (Or.inl ⟨by rfl, ?_⟩) hHeld ?_ ?_
 rotate_left
 ·rintro w' ⟨s0, s1, s2, s3, s4, s5, s6, s7⟩
  go_simp
  with_reducible rfl
 rotate_left
 ·simp only [Act.put, zq1, zq2, zq3, i64_w, i32_w]
  rfl
 refine take_ (i := 33) (N := some 39) (v := ?_) (a' := ?_) (ab 112 56219296781671770360406672140255) rfl rfl (take_ofW HT_.out HW_.out (by kernel_rfl)) (fun _ _ _ h => h) (Or.inl ⟨by rfl, ?_⟩) hHeld ?_ ?_
 rotate_left
 ·rintro w' ⟨s0, s1, s2, s3, s4, s5, s6, s7⟩
  go_simp
  with_reducible rfl
 rotate_left
 ·simp only [Act.put, zq1, zq2, zq3, i64_w, i32_w]
  rfl
 refine take_ (i := 37) (N := some 43) (v := ?_) (a' := ?_) (ab 112 56219296781671770360544111093727) rfl rfl (take_ofW HT_.out HW_.out (by kernel_rfl)) (fun _ _ _ h => h) (Or.inl ⟨by rfl, ?_⟩) hHeld ?_ ?_
 rotate_left
 ·rintro w' ⟨s0, s1, s2, s3, s4, s5, s6, s7⟩
  go_simp
  with_reducible rfl
 rotate_left
 ·simp only [Act.put, zq1, zq2, zq3, i64_w, i32_w]
  rfl
 refine take_ (i := 39) (N := some 45) (v := ?_) (a' := ?_) (ab 112 56219296781671770361093866907615) rfl rfl (take_ofW HT_.out HW_.out (by kernel_rfl)) (fun _ _ _ h => h) (Or.inl ⟨by rfl, ?_⟩) hHeld ?_ ?_
 rotate_left
 ·rintro w' ⟨s0, s1, s2, s3, s4, s5, s6, s7⟩
  go_simp
  with_reducible rfl
 rotate_left
 ·simp only [Act.put, zq1, zq2, zq3, i64_w, i32_w]
  rfl
 refine take_ (i := 43) (N := some 49) (v := ?_) (a' := ?_) (ab 112 56219296781671770369889959929823) rfl rfl (take_ofW HT_.out HW_.out (by kernel_rfl)) (fun _ _ _ h => h) (Or.inl ⟨by rfl, ?_⟩) hHeld ?_ ?_
 rotate_left
 ·rintro w' ⟨s0, s1, s2, s3, s4, s5, s6, s7⟩
  go_simp
  with_reducible rfl
 rotate_left
 ·simp only [Act.put, zq1, zq2, zq3, i64_w, i32_w]
  rfl
 refine take_ (i := 45) (N := some 51) (v := ?_) (a' := ?_) (ab 112 56219296781671770405074332018655) rfl rfl (take_ofW HT_.out HW_.out (by kernel_rfl)) (fun _ _ _ h => h) (Or.inl ⟨by rfl, ?_⟩) hHeld ?_ ?_
 rotate_left
 ·rintro w' ⟨s0, s1, s2, s3, s4, s5, s6, s7⟩
  go_simp
  with_reducible rfl
 rotate_left
 ·simp only [Act.put, zq1, zq2, zq3, i64_w, i32_w]
  rfl
 refine take_ (i := 49) (N := some 55) (v := ?_) (a' := ?_) (ab 112 56219296781671770968024285439967) rfl rfl (take_ofW HT_.out HW_.out (by kernel_rfl)) (fun _ _ _ h => h) (Or.inl ⟨by rfl, ?_⟩) hHeld ?_ ?_
 rotate_left
 ·rintro w' ⟨s0, s1, s2, s3, s4, s5, s6, s7⟩
  go_simp
  with_reducible rfl
 rotate_left
 ·simp only [Act.put, zq1, zq2, zq3, i64_w, i32_w]
  rfl
 refine take_ (i := 51) (N := some 57) (v := ?_) (a' := ?_) (ab 112 56219296781671773219824099125215) rfl rfl (take_ofW HT_.out HW_.out (by kernel_rfl)) (fun _ _ _ h => h) (Or.inl ⟨by rfl, ?_⟩) hHeld ?_ ?_
 rotate_left
 ·rintro w' ⟨s0, s1, s2, s3, s4, s5, s6, s7⟩
  go_simp
  with_reducible rfl
 rotate_left
 ·simp only [Act.put, zq1, zq2, zq3, i64_w, i32_w]
  rfl
 refine take_ (i := 58) (N := some 64) (v := ?_) (a' := ?_) (ab 112 56219296781672061450200250836959) rfl rfl (take_ofW HT_.out HW_.out (by kernel_rfl)) (fun _ _ _ h => h) (Or.inl ⟨by rfl, ?_⟩) hHeld ?_ ?_
 rotate_left
 ·rintro w' ⟨s0, s1, s2, s3, s4, s5, s6, s7⟩
  go_simp
  with_reducible rfl
 rotate_left
 ·simp only [Act.put, zq1, zq2, zq3, i64_w, i32_w]
  rfl
 refine take_ (i := 60) (N := some 66) (v := ?_) (a' := ?_) (ab 112 56219296781673214371704857683935) rfl rfl (take_ofW HT_.out HW_.out (by kernel_rfl)) (fun _ _ _ h => h) (Or.inl ⟨by rfl, ?_⟩) hHeld ?_ ?_
 rotate_left
 ·rintro w' ⟨s0, s1, s2, s3, s4, s5, s6, s7⟩
  go_simp
  with_reducible rfl
 rotate_left
 ·simp only [Act.put, zq1, zq2, zq3, i64_w, i32_w]
  rfl
 refine take_ (i := 64) (N := some 70) (v := ?_) (a' := ?_) (ab 112 56219296781691661115778567235551) rfl rfl (take_ofW HT_.out HW_.out (by kernel_rfl)) (fun _ _ _ h => h) (Or.inl ⟨by rfl, ?_⟩) hHeld ?_ ?_
 rotate_left
 ·rintro w' ⟨s0, s1, s2, s3, s4, s5, s6, s7⟩
  go_simp
  with_reducible rfl
 rotate_left
 ·simp only [Act.put, zq1, zq2, zq3, i64_w, i32_w]
  rfl
 refine take_ (i := 66) (N := some 72) (v := ?_) (a' := ?_) (ab 112 56219296781765448092073405442015) rfl rfl (take_ofW HT_.out HW_.out (by kernel_rfl)) (fun _ _ _ h => h) (Or.inl ⟨by rfl, ?_⟩) hHeld ?_ ?_
 rotate_left
 ·rintro w' ⟨s0, s1, s2, s3, s4, s5, s6, s7⟩
  go_simp
  with_reducible rfl
 rotate_left
 ·simp only [Act.put, zq1, zq2, zq3, i64_w, i32_w]
  rfl
 refine take_ (i := 71) (N := some 77) (v := ?_) (a' := ?_) (ab 112 56219296784126631333508228048863) rfl rfl (take_ofW HT_.out HW_.out (by kernel_rfl)) (fun _ _ _ h => h) (Or.inl ⟨by rfl, ?_⟩) hHeld ?_ ?_
 rotate_left
 ·rintro w' ⟨s0, s1, s2, s3, s4, s5, s6, s7⟩
  go_simp
  with_reducible rfl
 rotate_left
 ·simp only [Act.put, zq1, zq2, zq3, i64_w, i32_w]
  rfl
 refine take_ (i := 73) (N := some 79) (v := ?_) (a' := ?_) (ab 112 56219296793571364299247518476255) rfl rfl (take_ofW HT_.out HW_.out (by kernel_rfl)) (fun _ _ _ h => h) (Or.inl ⟨by rfl, ?_⟩) hHeld ?_ ?_
 rotate_left
 ·rintro w' ⟨s0, s1, s2, s3, s4, s5, s6, s7⟩
  go_simp
  with_reducible rfl
 rotate_left
 ·simp only [Act.put, zq1, zq2, zq3, i64_w, i32_w]
  rfl
 refine take_ (i := 77) (N := some 83) (v := ?_) (a' := ?_) (ab 112 56219296944687091751076165314527) rfl rfl (take_ofW HT_.out HW_.out (by kernel_rfl)) (fun _ _ _ h => h) (Or.inl ⟨by rfl, ?_⟩) hHeld ?_ ?_
 rotate_left
 ·rintro w' ⟨s0, s1, s2, s3, s4, s5, s6, s7⟩
  go_simp
  with_reducible rfl
 rotate_left
 ·simp only [Act.put, zq1, zq2, zq3, i64_w, i32_w]
  rfl
 refine take_ (i := 79) (N := some 85) (v := ?_) (a' := ?_) (ab 112 56219297549150001558390752667615) rfl rfl (take_ofW HT_.out HW_.out (by kernel_rfl)) (fun _ _ _ h => h) (Or.inl ⟨by rfl, ?_⟩) hHeld ?_ ?_
 rotate_left
 ·rintro w' ⟨s0, s1, s2, s3, s4, s5, s6, s7⟩
  go_simp
  with_reducible rfl
 rotate_left
 ·simp only [Act.put, zq1, zq2, zq3, i64_w, i32_w]
  rfl
 refine take_ (i := 85) (N := some 91) (v := ?_) (a' := ?_) (ab 112 56219336234776229226524343265247) rfl rfl (take_ofW HT_.out HW_.out (by kernel_rfl)) (fun _ _ _ h => h) (Or.inl ⟨by rfl, ?_⟩) hHeld ?_ ?_
 rotate_left
 ·rintro w' ⟨s0, s1, s2, s3, s4, s5, s6, s7⟩
  go_simp
  with_reducible rfl
 rotate_left
 ·simp only [Act.put, zq1, zq2, zq3, i64_w, i32_w]
  rfl
 refine take_ (i := 87) (N := some 93) (v := ?_) (a' := ?_) (ab 112 56219490977281139899058705655775) rfl rfl (take_ofW HT_.out HW_.out (by kernel_rfl)) (fun _ _ _ h => h) (Or.inl ⟨by rfl, ?_⟩) hHeld ?_ ?_
 rotate_left
 ·rintro w' ⟨s0, s1, s2, s3, s4, s5, s6, s7⟩
  go_simp
  with_reducible rfl
 rotate_left
 ·simp only [Act.put, zq1, zq2, zq3, i64_w, i32_w]
  rfl
 refine take_ (i := 91) (N := some 97) (v := ?_) (a' := ?_) (ab 112 56221966857359710659608503904223) rfl rfl (take_ofW HT_.out HW_.out (by kernel_rfl)) (fun _ _ _ h => h) (Or.inl ⟨by rfl, ?_⟩) hHeld ?_ ?_
 rotate_left
 ·rintro w' ⟨s0, s1, s2, s3, s4, s5, s6, s7⟩
  go_simp
  with_reducible rfl
 rotate_left
 ·simp only [Act.put, zq1, zq2, zq3, i64_w, i32_w]
  rfl
 refine take_ (i := 93) (N := some 99) (v := ?_) (a' := ?_) (ab 112 56231870377673993701807696898015) rfl rfl (take_ofW HT_.out HW_.out (by kernel_rfl)) (fun _ _ _ h => h) (Or.inl ⟨by rfl, ?_⟩) hHeld ?_ ?_
 rotate_left
 ·rintro w' ⟨s0, s1, s2, s3, s4, s5, s6, s7⟩
  go_simp
  with_reducible rfl
 rotate_left
 ·simp only [Act.put, zq1, zq2, zq3, i64_w, i32_w]
  rfl
 refine take_ (i := 97) (N := some 103) (v := ?_) (a' := ?_) (ab 112 56390326702702522376994784798687) rfl rfl (take_ofW HT_.out HW_.out (by kernel_rfl)) (fun _ _ _ h => h) (Or.inl ⟨by rfl, ?_⟩) hHeld ?_ ?_
 rotate_left
 ·rintro w' ⟨s0, s1, s2, s3, s4, s5, s6, s7⟩
  go_simp
  with_reducible rfl
 rotate_left
 ·simp only [Act.put, zq1, zq2, zq3, i64_w, i32_w]
  rfl
 refine take_ (i := 99) (N := some 105) (v := ?_) (a' := ?_) (ab 112 57024152002816637077743136401375) rfl rfl (take_ofW HT_.out HW_.out (by kernel_rfl)) (fun _ _ _ h => h) (Or.inl ⟨by rfl, ?_⟩) hHeld ?_ ?_
 rotate_left
 ·rintro w' ⟨s0, s1, s2, s3, s4, s5, s6, s7⟩
  go_simp
  with_reducible rfl
 rotate_left
 ·simp only [Act.put, zq1, zq2, zq3, i64_w, i32_w]
  rfl
 refine take_ (i := 104) (N := some 110) (v := ?_) (a' := ?_) (ab 112 77306561606468307501690387687391) rfl rfl (take_ofW HT_.out HW_.out (by kernel_rfl)) (fun _ _ _ h => h) (Or.inl ⟨by rfl, ?_⟩) hHeld ?_ ?_
 rotate_left
 ·rintro w' ⟨s0, s1, s2, s3, s4, s5, s6, s7⟩
  go_simp
  with_reducible rfl
 rotate_left
 ·simp only [Act.put, zq1, zq2, zq3, i64_w, i32_w]
  rfl
 refine take_ (i := 106) (N := some 112) (v := ?_) (a' := ?_) (ab 112 158436200021074989197479392831455) rfl rfl (take_ofW HT_.out HW_.out (by kernel_rfl)) (fun _ _ _ h => h) (Or.inl ⟨by rfl, ?_⟩) hHeld ?_ ?_
 rotate_left
 ·rintro w' ⟨s0, s1, s2, s3, s4, s5, s6, s7⟩
  go_simp
  with_reducible rfl
 rotate_left
 ·simp only [Act.put, zq1, zq2, zq3, i64_w, i32_w]
  rfl
 refine one_ (i := 5) (N := some 11) (ab 112 158436200021074989197479392831487) rfl rfl (one_of HT_.out (by kernel_rfl)) (by decide) (fun K hK => ?_)
 refine goesR_ Try.func24 (by kernel_rfl) rfl #[.int .i64 a0_0, .int .i64 a1_0] (by rfl) rfl rfl (by (try simp only [zm1, zm2, zm3]); first | done | rfl) ?_
 with_reducible refine (fix_Mul.calls k a0_0 a1_0 t166 _ A3.out).mono ?_
 rintro e w27 ⟨rfl, hb⟩
 refine ⟨_, rfl, ?_⟩
 have n0_ := Aside0.mk (bb hb BK163.out)
 have n1_ := Aside0.mk (bb hb BK164.out)
 have n2_ := Aside0.mk (bb hb BK165.out)
 have n3_ := Aside0.mk (below_step (by repeat (first | (with_reducible first | exact HB.out | apply below_alloc | apply pw_below_drewN | apply below_drew1 | refine below_set ?_ GE163.out | refine below_set ?_ GE164.out | refine below_set ?_ GE165.out) | exact HB.out)) hb)
 clear BK163
 clear BK164
 clear BK165
 clear HB
 have BK163 := n0_
 have BK164 := n1_
 have BK165 := n2_
 have HB := n3_
 clear n0_ n1_ n2_ n3_
 (try clear hb)
 (try clear hb2)
 (try clear hk)
 (try clear hi)
 refine hK.out _ _ ⟨(blk_cell BK163.out 0).trans rfl, (blk_cell BK163.out 1).trans rfl, (blk_cell BK163.out 2).trans rfl, (blk_cell BK163.out 3).trans rfl, (blk_cell BK164.out 0).trans rfl, (blk_cell BK164.out 1).trans rfl, (blk_cell BK164.out 2).trans rfl, (blk_cell BK164.out 3).trans rfl⟩ (fun hHeld => ?_)
 clear hK K
 refine norm_ (a' := ?_) ?_ ?_
 rotate_left
 ·show Act.put _ (some 11) _ = _
  simp only [Act.put, zq1, zq2, zq3, i64_w, i32_w]
  rfl
 refine one_ (i := 11) (N := some 17) (ab 112 158436200021074989197479392833535) rfl rfl (one_of HT_.out (by kernel_rfl)) (by decide) (fun K hK => ?_)
 refine goesR_ Try.func24 (by kernel_rfl) rfl #[.int .i64 a0_1, .int .i64 a1_1] (by rfl) rfl rfl (by (try simp only [zm1, zm2, zm3]); first | done | rfl) ?_
 with_reducible refine (fix_Mul.calls k a0_1 a1_1 t167 _ A4.out).mono ?_
 rintro e w28 ⟨rfl, hb⟩
 refine ⟨_, rfl, ?_⟩
 have n0_ := Aside0.mk (bb hb BK163.out)
 have n1_ := Aside0.mk (bb hb BK164.out)
 have n2_ := Aside0.mk (bb hb BK165.out)
 have n3_ := Aside0.mk (below_step (by repeat (first | (with_reducible first | exact HB.out | apply below_alloc | apply pw_below_drewN | apply below_drew1 | refine below_set ?_ GE163.out | refine below_set ?_ GE164.out | refine below_set ?_ GE165.out) | exact HB.out)) hb)
 clear BK163
 clear BK164
 clear BK165
 clear HB
 have BK163 := n0_
 have BK164 := n1_
 have BK165 := n2_
 have HB := n3_
 clear n0_ n1_ n2_ n3_
 (try clear hb)
 (try clear hb2)
 (try clear hk)
 (try clear hi)
 refine hK.out _ _ ⟨(blk_cell BK163.out 0).trans rfl, (blk_cell BK163.out 1).trans rfl, (blk_cell BK163.out 2).trans rfl, (blk_cell BK163.out 3).trans rfl, (blk_cell BK164.out 0).trans rfl, (blk_cell BK164.out 1).trans rfl, (blk_cell BK164.out 2).trans rfl, (blk_cell BK164.out 3).trans rfl⟩ (fun hHeld => ?_)
 clear hK K
 refine norm_ (a' := ?_) ?_ ?_
 rotate_left
 ·show Act.put _ (some 17) _ = _
  simp only [Act.put, zq1, zq2, zq3, i64_w, i32_w]
  rfl
 refine pure_ (i := 12) (N := some 18) (v := ?_) (a' := ?_) (ab 112 158436200021074989197479392837631) rfl rfl (any_of HT_.out (by kernel_rfl)) (fun _ _ _ h => h) (Or.inl ⟨by rfl, ?_⟩) ?_ ?_
 rotate_left
 ·intro w'
  go_simp
  with_reducible rfl
 rotate_left
 ·simp only [Act.put, zq1, zq2, zq3, i64_w, i32_w]
  rfl
 refine one_ (i := 18) (N := some 24) (ab 112 158436200021074989197479393099775) rfl rfl (one_of HT_.out (by kernel_rfl)) (by decide) (fun K hK => ?_)
 refine goesR_ Try.func24 (by kernel_rfl) rfl #[.int .i64 a0_2, .int .i64 a1_2] (by rfl) rfl rfl (by (try simp only [zm1, zm2, zm3]); first | done | rfl) ?_
 with_reducible refine (fix_Mul.calls k a0_2 a1_2 t168 _ A5.out).mono ?_
 rintro e w29 ⟨rfl, hb⟩
 refine ⟨_, rfl, ?_⟩
 have n0_ := Aside0.mk (bb hb BK163.out)
 have n1_ := Aside0.mk (bb hb BK164.out)
 have n2_ := Aside0.mk (bb hb BK165.out)
 have n3_ := Aside0.mk (below_step (by repeat (first | (with_reducible first | exact HB.out | apply below_alloc | apply pw_below_drewN | apply below_drew1 | refine below_set ?_ GE163.out | refine below_set ?_ GE164.out | refine below_set ?_ GE165.out) | exact HB.out)) hb)
 clear BK163
 clear BK164
 clear BK165
 clear HB
 have BK163 := n0_
 have BK164 := n1_
 have BK165 := n2_
 have HB := n3_
 clear n0_ n1_ n2_ n3_
 (try clear hb)
 (try clear hb2)
 (try clear hk)
 (try clear hi)
 refine hK.out _ _ ⟨(blk_cell BK163.out 0).trans rfl, (blk_cell BK163.out 1).trans rfl, (blk_cell BK163.out 2).trans rfl, (blk_cell BK163.out 3).trans rfl, (blk_cell BK164.out 0).trans rfl, (blk_cell BK164.out 1).trans rfl, (blk_cell BK164.out 2).trans rfl, (blk_cell BK164.out 3).trans rfl⟩ (fun hHeld => ?_)
 clear hK K
 refine norm_ (a' := ?_) ?_ ?_
 rotate_left
 ·show Act.put _ (some 24) _ = _
  simp only [Act.put, zq1, zq2, zq3, i64_w, i32_w]
  rfl
 refine pure_ (i := 19) (N := some 25) (v := ?_) (a' := ?_) (ab 112 158436200021074989197479393624063) rfl rfl (any_of HT_.out (by kernel_rfl)) (fun _ _ _ h => h) (Or.inl ⟨by rfl, ?_⟩) ?_ ?_
 rotate_left
 ·intro w'
  go_simp
  with_reducible rfl
 rotate_left
 ·simp only [Act.put, zq1, zq2, zq3, i64_w, i32_w]
  rfl
 refine one_ (i := 25) (N := some 31) (ab 112 158436200021074989197479427178495) rfl rfl (one_of HT_.out (by kernel_rfl)) (by decide) (fun K hK => ?_)
 refine goesR_ Try.func24 (by kernel_rfl) rfl #[.int .i64 a0_3, .int .i64 a1_3] (by rfl) rfl rfl (by (try simp only [zm1, zm2, zm3]); first | done | rfl) ?_
 with_reducible refine (fix_Mul.calls k a0_3 a1_3 t169 _ A6.out).mono ?_
 rintro e w30 ⟨rfl, hb⟩
 refine ⟨_, rfl, ?_⟩
 have n0_ := Aside0.mk (bb hb BK163.out)
 have n1_ := Aside0.mk (bb hb BK164.out)
 have n2_ := Aside0.mk (bb hb BK165.out)
 have n3_ := Aside0.mk (below_step (by repeat (first | (with_reducible first | exact HB.out | apply below_alloc | apply pw_below_drewN | apply below_drew1 | refine below_set ?_ GE163.out | refine below_set ?_ GE164.out | refine below_set ?_ GE165.out) | exact HB.out)) hb)
 clear BK163
 clear BK164
 clear BK165
 clear HB
 have BK163 := n0_
 have BK164 := n1_
 have BK165 := n2_
 have HB := n3_
 clear n0_ n1_ n2_ n3_
 (try clear hb)
 (try clear hb2)
 (try clear hk)
 (try clear hi)
 refine hK.out _ _ ⟨(blk_cell BK163.out 0).trans rfl, (blk_cell BK163.out 1).trans rfl, (blk_cell BK163.out 2).trans rfl, (blk_cell BK163.out 3).trans rfl, (blk_cell BK164.out 0).trans rfl, (blk_cell BK164.out 1).trans rfl, (blk_cell BK164.out 2).trans rfl, (blk_cell BK164.out 3).trans rfl⟩ (fun hHeld => ?_)
 clear hK K
 refine norm_ (a' := ?_) ?_ ?_
 rotate_left
 ·show Act.put _ (some 31) _ = _
  simp only [Act.put, zq1, zq2, zq3, i64_w, i32_w]
  rfl
 refine pure_ (i := 26) (N := some 32) (v := ?_) (a' := ?_) (ab 112 158436200021074989197479494287359) rfl rfl (any_of HT_.out (by kernel_rfl)) (fun _ _ _ h => h) (Or.inl ⟨by rfl, ?_⟩) ?_ ?_
 rotate_left
 ·intro w'
  go_simp
  with_reducible rfl
 rotate_left
 ·simp only [Act.put, zq1, zq2, zq3, i64_w, i32_w]
  rfl
 refine one_ (i := 27) (N := some 33) (ab 112 158436200021074989197479628505087) rfl rfl (one_of HT_.out (by kernel_rfl)) (by decide) (fun K hK => ?_)
 refine Kd.R_lit_step (Kd.int .i64) _ 3 ?hg (N := 33) ?hd (xs := ([t166, wrap64 (-t167), wrap64 (-t168), wrap64 (-t169)] : List Int)) (inner := [.int .i64 t166, .int .i64 (wrap64 (-t167)), .int .i64 (wrap64 (-t168)), .int .i64 (wrap64 (-t169))]) (ok := fun _ => True) (okp := fun _ => True) ?hr ?hp (fun _ hk => hk) trivial (Below.refl _ _) (Nat.le_refl _) (by simp) ?_; (case hd => rfl); (case hg => rfl); (case hr => first | (go_simp; done) | (go_simp; rfl)); (case hp => exact (Reps.one (show Kd.M (Kd.int .i64) _ _ _ t166 [.int .i64 t166] from rfl) (Reps.one (show Kd.M (Kd.int .i64) _ _ _ (wrap64 (-t167)) [.int .i64 (wrap64 (-t167))] from rfl) (Reps.one (show Kd.M (Kd.int .i64) _ _ _ (wrap64 (-t168)) [.int .i64 (wrap64 (-t168))] from rfl) (Reps.one (show Kd.M (Kd.int .i64) _ _ _ (wrap64 (-t169)) [.int .i64 (wrap64 (-t169))] from rfl) (Reps.none _ _))))))
 intro v171 w31 ho32 hb hg_ hnew_
 clear hg_ hnew_
 (first | rw [← Ny170.out] at ho32 | (simp only [Int.reduceToNat] at ho32; rw [← Ny170.out] at ho32))
 have n0_ := Aside0.mk (Kd.R_lower ho32 (below_size (by repeat (first | (with_reducible first | exact HB.out | apply below_alloc | apply pw_below_drewN | apply below_drew1 | refine below_set ?_ GE163.out | refine below_set ?_ GE164.out | refine below_set ?_ GE165.out) | exact HB.out))))
 have n1_ := Aside0.mk (bb hb BK163.out)
 have n2_ := Aside0.mk (bb hb BK164.out)
 have n3_ := Aside0.mk (bb hb BK165.out)
 have n4_ := Aside0.mk (below_step (by repeat (first | (with_reducible first | exact HB.out | apply below_alloc | apply pw_below_drewN | apply below_drew1 | refine below_set ?_ GE163.out | refine below_set ?_ GE164.out | refine below_set ?_ GE165.out) | exact HB.out)) hb)
 clear BK163
 clear BK164
 clear BK165
 clear HB
 have HO172 := n0_
 have BK163 := n1_
 have BK164 := n2_
 have BK165 := n3_
 have HB := n4_
 clear n0_ n1_ n2_ n3_ n4_
 clear hb ho32
 obtain ⟨Ao33, co33, eo33⟩ := Kd.R_slice HO172.out
 (first | subst eo33 | (injection eo33 with f1_ f2_ f3_; have f4_ := f1_.symm; have f5_ := f3_.symm; clear f1_ f2_ f3_; subst f4_; subst f5_))
 refine hK.out _ _ ⟨(blk_cell BK163.out 0).trans rfl, (blk_cell BK163.out 1).trans rfl, (blk_cell BK163.out 2).trans rfl, (blk_cell BK163.out 3).trans rfl, (blk_cell BK164.out 0).trans rfl, (blk_cell BK164.out 1).trans rfl, (blk_cell BK164.out 2).trans rfl, (blk_cell BK164.out 3).trans rfl⟩ (fun hHeld => ?_)
 clear hK K
 refine norm_ (a' := ?_) ?_ ?_
 rotate_left
 ·show Act.put _ (some 33) _ = _
  simp only [Act.put, zq1, zq2, zq3, i64_w, i32_w]
  rfl
 refine one_ (i := 28) (N := some 34) (ab 112 158436200021074989197479896940543) rfl rfl (one_of HT_.out (by kernel_rfl)) (by decide) (fun K hK => ?_)
 refine goes_ Try.func34 (by kernel_rfl) rfl #[.slice Ao33 y170.length co33] (by rfl) rfl rfl (by (try simp only [zm1, zm2, zm3]); first | done | rfl) ?_
 with_reducible refine (quat_sum.calls k _ _ y170 t173 _ ?side1 ?side2 A7.out).mono ?_
 (case side1 => repeat (first | exact (Kd.R_reads' HO172.out).2.2 | (with_reducible refine Kd.C_alloc ?_ _) | (with_reducible refine Kd.C_drewN ?_ _) | (with_reducible refine Kd.C_drew ?_)))
 (case side2 => exact (Kd.R_reads' HO172.out).2.1)
 rintro e w34 ⟨rfl, hb⟩
 refine ⟨_, rfl, ?_⟩
 have n0_ := Aside0.mk (Kd.R_below (by (with_reducible repeat (first | apply Kd.R_alloc | apply Kd.R_drewN | apply Kd.R_drew)); exact HO172.out) hb)
 have n1_ := Aside0.mk (bb hb BK163.out)
 have n2_ := Aside0.mk (bb hb BK164.out)
 have n3_ := Aside0.mk (bb hb BK165.out)
 have n4_ := Aside0.mk (below_step (by repeat (first | (with_reducible first | exact HB.out | apply below_alloc | apply pw_below_drewN | apply below_drew1 | refine below_set ?_ GE163.out | refine below_set ?_ GE164.out | refine below_set ?_ GE165.out) | exact HB.out)) hb)
 clear HO172
 clear BK163
 clear BK164
 clear BK165
 clear HB
 have HO172 := n0_
 have BK163 := n1_
 have BK164 := n2_
 have BK165 := n3_
 have HB := n4_
 clear n0_ n1_ n2_ n3_ n4_
 (try clear hb)
 (try clear hb2)
 (try clear hk)
 (try clear hi)
 refine hK.out _ _ ⟨(blk_cell BK163.out 0).trans rfl, (blk_cell BK163.out 1).trans rfl, (blk_cell BK163.out 2).trans rfl, (blk_cell BK163.out 3).trans rfl, (blk_cell BK164.out 0).trans rfl, (blk_cell BK164.out 1).trans rfl, (blk_cell BK164.out 2).trans rfl, (blk_cell BK164.out 3).trans rfl⟩ (fun hHeld => ?_)
 clear hK K
 refine norm_ (a' := ?_) ?_ ?_
 rotate_left
 ·show Act.put _ (some 34) _ = _
  simp only [Act.put, zq1, zq2, zq3, i64_w, i32_w]
  rfl
 refine one_ (i := 34) (N := some 40) (ab 112 158436200021074989197497076809727) rfl rfl (one_of HT_.out (by kernel_rfl)) (by decide) (fun K hK => ?_)
 refine goesR_ Try.func24 (by kernel_rfl) rfl #[.int .i64 a0_0, .int .i64 a1_1] (by rfl) rfl rfl (by (try simp only [zm1, zm2, zm3]); first | done | rfl) ?_
 with_reducible refine (fix_Mul.calls k a0_0 a1_1 t174 _ A8.out).mono ?_
 rintro e w35 ⟨rfl, hb⟩
 refine ⟨_, rfl, ?_⟩
 have n0_ := Aside0.mk (Kd.R_below (by (with_reducible repeat (first | apply Kd.R_alloc | apply Kd.R_drewN | apply Kd.R_drew)); exact HO172.out) hb)
 have n1_ := Aside0.mk (bb hb BK163.out)
 have n2_ := Aside0.mk (bb hb BK164.out)
 have n3_ := Aside0.mk (bb hb BK165.out)
 have n4_ := Aside0.mk (below_step (by repeat (first | (with_reducible first | exact HB.out | apply below_alloc | apply pw_below_drewN | apply below_drew1 | refine below_set ?_ GE163.out | refine below_set ?_ GE164.out | refine below_set ?_ GE165.out) | exact HB.out)) hb)
 clear HO172
 clear BK163
 clear BK164
 clear BK165
 clear HB
 have HO172 := n0_
 have BK163 := n1_
 have BK164 := n2_
 have BK165 := n3_
 have HB := n4_
 clear n0_ n1_ n2_ n3_ n4_
 (try clear hb)
 (try clear hb2)
 (try clear hk)
 (try clear hi)
 refine hK.out _ _ ⟨(blk_cell BK163.out 0).trans rfl, (blk_cell BK163.out 1).trans rfl, (blk_cell BK163.out 2).trans rfl, (blk_cell BK163.out 3).trans rfl, (blk_cell BK164.out 0).trans rfl, (blk_cell BK164.out 1).trans rfl, (blk_cell BK164.out 2).trans rfl, (blk_cell BK164.out 3).trans rfl⟩ (fun hHeld => ?_)
 clear hK K
 refine norm_ (a' := ?_) ?_ ?_
 rotate_left
 ·show Act.put _ (some 40) _ = _
  simp only [Act.put, zq1, zq2, zq3, i64_w, i32_w]
  rfl
 refine one_ (i := 40) (N := some 46) (ab 112 158436200021074989198596588437503) rfl rfl (one_of HT_.out (by kernel_rfl)) (by decide) (fun K hK => ?_)
 refine goesR_ Try.func24 (by kernel_rfl) rfl #[.int .i64 a0_1, .int .i64 a1_0] (by rfl) rfl rfl (by (try simp only [zm1, zm2, zm3]); first | done | rfl) ?_
 with_reducible refine (fix_Mul.calls k a0_1 a1_0 t175 _ A9.out).mono ?_
 rintro e w36 ⟨rfl, hb⟩
 refine ⟨_, rfl, ?_⟩
 have n0_ := Aside0.mk (Kd.R_below (by (with_reducible repeat (first | apply Kd.R_alloc | apply Kd.R_drewN | apply Kd.R_drew)); exact HO172.out) hb)
 have n1_ := Aside0.mk (bb hb BK163.out)
 have n2_ := Aside0.mk (bb hb BK164.out)
 have n3_ := Aside0.mk (bb hb BK165.out)
 have n4_ := Aside0.mk (below_step (by repeat (first | (with_reducible first | exact HB.out | apply below_alloc | apply pw_below_drewN | apply below_drew1 | refine below_set ?_ GE163.out | refine below_set ?_ GE164.out | refine below_set ?_ GE165.out) | exact HB.out)) hb)
 clear HO172
 clear BK163
 clear BK164
 clear BK165
 clear HB
 have HO172 := n0_
 have BK163 := n1_
 have BK164 := n2_
 have BK165 := n3_
 have HB := n4_
 clear n0_ n1_ n2_ n3_ n4_
 (try clear hb)
 (try clear hb2)
 (try clear hk)
 (try clear hi)
 refine hK.out _ _ ⟨(blk_cell BK163.out 0).trans rfl, (blk_cell BK163.out 1).trans rfl, (blk_cell BK163.out 2).trans rfl, (blk_cell BK163.out 3).trans rfl, (blk_cell BK164.out 0).trans rfl, (blk_cell BK164.out 1).trans rfl, (blk_cell BK164.out 2).trans rfl, (blk_cell BK164.out 3).trans rfl⟩ (fun hHeld => ?_)
 clear hK K
 refine norm_ (a' := ?_) ?_ ?_
 rotate_left
 ·show Act.put _ (some 46) _ = _
  simp only [Act.put, zq1, zq2, zq3, i64_w, i32_w]
  rfl
 refine one_ (i := 46) (N := some 52) (ab 112 158436200021074989268965332615167) rfl rfl (one_of HT_.out (by kernel_rfl)) (by decide) (fun K hK => ?_)
 refine goesR_ Try.func24 (by kernel_rfl) rfl #[.int .i64 a0_2, .int .i64 a1_3] (by rfl) rfl rfl (by (try simp only [zm1, zm2, zm3]); first | done | rfl) ?_
 with_reducible refine (fix_Mul.calls k a0_2 a1_3 t176 _ A10.out).mono ?_
 rintro e w37 ⟨rfl, hb⟩
 refine ⟨_, rfl, ?_⟩
 have n0_ := Aside0.mk (Kd.R_below (by (with_reducible repeat (first | apply Kd.R_alloc | apply Kd.R_drewN | apply Kd.R_drew)); exact HO172.out) hb)
 have n1_ := Aside0.mk (bb hb BK163.out)
 have n2_ := Aside0.mk (bb hb BK164.out)
 have n3_ := Aside0.mk (bb hb BK165.out)
 have n4_ := Aside0.mk (below_step (by repeat (first | (with_reducible first | exact HB.out | apply below_alloc | apply pw_below_drewN | apply below_drew1 | refine below_set ?_ GE163.out | refine below_set ?_ GE164.out | refine below_set ?_ GE165.out) | exact HB.out)) hb)
 clear HO172
 clear BK163
 clear BK164
 clear BK165
 clear HB
 have HO172 := n0_
 have BK163 := n1_
 have BK164 := n2_
 have BK165 := n3_
 have HB := n4_
 clear n0_ n1_ n2_ n3_ n4_
 (try clear hb)
 (try clear hb2)
 (try clear hk)
 (try clear hi)
 refine hK.out _ _ ⟨(blk_cell BK163.out 0).trans rfl, (blk_cell BK163.out 1).trans rfl, (blk_cell BK163.out 2).trans rfl, (blk_cell BK163.out 3).trans rfl, (blk_cell BK164.out 0).trans rfl, (blk_cell BK164.out 1).trans rfl, (blk_cell BK164.out 2).trans rfl, (blk_cell BK164.out 3).trans rfl⟩ (fun hHeld => ?_)
 clear hK K
 refine norm_ (a' := ?_) ?_ ?_
 rotate_left
 ·show Act.put _ (some 52) _ = _
  simp only [Act.put, zq1, zq2, zq3, i64_w, i32_w]
  rfl
 refine one_ (i := 52) (N := some 58) (ab 112 158436200021074993772564959985663) rfl rfl (one_of HT_.out (by kernel_rfl)) (by decide) (fun K hK => ?_)
 refine goesR_ Try.func24 (by kernel_rfl) rfl #[.int .i64 a0_3, .int .i64 a1_2] (by rfl) rfl rfl (by (try simp only [zm1, zm2, zm3]); first | done | rfl) ?_
 with_reducible refine (fix_Mul.calls k a0_3 a1_2 t177 _ A11.out).mono ?_
 rintro e w38 ⟨rfl, hb⟩
 refine ⟨_, rfl, ?_⟩
 have n0_ := Aside0.mk (Kd.R_below (by (with_reducible repeat (first | apply Kd.R_alloc | apply Kd.R_drewN | apply Kd.R_drew)); exact HO172.out) hb)
 have n1_ := Aside0.mk (bb hb BK163.out)
 have n2_ := Aside0.mk (bb hb BK164.out)
 have n3_ := Aside0.mk (bb hb BK165.out)
 have n4_ := Aside0.mk (below_step (by repeat (first | (with_reducible first | exact HB.out | apply below_alloc | apply pw_below_drewN | apply below_drew1 | refine below_set ?_ GE163.out | refine below_set ?_ GE164.out | refine below_set ?_ GE165.out) | exact HB.out)) hb)
 clear HO172
 clear BK163
 clear BK164
 clear BK165
 clear HB
 have HO172 := n0_
 have BK163 := n1_
 have BK164 := n2_
 have BK165 := n3_
 have HB := n4_
 clear n0_ n1_ n2_ n3_ n4_
 (try clear hb)
 (try clear hb2)
 (try clear hk)
 (try clear hi)
 refine hK.out _ _ ⟨(blk_cell BK163.out 0).trans rfl, (blk_cell BK163.out 1).trans rfl, (blk_cell BK163.out 2).trans rfl, (blk_cell BK163.out 3).trans rfl, (blk_cell BK164.out 0).trans rfl, (blk_cell BK164.out 1).trans rfl, (blk_cell BK164.out 2).trans rfl, (blk_cell BK164.out 3).trans rfl⟩ (fun hHeld => ?_)
 clear hK K
 refine norm_ (a' := ?_) ?_ ?_
 rotate_left
 ·show Act.put _ (some 58) _ = _
  simp only [Act.put, zq1, zq2, zq3, i64_w, i32_w]
  rfl
 refine pure_ (i := 53) (N := some 59) (v := ?_) (a' := ?_) (ab 112 158436200021075002779764214726655) rfl rfl (any_of HT_.out (by kernel_rfl)) (fun _ _ _ h => h) (Or.inl ⟨by rfl, ?_⟩) ?_ ?_
 rotate_left
 ·intro w'
  go_simp
  with_reducible rfl
 rotate_left
 ·simp only [Act.put, zq1, zq2, zq3, i64_w, i32_w]
  rfl
 refine one_ (i := 54) (N := some 60) (ab 112 158436200021075020794162724208639) rfl rfl (one_of HT_.out (by kernel_rfl)) (by decide) (fun K hK => ?_)
 refine Kd.R_lit_step (Kd.int .i64) _ 3 ?hg (N := 60) ?hd (xs := ([t174, t175, t176, wrap64 (-t177)] : List Int)) (inner := [.int .i64 t174, .int .i64 t175, .int .i64 t176, .int .i64 (wrap64 (-t177))]) (ok := fun _ => True) (okp := fun _ => True) ?hr ?hp (fun _ hk => hk) trivial (Below.refl _ _) (Nat.le_refl _) (by simp) ?_; (case hd => rfl); (case hg => rfl); (case hr => first | (go_simp; done) | (go_simp; rfl)); (case hp => exact (Reps.one (show Kd.M (Kd.int .i64) _ _ _ t174 [.int .i64 t174] from rfl) (Reps.one (show Kd.M (Kd.int .i64) _ _ _ t175 [.int .i64 t175] from rfl) (Reps.one (show Kd.M (Kd.int .i64) _ _ _ t176 [.int .i64 t176] from rfl) (Reps.one (show Kd.M (Kd.int .i64) _ _ _ (wrap64 (-t177)) [.int .i64 (wrap64 (-t177))] from rfl) (Reps.none _ _))))))
 intro v179 w39 ho40 hb hg_ hnew_
 clear hg_ hnew_
 (first | rw [← Ny178.out] at ho40 | (simp only [Int.reduceToNat] at ho40; rw [← Ny178.out] at ho40))
 have n0_ := Aside0.mk (Kd.R_elder' (by (with_reducible repeat (first | apply Kd.R_alloc | apply Kd.R_drewN | apply Kd.R_drew)); exact HO172.out) (Kd.R_base ho40) hb)
 have n1_ := Aside0.mk (Kd.R_lower (Kd.R_new' ho40 (Kd.R_lt (by (with_reducible repeat (first | apply Kd.R_alloc | apply Kd.R_drewN | apply Kd.R_drew)); exact HO172.out))) (below_size (by repeat (first | (with_reducible first | exact HB.out | apply below_alloc | apply pw_below_drewN | apply below_drew1 | refine below_set ?_ GE163.out | refine below_set ?_ GE164.out | refine below_set ?_ GE165.out) | exact HB.out))))
 have n2_ := Aside0.mk (bb hb BK163.out)
 have n3_ := Aside0.mk (bb hb BK164.out)
 have n4_ := Aside0.mk (bb hb BK165.out)
 have n5_ := Aside0.mk (below_step (by repeat (first | (with_reducible first | exact HB.out | apply below_alloc | apply pw_below_drewN | apply below_drew1 | refine below_set ?_ GE163.out | refine below_set ?_ GE164.out | refine below_set ?_ GE165.out) | exact HB.out)) hb)
 clear HO172
 clear BK163
 clear BK164
 clear BK165
 clear HB
 have HO172 := n0_
 have HO180 := n1_
 have BK163 := n2_
 have BK164 := n3_
 have BK165 := n4_
 have HB := n5_
 clear n0_ n1_ n2_ n3_ n4_ n5_
 clear hb ho40
 obtain ⟨Ao41, co41, eo41⟩ := Kd.R_slice HO180.out
 (first | subst eo41 | (injection eo41 with f1_ f2_ f3_; have f4_ := f1_.symm; have f5_ := f3_.symm; clear f1_ f2_ f3_; subst f4_; subst f5_))
 refine hK.out _ _ ⟨(blk_cell BK163.out 0).trans rfl, (blk_cell BK163.out 1).trans rfl, (blk_cell BK163.out 2).trans rfl, (blk_cell BK163.out 3).trans rfl, (blk_cell BK164.out 0).trans rfl, (blk_cell BK164.out 1).trans rfl, (blk_cell BK164.out 2).trans rfl, (blk_cell BK164.out 3).trans rfl⟩ (fun hHeld => ?_)
 clear hK K
 refine norm_ (a' := ?_) ?_ ?_
 rotate_left
 ·show Act.put _ (some 60) _ = _
  simp only [Act.put, zq1, zq2, zq3, i64_w, i32_w]
  rfl
 refine one_ (i := 55) (N := some 61) (ab 112 158436200021075056822959743172607) rfl rfl (one_of HT_.out (by kernel_rfl)) (by decide) (fun K hK => ?_)
 refine goes_ Try.func34 (by kernel_rfl) rfl #[.slice Ao41 y178.length co41] (by rfl) rfl rfl (by (try simp only [zm1, zm2, zm3]); first | done | rfl) ?_
 with_reducible refine (quat_sum.calls k _ _ y178 t181 _ ?side1 ?side2 A12.out).mono ?_
 (case side1 => repeat (first | exact (Kd.R_reads' HO180.out).2.2 | (with_reducible refine Kd.C_alloc ?_ _) | (with_reducible refine Kd.C_drewN ?_ _) | (with_reducible refine Kd.C_drew ?_)))
 (case side2 => exact (Kd.R_reads' HO180.out).2.1)
 rintro e w42 ⟨rfl, hb⟩
 refine ⟨_, rfl, ?_⟩
 have n0_ := Aside0.mk (Kd.R_below (by (with_reducible repeat (first | apply Kd.R_alloc | apply Kd.R_drewN | apply Kd.R_drew)); exact HO172.out) hb)
 have n1_ := Aside0.mk (Kd.R_below (by (with_reducible repeat (first | apply Kd.R_alloc | apply Kd.R_drewN | apply Kd.R_drew)); exact HO180.out) hb)
 have n2_ := Aside0.mk (bb hb BK163.out)
 have n3_ := Aside0.mk (bb hb BK164.out)
 have n4_ := Aside0.mk (bb hb BK165.out)
 have n5_ := Aside0.mk (below_step (by repeat (first | (with_reducible first | exact HB.out | apply below_alloc | apply pw_below_drewN | apply below_drew1 | refine below_set ?_ GE163.out | refine below_set ?_ GE164.out | refine below_set ?_ GE165.out) | exact HB.out)) hb)
 clear HO172
 clear HO180
 clear BK163
 clear BK164
 clear BK165
 clear HB
 have HO172 := n0_
 have HO180 := n1_
 have BK163 := n2_
 have BK164 := n3_
 have BK165 := n4_
 have HB := n5_
 clear n0_ n1_ n2_ n3_ n4_ n5_
 (try clear hb)
 (try clear hb2)
 (try clear hk)
 (try clear hi)
 refine hK.out _ _ ⟨(blk_cell BK163.out 0).trans rfl, (blk_cell BK163.out 1).trans rfl, (blk_cell BK163.out 2).trans rfl, (blk_cell BK163.out 3).trans rfl, (blk_cell BK164.out 0).trans rfl, (blk_cell BK164.out 1).trans rfl, (blk_cell BK164.out 2).trans rfl, (blk_cell BK164.out 3).trans rfl⟩ (fun hHeld => ?_)
 clear hK K
 refine norm_ (a' := ?_) ?_ ?_
 rotate_left
 ·show Act.put _ (some 61) _ = _
  simp only [Act.put, zq1, zq2, zq3, i64_w, i32_w]
  rfl
 refine one_ (i := 61) (N := some 67) (ab 112 158436200021077362665968956866559) rfl rfl (one_of HT_.out (by kernel_rfl)) (by decide) (fun K hK => ?_)
 refine goesR_ Try.func24 (by kernel_rfl) rfl #[.int .i64 a0_0, .int .i64 a1_2] (by rfl) rfl rfl (by (try simp only [zm1, zm2, zm3]); first | done | rfl) ?_
 with_reducible refine (fix_Mul.calls k a0_0 a1_2 t182 _ A13.out).mono ?_
 rintro e w43 ⟨rfl, hb⟩
 refine ⟨_, rfl, ?_⟩
 have n0_ := Aside0.mk (Kd.R_below (by (with_reducible repeat (first | apply Kd.R_alloc | apply Kd.R_drewN | apply Kd.R_drew)); exact HO172.out) hb)
 have n1_ := Aside0.mk (Kd.R_below (by (with_reducible repeat (first | apply Kd.R_alloc | apply Kd.R_drewN | apply Kd.R_drew)); exact HO180.out) hb)
 have n2_ := Aside0.mk (bb hb BK163.out)
 have n3_ := Aside0.mk (bb hb BK164.out)
 have n4_ := Aside0.mk (bb hb BK165.out)
 have n5_ := Aside0.mk (below_step (by repeat (first | (with_reducible first | exact HB.out | apply below_alloc | apply pw_below_drewN | apply below_drew1 | refine below_set ?_ GE163.out | refine below_set ?_ GE164.out | refine below_set ?_ GE165.out) | exact HB.out)) hb)
 clear HO172
 clear HO180
 clear BK163
 clear BK164
 clear BK165
 clear HB
 have HO172 := n0_
 have HO180 := n1_
 have BK163 := n2_
 have BK164 := n3_
 have BK165 := n4_
 have HB := n5_
 clear n0_ n1_ n2_ n3_ n4_ n5_
 (try clear hb)
 (try clear hb2)
 (try clear hk)
 (try clear hi)
 refine hK.out _ _ ⟨(blk_cell BK163.out 0).trans rfl, (blk_cell BK163.out 1).trans rfl, (blk_cell BK163.out 2).trans rfl, (blk_cell BK163.out 3).trans rfl, (blk_cell BK164.out 0).trans rfl, (blk_cell BK164.out 1).trans rfl, (blk_cell BK164.out 2).trans rfl, (blk_cell BK164.out 3).trans rfl⟩ (fun hHeld => ?_)
 clear hK K
 refine norm_ (a' := ?_) ?_ ?_
 rotate_left
 ·show Act.put _ (some 67) _ = _
  simp only [Act.put, zq1, zq2, zq3, i64_w, i32_w]
  rfl
 refine one_ (i := 67) (N := some 73) (ab 112 158436200021224936618558633279487) rfl rfl (one_of HT_.out (by kernel_rfl)) (by decide) (fun K hK => ?_)
 refine goesR_ Try.func24 (by kernel_rfl) rfl #[.int .i64 a0_1, .int .i64 a1_3] (by rfl) rfl rfl (by (try simp only [zm1, zm2, zm3]); first | done | rfl) ?_
 with_reducible refine (fix_Mul.calls k a0_1 a1_3 t183 _ A14.out).mono ?_
 rintro e w44 ⟨rfl, hb⟩
 refine ⟨_, rfl, ?_⟩
 have n0_ := Aside0.mk (Kd.R_below (by (with_reducible repeat (first | apply Kd.R_alloc | apply Kd.R_drewN | apply Kd.R_drew)); exact HO172.out) hb)
 have n1_ := Aside0.mk (Kd.R_below (by (with_reducible repeat (first | apply Kd.R_alloc | apply Kd.R_drewN | apply Kd.R_drew)); exact HO180.out) hb)
 have n2_ := Aside0.mk (bb hb BK163.out)
 have n3_ := Aside0.mk (bb hb BK164.out)
 have n4_ := Aside0.mk (bb hb BK165.out)
 have n5_ := Aside0.mk (below_step (by repeat (first | (with_reducible first | exact HB.out | apply below_alloc | apply pw_below_drewN | apply below_drew1 | refine below_set ?_ GE163.out | refine below_set ?_ GE164.out | refine below_set ?_ GE165.out) | exact HB.out)) hb)
 clear HO172
 clear HO180
 clear BK163
 clear BK164
 clear BK165
 clear HB
 have HO172 := n0_
 have HO180 := n1_
 have BK163 := n2_
 have BK164 := n3_
 have BK165 := n4_
 have HB := n5_
 clear n0_ n1_ n2_ n3_ n4_ n5_
 (try clear hb)
 (try clear hb2)
 (try clear hk)
 (try clear hi)
 refine hK.out _ _ ⟨(blk_cell BK163.out 0).trans rfl, (blk_cell BK163.out 1).trans rfl, (blk_cell BK163.out 2).trans rfl, (blk_cell BK163.out 3).trans rfl, (blk_cell BK164.out 0).trans rfl, (blk_cell BK164.out 1).trans rfl, (blk_cell BK164.out 2).trans rfl, (blk_cell BK164.out 3).trans rfl⟩ (fun hHeld => ?_)
 clear hK K
 refine norm_ (a' := ?_) ?_ ?_
 rotate_left
 ·show Act.put _ (some 73) _ = _
  simp only [Act.put, zq1, zq2, zq3, i64_w, i32_w]
  rfl
 refine pure_ (i := 68) (N := some 74) (v := ?_) (a' := ?_) (ab 112 158436200021520084523737986105343) rfl rfl (any_of HT_.out (by kernel_rfl)) (fun _ _ _ h => h) (Or.inl ⟨by rfl, ?_⟩) ?_ ?_
 rotate_left
 ·intro w'
  go_simp
  with_reducible rfl
 rotate_left
 ·simp only [Act.put, zq1, zq2, zq3, i64_w, i32_w]
  rfl
 refine one_ (i := 74) (N := some 80) (ab 112 158436200040409550455216566960127) rfl rfl (one_of HT_.out (by kernel_rfl)) (by decide) (fun K hK => ?_)
 refine goesR_ Try.func24 (by kernel_rfl) rfl #[.int .i64 a0_2, .int .i64 a1_0] (by rfl) rfl rfl (by (try simp only [zm1, zm2, zm3]); first | done | rfl) ?_
 with_reducible refine (fix_Mul.calls k a0_2 a1_0 t184 _ A15.out).mono ?_
 rintro e w45 ⟨rfl, hb⟩
 refine ⟨_, rfl, ?_⟩
 have n0_ := Aside0.mk (Kd.R_below (by (with_reducible repeat (first | apply Kd.R_alloc | apply Kd.R_drewN | apply Kd.R_drew)); exact HO172.out) hb)
 have n1_ := Aside0.mk (Kd.R_below (by (with_reducible repeat (first | apply Kd.R_alloc | apply Kd.R_drewN | apply Kd.R_drew)); exact HO180.out) hb)
 have n2_ := Aside0.mk (bb hb BK163.out)
 have n3_ := Aside0.mk (bb hb BK164.out)
 have n4_ := Aside0.mk (bb hb BK165.out)
 have n5_ := Aside0.mk (below_step (by repeat (first | (with_reducible first | exact HB.out | apply below_alloc | apply pw_below_drewN | apply below_drew1 | refine below_set ?_ GE163.out | refine below_set ?_ GE164.out | refine below_set ?_ GE165.out) | exact HB.out)) hb)
 clear HO172
 clear HO180
 clear BK163
 clear BK164
 clear BK165
 clear HB
 have HO172 := n0_
 have HO180 := n1_
 have BK163 := n2_
 have BK164 := n3_
 have BK165 := n4_
 have HB := n5_
 clear n0_ n1_ n2_ n3_ n4_ n5_
 (try clear hb)
 (try clear hb2)
 (try clear hk)
 (try clear hi)
 refine hK.out _ _ ⟨(blk_cell BK163.out 0).trans rfl, (blk_cell BK163.out 1).trans rfl, (blk_cell BK163.out 2).trans rfl, (blk_cell BK163.out 3).trans rfl, (blk_cell BK164.out 0).trans rfl, (blk_cell BK164.out 1).trans rfl, (blk_cell BK164.out 2).trans rfl, (blk_cell BK164.out 3).trans rfl⟩ (fun hHeld => ?_)
 clear hK K
 refine norm_ (a' := ?_) ?_ ?_
 rotate_left
 ·show Act.put _ (some 80) _ = _
  simp only [Act.put, zq1, zq2, zq3, i64_w, i32_w]
  rfl
 refine one_ (i := 80) (N := some 86) (ab 112 158436201249335370069845741666303) rfl rfl (one_of HT_.out (by kernel_rfl)) (by decide) (fun K hK => ?_)
 refine goesR_ Try.func24 (by kernel_rfl) rfl #[.int .i64 a0_3, .int .i64 a1_1] (by rfl) rfl rfl (by (try simp only [zm1, zm2, zm3]); first | done | rfl) ?_
 with_reducible refine (fix_Mul.calls k a0_3 a1_1 t185 _ A16.out).mono ?_
 rintro e w46 ⟨rfl, hb⟩
 refine ⟨_, rfl, ?_⟩
 have n0_ := Aside0.mk (Kd.R_below (by (with_reducible repeat (first | apply Kd.R_alloc | apply Kd.R_drewN | apply Kd.R_drew)); exact HO172.out) hb)
 have n1_ := Aside0.mk (Kd.R_below (by (with_reducible repeat (first | apply Kd.R_alloc | apply Kd.R_drewN | apply Kd.R_drew)); exact HO180.out) hb)
 have n2_ := Aside0.mk (bb hb BK163.out)
 have n3_ := Aside0.mk (bb hb BK164.out)
 have n4_ := Aside0.mk (bb hb BK165.out)
 have n5_ := Aside0.mk (below_step (by repeat (first | (with_reducible first | exact HB.out | apply below_alloc | apply pw_below_drewN | apply below_drew1 | refine below_set ?_ GE163.out | refine below_set ?_ GE164.out | refine below_set ?_ GE165.out) | exact HB.out)) hb)
 clear HO172
 clear HO180
 clear BK163
 clear BK164
 clear BK165
 clear HB
 have HO172 := n0_
 have HO180 := n1_
 have BK163 := n2_
 have BK164 := n3_
 have BK165 := n4_
 have HB := n5_
 clear n0_ n1_ n2_ n3_ n4_ n5_
 (try clear hb)
 (try clear hb2)
 (try clear hk)
 (try clear hi)
 refine hK.out _ _ ⟨(blk_cell BK163.out 0).trans rfl, (blk_cell BK163.out 1).trans rfl, (blk_cell BK163.out 2).trans rfl, (blk_cell BK163.out 3).trans rfl, (blk_cell BK164.out 0).trans rfl, (blk_cell BK164.out 1).trans rfl, (blk_cell BK164.out 2).trans rfl, (blk_cell BK164.out 3).trans rfl⟩ (fun hHeld => ?_)
 clear hK K
 refine norm_ (a' := ?_) ?_ ?_
 rotate_left
 ·show Act.put _ (some 86) _ = _
  simp only [Act.put, zq1, zq2, zq3, i64_w, i32_w]
  rfl
 refine one_ (i := 81) (N := some 87) (ab 112 158436203667187009299104091078655) rfl rfl (one_of HT_.out (by kernel_rfl)) (by decide) (fun K hK => ?_)
 refine Kd.R_lit_step (Kd.int .i64) _ 3 ?hg (N := 87) ?hd (xs := ([t182, wrap64 (-t183), t184, t185] : List Int)) (inner := [.int .i64 t182, .int .i64 (wrap64 (-t183)), .int .i64 t184, .int .i64 t185]) (ok := fun _ => True) (okp := fun _ => True) ?hr ?hp (fun _ hk => hk) trivial (Below.refl _ _) (Nat.le_refl _) (by simp) ?_; (case hd => rfl); (case hg => rfl); (case hr => first | (go_simp; done) | (go_simp; rfl)); (case hp => exact (Reps.one (show Kd.M (Kd.int .i64) _ _ _ t182 [.int .i64 t182] from rfl) (Reps.one (show Kd.M (Kd.int .i64) _ _ _ (wrap64 (-t183)) [.int .i64 (wrap64 (-t183))] from rfl) (Reps.one (show Kd.M (Kd.int .i64) _ _ _ t184 [.int .i64 t184] from rfl) (Reps.one (show Kd.M (Kd.int .i64) _ _ _ t185 [.int .i64 t185] from rfl) (Reps.none _ _))))))
 intro v187 w47 ho48 hb hg_ hnew_
 clear hg_ hnew_
 (first | rw [← Ny186.out] at ho48 | (simp only [Int.reduceToNat] at ho48; rw [← Ny186.out] at ho48))
 have n0_ := Aside0.mk (Kd.R_elder' (by (with_reducible repeat (first | apply Kd.R_alloc | apply Kd.R_drewN | apply Kd.R_drew)); exact HO172.out) (Kd.R_base ho48) hb)
 have n1_ := Aside0.mk (Kd.R_elder' (by (with_reducible repeat (first | apply Kd.R_alloc | apply Kd.R_drewN | apply Kd.R_drew)); exact HO180.out) (Kd.R_base ho48) hb)
 have n2_ := Aside0.mk (Kd.R_lower (Kd.R_new' (Kd.R_new' ho48 (Kd.R_lt (by (with_reducible repeat (first | apply Kd.R_alloc | apply Kd.R_drewN | apply Kd.R_drew)); exact HO172.out))) (Kd.R_lt (by (with_reducible repeat (first | apply Kd.R_alloc | apply Kd.R_drewN | apply Kd.R_drew)); exact HO180.out))) (below_size (by repeat (first | (with_reducible first | exact HB.out | apply below_alloc | apply pw_below_drewN | apply below_drew1 | refine below_set ?_ GE163.out | refine below_set ?_ GE164.out | refine below_set ?_ GE165.out) | exact HB.out))))
 have n3_ := Aside0.mk (bb hb BK163.out)
 have n4_ := Aside0.mk (bb hb BK164.out)
 have n5_ := Aside0.mk (bb hb BK165.out)
 have n6_ := Aside0.mk (below_step (by repeat (first | (with_reducible first | exact HB.out | apply below_alloc | apply pw_below_drewN | apply below_drew1 | refine below_set ?_ GE163.out | refine below_set ?_ GE164.out | refine below_set ?_ GE165.out) | exact HB.out)) hb)
 clear HO172
 clear HO180
 clear BK163
 clear BK164
 clear BK165
 clear HB
 have HO172 := n0_
 have HO180 := n1_
 have HO188 := n2_
 have BK163 := n3_
 have BK164 := n4_
 have BK165 := n5_
 have HB := n6_
 clear n0_ n1_ n2_ n3_ n4_ n5_ n6_
 clear hb ho48
 obtain ⟨Ao49, co49, eo49⟩ := Kd.R_slice HO188.out
 (first | subst eo49 | (injection eo49 with f1_ f2_ f3_; have f4_ := f1_.symm; have f5_ := f3_.symm; clear f1_ f2_ f3_; subst f4_; subst f5_))
 refine hK.out _ _ ⟨(blk_cell BK163.out 0).trans rfl, (blk_cell BK163.out 1).trans rfl, (blk_cell BK163.out 2).trans rfl, (blk_cell BK163.out 3).trans rfl, (blk_cell BK164.out 0).trans rfl, (blk_cell BK164.out 1).trans rfl, (blk_cell BK164.out 2).trans rfl, (blk_cell BK164.out 3).trans rfl⟩ (fun hHeld => ?_)
 clear hK K
 refine norm_ (a' := ?_) ?_ ?_
 rotate_left
 ·show Act.put _ (some 87) _ = _
  simp only [Act.put, zq1, zq2, zq3, i64_w, i32_w]
  rfl
 refine one_ (i := 82) (N := some 88) (ab 112 158436208502890287757620789903359) rfl rfl (one_of HT_.out (by kernel_rfl)) (by decide) (fun K hK => ?_)
 refine goes_ Try.func34 (by kernel_rfl) rfl #[.slice Ao49 y186.length co49] (by rfl) rfl rfl (by (try simp only [zm1, zm2, zm3]); first | done | rfl) ?_
 with_reducible refine (quat_sum.calls k _ _ y186 t189 _ ?side1 ?side2 A17.out).mono ?_
 (case side1 => repeat (first | exact (Kd.R_reads' HO188.out).2.2 | (with_reducible refine Kd.C_alloc ?_ _) | (with_reducible refine Kd.C_drewN ?_ _) | (with_reducible refine Kd.C_drew ?_)))
 (case side2 => exact (Kd.R_reads' HO188.out).2.1)
 rintro e w50 ⟨rfl, hb⟩
 refine ⟨_, rfl, ?_⟩
 have n0_ := Aside0.mk (Kd.R_below (by (with_reducible repeat (first | apply Kd.R_alloc | apply Kd.R_drewN | apply Kd.R_drew)); exact HO172.out) hb)
 have n1_ := Aside0.mk (Kd.R_below (by (with_reducible repeat (first | apply Kd.R_alloc | apply Kd.R_drewN | apply Kd.R_drew)); exact HO180.out) hb)
 have n2_ := Aside0.mk (Kd.R_below (by (with_reducible repeat (first | apply Kd.R_alloc | apply Kd.R_drewN | apply Kd.R_drew)); exact HO188.out) hb)
 have n3_ := Aside0.mk (bb hb BK163.out)
 have n4_ := Aside0.mk (bb hb BK164.out)
 have n5_ := Aside0.mk (bb hb BK165.out)
 have n6_ := Aside0.mk (below_step (by repeat (first | (with_reducible first | exact HB.out | apply below_alloc | apply pw_below_drewN | apply below_drew1 | refine below_set ?_ GE163.out | refine below_set ?_ GE164.out | refine below_set ?_ GE165.out) | exact HB.out)) hb)
 clear HO172
 clear HO180
 clear HO188
 clear BK163
 clear BK164
 clear BK165
 clear HB
 have HO172 := n0_
 have HO180 := n1_
 have HO188 := n2_
 have BK163 := n3_
 have BK164 := n4_
 have BK165 := n5_
 have HB := n6_
 clear n0_ n1_ n2_ n3_ n4_ n5_ n6_
 (try clear hb)
 (try clear hb2)
 (try clear hk)
 (try clear hi)
 refine hK.out _ _ ⟨(blk_cell BK163.out 0).trans rfl, (blk_cell BK163.out 1).trans rfl, (blk_cell BK163.out 2).trans rfl, (blk_cell BK163.out 3).trans rfl, (blk_cell BK164.out 0).trans rfl, (blk_cell BK164.out 1).trans rfl, (blk_cell BK164.out 2).trans rfl, (blk_cell BK164.out 3).trans rfl⟩ (fun hHeld => ?_)
 clear hK K
 refine norm_ (a' := ?_) ?_ ?_
 rotate_left
 ·show Act.put _ (some 88) _ = _
  simp only [Act.put, zq1, zq2, zq3, i64_w, i32_w]
  rfl
 refine one_ (i := 88) (N := some 94) (ab 112 158436517987900109102689514684415) rfl rfl (one_of HT_.out (by kernel_rfl)) (by decide) (fun K hK => ?_)
 refine goesR_ Try.func24 (by kernel_rfl) rfl #[.int .i64 a0_0, .int .i64 a1_3] (by rfl) rfl rfl (by (try simp only [zm1, zm2, zm3]); first | done | rfl) ?_
 with_reducible refine (fix_Mul.calls k a0_0 a1_3 t190 _ A18.out).mono ?_
 rintro e w51 ⟨rfl, hb⟩
 refine ⟨_, rfl, ?_⟩
 have n0_ := Aside0.mk (Kd.R_below (by (with_reducible repeat (first | apply Kd.R_alloc | apply Kd.R_drewN | apply Kd.R_drew)); exact HO172.out) hb)
 have n1_ := Aside0.mk (Kd.R_below (by (with_reducible repeat (first | apply Kd.R_alloc | apply Kd.R_drewN | apply Kd.R_drew)); exact HO180.out) hb)
 have n2_ := Aside0.mk (Kd.R_below (by (with_reducible repeat (first | apply Kd.R_alloc | apply Kd.R_drewN | apply Kd.R_drew)); exact HO188.out) hb)
 have n3_ := Aside0.mk (bb hb BK163.out)
 have n4_ := Aside0.mk (bb hb BK164.out)
 have n5_ := Aside0.mk (bb hb BK165.out)
 have n6_ := Aside0.mk (below_step (by repeat (first | (with_reducible first | exact HB.out | apply below_alloc | apply pw_below_drewN | apply below_drew1 | refine below_set ?_ GE163.out | refine below_set ?_ GE164.out | refine below_set ?_ GE165.out) | exact HB.out)) hb)
 clear HO172
 clear HO180
 clear HO188
 clear BK163
 clear BK164
 clear BK165
 clear HB
 have HO172 := n0_
 have HO180 := n1_
 have HO188 := n2_
 have BK163 := n3_
 have BK164 := n4_
 have BK165 := n5_
 have HB := n6_
 clear n0_ n1_ n2_ n3_ n4_ n5_ n6_
 (try clear hb)
 (try clear hb2)
 (try clear hk)
 (try clear hi)
 refine hK.out _ _ ⟨(blk_cell BK163.out 0).trans rfl, (blk_cell BK163.out 1).trans rfl, (blk_cell BK163.out 2).trans rfl, (blk_cell BK163.out 3).trans rfl, (blk_cell BK164.out 0).trans rfl, (blk_cell BK164.out 1).trans rfl, (blk_cell BK164.out 2).trans rfl, (blk_cell BK164.out 3).trans rfl⟩ (fun hHeld => ?_)
 clear hK K
 refine norm_ (a' := ?_) ?_ ?_
 rotate_left
 ·show Act.put _ (some 94) _ = _
  simp only [Act.put, zq1, zq2, zq3, i64_w, i32_w]
  rfl
 refine one_ (i := 94) (N := some 100) (ab 112 158456325028528675187087900671999) rfl rfl (one_of HT_.out (by kernel_rfl)) (by decide) (fun K hK => ?_)
 refine goesR_ Try.func24 (by kernel_rfl) rfl #[.int .i64 a0_1, .int .i64 a1_2] (by rfl) rfl rfl (by (try simp only [zm1, zm2, zm3]); first | done | rfl) ?_
 with_reducible refine (fix_Mul.calls k a0_1 a1_2 t191 _ A19.out).mono ?_
 rintro e w52 ⟨rfl, hb⟩
 refine ⟨_, rfl, ?_⟩
 have n0_ := Aside0.mk (Kd.R_below (by (with_reducible repeat (first | apply Kd.R_alloc | apply Kd.R_drewN | apply Kd.R_drew)); exact HO172.out) hb)
 have n1_ := Aside0.mk (Kd.R_below (by (with_reducible repeat (first | apply Kd.R_alloc | apply Kd.R_drewN | apply Kd.R_drew)); exact HO180.out) hb)
 have n2_ := Aside0.mk (Kd.R_below (by (with_reducible repeat (first | apply Kd.R_alloc | apply Kd.R_drewN | apply Kd.R_drew)); exact HO188.out) hb)
 have n3_ := Aside0.mk (bb hb BK163.out)
 have n4_ := Aside0.mk (bb hb BK164.out)
 have n5_ := Aside0.mk (bb hb BK165.out)
 have n6_ := Aside0.mk (below_step (by repeat (first | (with_reducible first | exact HB.out | apply below_alloc | apply pw_below_drewN | apply below_drew1 | refine below_set ?_ GE163.out | refine below_set ?_ GE164.out | refine below_set ?_ GE165.out) | exact HB.out)) hb)
 clear HO172
 clear HO180
 clear HO188
 clear BK163
 clear BK164
 clear BK165
 clear HB
 have HO172 := n0_
 have HO180 := n1_
 have HO188 := n2_
 have BK163 := n3_
 have BK164 := n4_
 have BK165 := n5_
 have HB := n6_
 clear n0_ n1_ n2_ n3_ n4_ n5_ n6_
 (try clear hb)
 (try clear hb2)
 (try clear hk)
 (try clear hi)
 refine hK.out _ _ ⟨(blk_cell BK163.out 0).trans rfl, (blk_cell BK163.out 1).trans rfl, (blk_cell BK163.out 2).trans rfl, (blk_cell BK163.out 3).trans rfl, (blk_cell BK164.out 0).trans rfl, (blk_cell BK164.out 1).trans rfl, (blk_cell BK164.out 2).trans rfl, (blk_cell BK164.out 3).trans rfl⟩ (fun hHeld => ?_)
 clear hK K
 refine norm_ (a' := ?_) ?_ ?_
 rotate_left
 ·show Act.put _ (some 100) _ = _
  simp only [Act.put, zq1, zq2, zq3, i64_w, i32_w]
  rfl
 refine one_ (i := 100) (N := some 106) (ab 112 159723975628756904588584603877375) rfl rfl (one_of HT_.out (by kernel_rfl)) (by decide) (fun K hK => ?_)
 refine goesR_ Try.func24 (by kernel_rfl) rfl #[.int .i64 a0_2, .int .i64 a1_1] (by rfl) rfl rfl (by (try simp only [zm1, zm2, zm3]); first | done | rfl) ?_
 with_reducible refine (fix_Mul.calls k a0_2 a1_1 t192 _ A20.out).mono ?_
 rintro e w53 ⟨rfl, hb⟩
 refine ⟨_, rfl, ?_⟩
 have n0_ := Aside0.mk (Kd.R_below (by (with_reducible repeat (first | apply Kd.R_alloc | apply Kd.R_drewN | apply Kd.R_drew)); exact HO172.out) hb)
 have n1_ := Aside0.mk (Kd.R_below (by (with_reducible repeat (first | apply Kd.R_alloc | apply Kd.R_drewN | apply Kd.R_drew)); exact HO180.out) hb)
 have n2_ := Aside0.mk (Kd.R_below (by (with_reducible repeat (first | apply Kd.R_alloc | apply Kd.R_drewN | apply Kd.R_drew)); exact HO188.out) hb)
 have n3_ := Aside0.mk (bb hb BK163.out)
 have n4_ := Aside0.mk (bb hb BK164.out)
 have n5_ := Aside0.mk (bb hb BK165.out)
 have n6_ := Aside0.mk (below_step (by repeat (first | (with_reducible first | exact HB.out | apply below_alloc | apply pw_below_drewN | apply below_drew1 | refine below_set ?_ GE163.out | refine below_set ?_ GE164.out | refine below_set ?_ GE165.out) | exact HB.out)) hb)
 clear HO172
 clear HO180
 clear HO188
 clear BK163
 clear BK164
 clear BK165
 clear HB
 have HO172 := n0_
 have HO180 := n1_
 have HO188 := n2_
 have BK163 := n3_
 have BK164 := n4_
 have BK165 := n5_
 have HB := n6_
 clear n0_ n1_ n2_ n3_ n4_ n5_ n6_
 (try clear hb)
 (try clear hb2)
 (try clear hk)
 (try clear hi)
 refine hK.out _ _ ⟨(blk_cell BK163.out 0).trans rfl, (blk_cell BK163.out 1).trans rfl, (blk_cell BK163.out 2).trans rfl, (blk_cell BK163.out 3).trans rfl, (blk_cell BK164.out 0).trans rfl, (blk_cell BK164.out 1).trans rfl, (blk_cell BK164.out 2).trans rfl, (blk_cell BK164.out 3).trans rfl⟩ (fun hHeld => ?_)
 clear hK K
 refine norm_ (a' := ?_) ?_ ?_
 rotate_left
 ·show Act.put _ (some 106) _ = _
  simp only [Act.put, zq1, zq2, zq3, i64_w, i32_w]
  rfl
 refine pure_ (i := 101) (N := some 107) (v := ?_) (a' := ?_) (ab 112 162259276829213363391578010288127) rfl rfl (any_of HT_.out (by kernel_rfl)) (fun _ _ _ h => h) (Or.inl ⟨by rfl, ?_⟩) ?_ ?_
 rotate_left
 ·intro w'
  go_simp
  with_reducible rfl
 rotate_left
 ·simp only [Act.put, zq1, zq2, zq3, i64_w, i32_w]
  rfl
 refine one_ (i := 107) (N := some 113) (ab 112 324518553658426726783156020576255) rfl rfl (one_of HT_.out (by kernel_rfl)) (by decide) (fun K hK => ?_)
 refine goesR_ Try.func24 (by kernel_rfl) rfl #[.int .i64 a0_3, .int .i64 a1_0] (by rfl) rfl rfl (by (try simp only [zm1, zm2, zm3]); first | done | rfl) ?_
 with_reducible refine (fix_Mul.calls k a0_3 a1_0 t193 _ A21.out).mono ?_
 rintro e w54 ⟨rfl, hb⟩
 refine ⟨_, rfl, ?_⟩
 have n0_ := Aside0.mk (Kd.R_below (by (with_reducible repeat (first | apply Kd.R_alloc | apply Kd.R_drewN | apply Kd.R_drew)); exact HO172.out) hb)
 have n1_ := Aside0.mk (Kd.R_below (by (with_reducible repeat (first | apply Kd.R_alloc | apply Kd.R_drewN | apply Kd.R_drew)); exact HO180.out) hb)
 have n2_ := Aside0.mk (Kd.R_below (by (with_reducible repeat (first | apply Kd.R_alloc | apply Kd.R_drewN | apply Kd.R_drew)); exact HO188.out) hb)
 have n3_ := Aside0.mk (bb hb BK163.out)
 have n4_ := Aside0.mk (bb hb BK164.out)
 have n5_ := Aside0.mk (bb hb BK165.out)
 have n6_ := Aside0.mk (below_step (by repeat (first | (with_reducible first | exact HB.out | apply below_alloc | apply pw_below_drewN | apply below_drew1 | refine below_set ?_ GE163.out | refine below_set ?_ GE164.out | refine below_set ?_ GE165.out) | exact HB.out)) hb)
 clear HO172
 clear HO180
 clear HO188
 clear BK163
 clear BK164
 clear BK165
 clear HB
 have HO172 := n0_
 have HO180 := n1_
 have HO188 := n2_
 have BK163 := n3_
 have BK164 := n4_
 have BK165 := n5_
 have HB := n6_
 clear n0_ n1_ n2_ n3_ n4_ n5_ n6_
 (try clear hb)
 (try clear hb2)
 (try clear hk)
 (try clear hi)
 refine hK.out _ _ ⟨(blk_cell BK163.out 0).trans rfl, (blk_cell BK163.out 1).trans rfl, (blk_cell BK163.out 2).trans rfl, (blk_cell BK163.out 3).trans rfl, (blk_cell BK164.out 0).trans rfl, (blk_cell BK164.out 1).trans rfl, (blk_cell BK164.out 2).trans rfl, (blk_cell BK164.out 3).trans rfl⟩ (fun hHeld => ?_)
 clear hK K
 refine norm_ (a' := ?_) ?_ ?_
 rotate_left
 ·show Act.put _ (some 113) _ = _
  simp only [Act.put, zq1, zq2, zq3, i64_w, i32_w]
  rfl
 refine one_ (i := 108) (N := some 114) (ab 112 649037107316853453566312041152511) rfl rfl (one_of HT_.out (by kernel_rfl)) (by decide) (fun K hK => ?_)
 refine Kd.R_lit_step (Kd.int .i64) _ 3 ?hg (N := 114) ?hd (xs := ([t190, t191, wrap64 (-t192), t193] : List Int)) (inner := [.int .i64 t190, .int .i64 t191, .int .i64 (wrap64 (-t192)), .int .i64 t193]) (ok := fun _ => True) (okp := fun _ => True) ?hr ?hp (fun _ hk => hk) trivial (Below.refl _ _) (Nat.le_refl _) (by simp) ?_; (case hd => rfl); (case hg => rfl); (case hr => first | (go_simp; done) | (go_simp; rfl)); (case hp => exact (Reps.one (show Kd.M (Kd.int .i64) _ _ _ t190 [.int .i64 t190] from rfl) (Reps.one (show Kd.M (Kd.int .i64) _ _ _ t191 [.int .i64 t191] from rfl) (Reps.one (show Kd.M (Kd.int .i64) _ _ _ (wrap64 (-t192)) [.int .i64 (wrap64 (-t192))] from rfl) (Reps.one (show Kd.M (Kd.int .i64) _ _ _ t193 [.int .i64 t193] from rfl) (Reps.none _ _))))))
 intro v195 w55 ho56 hb hg_ hnew_
 clear hg_ hnew_
 (first | rw [← Ny194.out] at ho56 | (simp only [Int.reduceToNat] at ho56; rw [← Ny194.out] at ho56))
 have n0_ := Aside0.mk (Kd.R_elder' (by (with_reducible repeat (first | apply Kd.R_alloc | apply Kd.R_drewN | apply Kd.R_drew)); exact HO172.out) (Kd.R_base ho56) hb)
 have n1_ := Aside0.mk (Kd.R_elder' (by (with_reducible repeat (first | apply Kd.R_alloc | apply Kd.R_drewN | apply Kd.R_drew)); exact HO180.out) (Kd.R_base ho56) hb)
 have n2_ := Aside0.mk (Kd.R_elder' (by (with_reducible repeat (first | apply Kd.R_alloc | apply Kd.R_drewN | apply Kd.R_drew)); exact HO188.out) (Kd.R_base ho56) hb)
 have n3_ := Aside0.mk (Kd.R_lower (Kd.R_new' (Kd.R_new' (Kd.R_new' ho56 (Kd.R_lt (by (with_reducible repeat (first | apply Kd.R_alloc | apply Kd.R_drewN | apply Kd.R_drew)); exact HO172.out))) (Kd.R_lt (by (with_reducible repeat (first | apply Kd.R_alloc | apply Kd.R_drewN | apply Kd.R_drew)); exact HO180.out))) (Kd.R_lt (by (with_reducible repeat (first | apply Kd.R_alloc | apply Kd.R_drewN | apply Kd.R_drew)); exact HO188.out))) (below_size (by repeat (first | (with_reducible first | exact HB.out | apply below_alloc | apply pw_below_drewN | apply below_drew1 | refine below_set ?_ GE163.out | refine below_set ?_ GE164.out | refine below_set ?_ GE165.out) | exact HB.out))))
 have n4_ := Aside0.mk (bb hb BK163.out)
 have n5_ := Aside0.mk (bb hb BK164.out)
 have n6_ := Aside0.mk (bb hb BK165.out)
 have n7_ := Aside0.mk (below_step (by repeat (first | (with_reducible first | exact HB.out | apply below_alloc | apply pw_below_drewN | apply below_drew1 | refine below_set ?_ GE163.out | refine below_set ?_ GE164.out | refine below_set ?_ GE165.out) | exact HB.out)) hb)
 clear HO172
 clear HO180
 clear HO188
 clear BK163
 clear BK164
 clear BK165
 clear HB
 have HO172 := n0_
 have HO180 := n1_
 have HO188 := n2_
 have HO196 := n3_
 have BK163 := n4_
 have BK164 := n5_
 have BK165 := n6_
 have HB := n7_
 clear n0_ n1_ n2_ n3_ n4_ n5_ n6_ n7_
 clear hb ho56
 obtain ⟨Ao57, co57, eo57⟩ := Kd.R_slice HO196.out
 (first | subst eo57 | (injection eo57 with f1_ f2_ f3_; have f4_ := f1_.symm; have f5_ := f3_.symm; clear f1_ f2_ f3_; subst f4_; subst f5_))
 refine hK.out _ _ ⟨(blk_cell BK163.out 0).trans rfl, (blk_cell BK163.out 1).trans rfl, (blk_cell BK163.out 2).trans rfl, (blk_cell BK163.out 3).trans rfl, (blk_cell BK164.out 0).trans rfl, (blk_cell BK164.out 1).trans rfl, (blk_cell BK164.out 2).trans rfl, (blk_cell BK164.out 3).trans rfl⟩ (fun hHeld => ?_)
 clear hK K
 refine norm_ (a' := ?_) ?_ ?_
 rotate_left
 ·show Act.put _ (some 114) _ = _
  simp only [Act.put, zq1, zq2, zq3, i64_w, i32_w]
  rfl
 refine one_ (i := 109) (N := some 115) (ab 112 1298074214633706907132624082305023) rfl rfl (one_of HT_.out (by kernel_rfl)) (by decide) (fun K hK => ?_)
 refine goes_ Try.func34 (by kernel_rfl) rfl #[.slice Ao57 y194.length co57] (by rfl) rfl rfl (by (try simp only [zm1, zm2, zm3]); first | done | rfl) ?_
 with_reducible refine (quat_sum.calls k _ _ y194 t197 _ ?side1 ?side2 A22.out).mono ?_
 (case side1 => repeat (first | exact (Kd.R_reads' HO196.out).2.2 | (with_reducible refine Kd.C_alloc ?_ _) | (with_reducible refine Kd.C_drewN ?_ _) | (with_reducible refine Kd.C_drew ?_)))
 (case side2 => exact (Kd.R_reads' HO196.out).2.1)
 rintro e w58 ⟨rfl, hb⟩
 refine ⟨_, rfl, ?_⟩
 have n0_ := Aside0.mk (Kd.R_below (by (with_reducible repeat (first | apply Kd.R_alloc | apply Kd.R_drewN | apply Kd.R_drew)); exact HO172.out) hb)
 have n1_ := Aside0.mk (Kd.R_below (by (with_reducible repeat (first | apply Kd.R_alloc | apply Kd.R_drewN | apply Kd.R_drew)); exact HO180.out) hb)
 have n2_ := Aside0.mk (Kd.R_below (by (with_reducible repeat (first | apply Kd.R_alloc | apply Kd.R_drewN | apply Kd.R_drew)); exact HO188.out) hb)
 have n3_ := Aside0.mk (Kd.R_below (by (with_reducible repeat (first | apply Kd.R_alloc | apply Kd.R_drewN | apply Kd.R_drew)); exact HO196.out) hb)
 have n4_ := Aside0.mk (bb hb BK163.out)
 have n5_ := Aside0.mk (bb hb BK164.out)
 have n6_ := Aside0.mk (bb hb BK165.out)
 have n7_ := Aside0.mk (below_step (by repeat (first | (with_reducible first | exact HB.out | apply below_alloc | apply pw_below_drewN | apply below_drew1 | refine below_set ?_ GE163.out | refine below_set ?_ GE164.out | refine below_set ?_ GE165.out) | exact HB.out)) hb)
 clear HO172
 clear HO180
 clear HO188
 clear HO196
 clear BK163
 clear BK164
 clear BK165
 clear HB
 have HO172 := n0_
 have HO180 := n1_
 have HO188 := n2_
 have HO196 := n3_
 have BK163 := n4_
 have BK164 := n5_
 have BK165 := n6_
 have HB := n7_
 clear n0_ n1_ n2_ n3_ n4_ n5_ n6_ n7_
 (try clear hb)
 (try clear hb2)
 (try clear hk)
 (try clear hi)
 refine hK.out _ _ ⟨(blk_cell BK163.out 0).trans rfl, (blk_cell BK163.out 1).trans rfl, (blk_cell BK163.out 2).trans rfl, (blk_cell BK163.out 3).trans rfl, (blk_cell BK164.out 0).trans rfl, (blk_cell BK164.out 1).trans rfl, (blk_cell BK164.out 2).trans rfl, (blk_cell BK164.out 3).trans rfl⟩ (fun hHeld => ?_)
 clear hK K
 refine norm_ (a' := ?_) ?_ ?_
 rotate_left
 ·show Act.put _ (some 115) _ = _
  simp only [Act.put, zq1, zq2, zq3, i64_w, i32_w]
  rfl
 refine pure_ (i := 110) (N := some 116) (v := ?_) (a' := ?_) (ab 112 2596148429267413814265248164610047) rfl rfl (any_of HT_.out (by kernel_rfl)) (fun _ _ _ h => h) (Or.inl ⟨by rfl, ?_⟩) ?_ ?_
 rotate_left
 ·intro w'
  go_simp
  with_reducible rfl
 rotate_left
 ·simp only [Act.put, zq1, zq2, zq3, i64_w, i32_w]
  rfl
 refine one_ (i := 111) (N := none) (ab 112 5192296858534827628530496329220095) rfl rfl (one_of HT_.out (by kernel_rfl)) (by decide) (fun K hK => ?_)
 have hs59 : w58.cell? ⟨gb165, 0, none⟩ = some (.int .i64 0) := (blk_cell BK165.out 0).trans rfl
 have hfs59 := blk_frozen BK165.out 0
 have hns59_0 := NB163_165.out
 have hns59_1 := NB164_165.out
 have hms59_0 := NB165_163.out
 have hms59_1 := NB165_164.out
 have hs60 : w58.cell? ⟨gb165, 1, none⟩ = some (.int .i64 0) := (blk_cell BK165.out 1).trans rfl
 have hfs60 := blk_frozen BK165.out 1
 have hns60_0 := NB163_165.out
 have hns60_1 := NB164_165.out
 have hms60_0 := NB165_163.out
 have hms60_1 := NB165_164.out
 have hs61 : w58.cell? ⟨gb165, 2, none⟩ = some (.int .i64 0) := (blk_cell BK165.out 2).trans rfl
 have hfs61 := blk_frozen BK165.out 2
 have hns61_0 := NB163_165.out
 have hns61_1 := NB164_165.out
 have hms61_0 := NB165_163.out
 have hms61_1 := NB165_164.out
 have hs62 : w58.cell? ⟨gb165, 3, none⟩ = some (.int .i64 0) := (blk_cell BK165.out 3).trans rfl
 have hfs62 := blk_frozen BK165.out 3
 have hns62_0 := NB163_165.out
 have hns62_1 := NB164_165.out
 have hms62_0 := NB165_163.out
 have hms62_1 := NB165_164.out
 refine skip_ (w1 := ?_) (by rfl) rfl ?_ ?_
 rotate_left
 ·go_simp
  rfl
 refine hK.out _ _ ⟨(cf NB163_165.out ((cf NB163_165.out ((cf NB163_165.out ((cf NB163_165.out (hHeld.1)))))))), (cf NB163_165.out ((cf NB163_165.out ((cf NB163_165.out ((cf NB163_165.out (hHeld.2.1)))))))), (cf NB163_165.out ((cf NB163_165.out ((cf NB163_165.out ((cf NB163_165.out (hHeld.2.2.1)))))))), (cf NB163_165.out ((cf NB163_165.out ((cf NB163_165.out ((cf NB163_165.out (hHeld.2.2.2.1)))))))), (cf NB164_165.out ((cf NB164_165.out ((cf NB164_165.out ((cf NB164_165.out (hHeld.2.2.2.2.1)))))))), (cf NB164_165.out ((cf NB164_165.out ((cf NB164_165.out ((cf NB164_165.out (hHeld.2.2.2.2.2.1)))))))), (cf NB164_165.out ((cf NB164_165.out ((cf NB164_165.out ((cf NB164_165.out (hHeld.2.2.2.2.2.2.1)))))))), (cf NB164_165.out ((cf NB164_165.out ((cf NB164_165.out ((cf NB164_165.out (hHeld.2.2.2.2.2.2.2))))))))⟩ (fun hHeld => ?_)
 clear hK K
 refine done_ (done_of HT_.out (by kernel_rfl)) ?_
 try go_wp2
 refine bodyPost_ret (results_cell_row rfl _ _ gb165 37 #[.int .i64 t173, .int .i64 t181, .int .i64 t189, .int .i64 t197] (0, 0) _ rfl (by (with_reducible repeat (first | refine blk_drewN ?_ _ | refine blk_drew ?_ | refine blk_alloc ?_ _)); refine blk_put (cs := #[.int .i64 t173, .int .i64 t181, .int .i64 t189, .int .i64 0]) ?_ 3 _ rfl; refine blk_put (cs := #[.int .i64 t173, .int .i64 t181, .int .i64 0, .int .i64 0]) ?_ 2 _ rfl; refine blk_put (cs := #[.int .i64 t173, .int .i64 0, .int .i64 0, .int .i64 0]) ?_ 1 _ rfl; refine blk_put (cs := #[.int .i64 0, .int .i64 0, .int .i64 0, .int .i64 0]) ?_ 0 _ rfl; exact BK165.out) Try.underlying37 rfl (by kernel_rfl)) rfl ?_
 exact ⟨by first | rfl | (simp [errW_none, errW_some] <;> rfl) | (simp [*, errW_none, errW_some] <;> rfl), by repeat (first | (with_reducible first | exact HB.out | apply below_alloc | apply pw_below_drewN | apply below_drew1 | refine below_set ?_ GE163.out | refine below_set ?_ GE164.out | refine below_set ?_ GE165.out) | exact HB.out)⟩

end Go.Proofs.Ytfallkiaojefnaa.PBonesLong
