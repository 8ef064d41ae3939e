-- Printed by a program: the print with changes of this session (wip/printpatch.py).
import Derived.Test.YtdopeneehminaaaPSteerTellsx0
import Derived.Test.YtdopeneehminaaaPSteerTellsx1
import Derived.Test.YtdopeneehminaaaPSteerTellsx2
import Derived.Test.YtdopeneehminaaaPSteerTellsx3
import Derived.Test.YtdopeneehminaaaPSteerTellsx5
import Derived.Test.YtdopeneehminaaaPSteerTellsx6
import Derived.Test.YtdopeneehminaaaPSteerTellsx7
import Derived.Test.YtdopeneehminaaaPSteerTellsx8
import Derived.Test.YtdopeneehminaaaPSteerTellsx9
import Derived.Test.YtdopeneehminaaaPSteerTellsx11
import Derived.Test.YtdopeneehminaaaPSteerTellsx12
import Derived.Test.YtdopeneehminaaaCalm
namespace Go.Proofs.Ytdopeneehminaaa.PSteerTells
open Go.Proofs.Ytdopeneehminaaa.Fnv Go.Proofs.Ytdopeneehminaaa.Ary Go.Proofs.Ytdopeneehminaaa.Ext
open Go.RowKit Go.Proofs.YtdopeneehminaaaW.PrintWords Go.Proofs.YtdopeneehminaaaW.PrintLast Go.Proofs.YtdopeneehminaaaW.PrintMore
attribute [local go_sem] max2_int min2_int max_two min_two max_three min_three max_four min_four   -- for this text's walks alone
set_option linter.unusedVariables false
set_option linter.unusedSimpArgs false

attribute [local go_sem high] eqA27 eqA29
/-! ### tourlaw5_SteerTells: function 4 -/
mutual
def tourlaw5_SteerTells.j0 : Nat → Int → Int → Bool → Int → Int → Int → Int → Int → Int → Int → Int → Option (Bool)
 | 0, _, _, _, _, _, _, _, _, _, _, _ => none
 | k + 1, x2, x3, x34, x280000, x280001, x280002, x280003, x280004, x280005, x281000, x281001 => if x34 = true then (none) else ((tourref5_MoverFault.f k x280000 x280001 x280002 x280003 x280004 x280005).bind fun t289 => ((steer_Seek.f k x280000 x280001 x280002 x280003 x280004 x280005 x281000 x281001).bind fun bt290 => ((steer_Flee.f k x280000 x280001 x280002 x280003 x280004 x280005 x281000 x281001).bind fun bt298 => ((steer_Arrive.f k x280000 x280001 x280002 x280003 x280004 x280005 x281000 x281001 x2).bind fun bt306 => ((steer_Check.f k x280000 x280001 x280002 x280003 x280004 x280005).bind fun t314 => (if t314 = t289 then ((steer_Short.f k x281000 x281001 x3).bind fun bt315 => ((tourref5_Cut.f k x281000 x281001 x3).bind fun bt317 => (tourlaw5_SteerTells.j1 k x2 t289 bt290.2.2.2.2.2.2 bt298.2.2.2.2.2.2 bt306.2.2.2.2.2.2 (!(bt315.1 == bt317.1) || (!(bt315.2 == bt317.2))) x280000 x280001 x280002 x280003 x280004 x280005 x281000 x281001 bt290.1 bt290.2.1 bt290.2.2.1 bt290.2.2.2.1 bt290.2.2.2.2.1 bt290.2.2.2.2.2.1 bt298.1 bt298.2.1 bt298.2.2.1 bt298.2.2.2.1 bt298.2.2.2.2.1 bt298.2.2.2.2.2.1 bt306.1 bt306.2.1 bt306.2.2.1 bt306.2.2.2.1 bt306.2.2.2.2.1 bt306.2.2.2.2.2.1))) else (tourlaw5_SteerTells.j1 k x2 t289 bt290.2.2.2.2.2.2 bt298.2.2.2.2.2.2 bt306.2.2.2.2.2.2 true x280000 x280001 x280002 x280003 x280004 x280005 x281000 x281001 bt290.1 bt290.2.1 bt290.2.2.1 bt290.2.2.2.1 bt290.2.2.2.2.1 bt290.2.2.2.2.2.1 bt298.1 bt298.2.1 bt298.2.2.1 bt298.2.2.2.1 bt298.2.2.2.2.1 bt298.2.2.2.2.2.1 bt306.1 bt306.2.1 bt306.2.2.1 bt306.2.2.2.1 bt306.2.2.2.2.1 bt306.2.2.2.2.2.1)))))))
def tourlaw5_SteerTells.j1 : Nat → Int → Int → Int → Int → Int → Bool → Int → Int → Int → Int → Int → Int → Int → Int → Int → Int → Int → Int → Int → Int → Int → Int → Int → Int → Int → Int → Int → Int → Int → Int → Int → Int → Option (Bool)
 | 0, _, _, _, _, _, _, _, _, _, _, _, _, _, _, _, _, _, _, _, _, _, _, _, _, _, _, _, _, _, _, _, _ => none
 | k + 1, x2, x11, x13, x15, x17, x68, x280000, x280001, x280002, x280003, x280004, x280005, x281000, x281001, x298000, x298001, x298002, x298003, x298004, x298005, x306000, x306001, x306002, x306003, x306004, x306005, x314000, x314001, x314002, x314003, x314004, x314005 => if x68 = true then (none) else (if x11 = 0 then ((vec_Sub.f x281000 x281001 x280000 x280001).bind fun bt320 => (if x13 = 0 then (if x15 = 0 then ((vec_Unit.f k bt320.1 bt320.2).bind fun bt323 => ((vec_Scale.f k bt323.1 bt323.2 x280004).bind fun bt325 => ((tourref5_Steered.f k x280000 x280001 x280002 x280003 x280004 x280005 bt325.1 bt325.2).bind fun bt327 => (if ((!(x298000 == bt327.1) || (!(x298001 == bt327.2.1))) || ((!(x298002 == bt327.2.2.1) || (!(x298003 == bt327.2.2.2.1))) || (!(x298004 == bt327.2.2.2.2.1) || (!(x298005 == bt327.2.2.2.2.2))))) = true then (tourlaw5_SteerTells.j2 k x2 x17 true x280000 x280001 x280002 x280003 x280004 x280005 x314000 x314001 x314002 x314003 x314004 x314005 0 0 0 0 0 0 bt320.1 bt320.2) else ((vec_Sub.f x280000 x280001 x281000 x281001).bind fun bt333 => ((vec_Unit.f k bt333.1 bt333.2).bind fun bt335 => ((vec_Scale.f k bt335.1 bt335.2 x280004).bind fun bt337 => ((tourref5_Steered.f k x280000 x280001 x280002 x280003 x280004 x280005 bt337.1 bt337.2).bind fun bt339 => (tourlaw5_SteerTells.j2 k x2 x17 ((!(x306000 == bt339.1) || (!(x306001 == bt339.2.1))) || ((!(x306002 == bt339.2.2.1) || (!(x306003 == bt339.2.2.2.1))) || (!(x306004 == bt339.2.2.2.2.1) || (!(x306005 == bt339.2.2.2.2.2))))) x280000 x280001 x280002 x280003 x280004 x280005 x314000 x314001 x314002 x314003 x314004 x314005 0 0 0 0 0 0 bt320.1 bt320.2))))))))) else (tourlaw5_SteerTells.j2 k x2 x17 true x280000 x280001 x280002 x280003 x280004 x280005 x314000 x314001 x314002 x314003 x314004 x314005 0 0 0 0 0 0 bt320.1 bt320.2)) else (tourlaw5_SteerTells.j2 k x2 x17 true x280000 x280001 x280002 x280003 x280004 x280005 x314000 x314001 x314002 x314003 x314004 x314005 0 0 0 0 0 0 bt320.1 bt320.2))) else (if x13 = x11 then (if x15 = x11 then (if x17 = x11 then (if ((x298000 == 0 && (x298001 == 0)) && ((x298002 == 0 && (x298003 == 0)) && (x298004 == 0 && (x298005 == 0)))) = true then (if ((x306000 == 0 && (x306001 == 0)) && ((x306002 == 0 && (x306003 == 0)) && (x306004 == 0 && (x306005 == 0)))) = true then (some ((x314000 == 0 && (x314001 == 0)) && ((x314002 == 0 && (x314003 == 0)) && (x314004 == 0 && (x314005 == 0))))) else (none)) else (none)) else (none)) else (none)) else (none)))
def tourlaw5_SteerTells.j2 : Nat → Int → Int → Bool → Int → Int → Int → Int → Int → Int → Int → Int → Int → Int → Int → Int → Int → Int → Int → Int → Int → Int → Int → Int → Option (Bool)
 | 0, _, _, _, _, _, _, _, _, _, _, _, _, _, _, _, _, _, _, _, _, _, _, _ => none
 | k + 1, x2, x17, x134, x280000, x280001, x280002, x280003, x280004, x280005, x314000, x314001, x314002, x314003, x314004, x314005, x320000, x320001, x320002, x320003, x320004, x320005, x323000, x323001 => if x134 = true then (none) else (if x2 < 1 then (tourlaw5_SteerTells.j3 k x2 x17 true x280000 x280001 x280002 x280003 x280004 x280005 x314000 x314001 x314002 x314003 x314004 x314005 x320000 x320001 x320002 x320003 x320004 x320005 x323000 x323001) else (tourlaw5_SteerTells.j3 k x2 x17 (decide (x2 > 1099511627776)) x280000 x280001 x280002 x280003 x280004 x280005 x314000 x314001 x314002 x314003 x314004 x314005 x320000 x320001 x320002 x320003 x320004 x320005 x323000 x323001))
def tourlaw5_SteerTells.j3 : Nat → Int → Int → Bool → Int → Int → Int → Int → Int → Int → Int → Int → Int → Int → Int → Int → Int → Int → Int → Int → Int → Int → Int → Int → Option (Bool)
 | 0, _, _, _, _, _, _, _, _, _, _, _, _, _, _, _, _, _, _, _, _, _, _, _ => none
 | k + 1, x2, x17, x140, x280000, x280001, x280002, x280003, x280004, x280005, x314000, x314001, x314002, x314003, x314004, x314005, x320000, x320001, x320002, x320003, x320004, x320005, x323000, x323001 => if x140 = true then (if x17 = 1 then (some ((x314000 == x320000 && (x314001 == x320001)) && ((x314002 == x320002 && (x314003 == x320003)) && (x314004 == x320004 && (x314005 == x320005))))) else (none)) else ((vec_Len.f k x323000 x323001).bind fun t345 => (if t345 < x2 then ((vec_Len.f k x323000 x323001).bind fun t346 => ((fix_MulDiv.f k x280004 t346 x2).bind fun t347 => (if x17 = 0 then ((vec_Unit.f k x323000 x323001).bind fun bt348 => ((vec_Scale.f k bt348.1 bt348.2 t347).bind fun bt350 => ((tourref5_Steered.f k x280000 x280001 x280002 x280003 x280004 x280005 bt350.1 bt350.2).bind fun bt352 => (some ((x314000 == bt352.1 && (x314001 == bt352.2.1)) && ((x314002 == bt352.2.2.1 && (x314003 == bt352.2.2.2.1)) && (x314004 == bt352.2.2.2.2.1 && (x314005 == bt352.2.2.2.2.2)))))))) else (none)))) else (if x17 = 0 then ((vec_Unit.f k x323000 x323001).bind fun bt358 => ((vec_Scale.f k bt358.1 bt358.2 x280004).bind fun bt360 => ((tourref5_Steered.f k x280000 x280001 x280002 x280003 x280004 x280005 bt360.1 bt360.2).bind fun bt362 => (some ((x314000 == bt362.1 && (x314001 == bt362.2.1)) && ((x314002 == bt362.2.2.1 && (x314003 == bt362.2.2.2.1)) && (x314004 == bt362.2.2.2.2.1 && (x314005 == bt362.2.2.2.2.2)))))))) else (none))))
end
def tourlaw5_SteerTells.f (k : Nat) (a0_0 : Int) (a0_1 : Int) (a0_2 : Int) (a0_3 : Int) (a0_4 : Int) (a0_5 : Int) (a1_0 : Int) (a1_1 : Int) (a2 : Int) (a3 : Int) : Option (Bool) := (steer_Seek.f k 0 0 0 0 65536 65536 589824 0).bind fun bt281 => (if bt281.2.2.2.2.2.2 = 0 then (tourlaw5_SteerTells.j0 k a2 a3 (!(bt281.1 == 65536) || (!(bt281.2.1 == 0))) a0_0 a0_1 a0_2 a0_3 a0_4 a0_5 a1_0 a1_1) else (tourlaw5_SteerTells.j0 k a2 a3 true a0_0 a0_1 a0_2 a0_3 a0_4 a0_5 a1_0 a1_1))
theorem tourlaw5_SteerTells.mono_l : ∀ k, (∀ y0 y1 y2 y3 y4 y5 y6 y7 y8 y9 y10, LeO (tourlaw5_SteerTells.j0 k y0 y1 y2 y3 y4 y5 y6 y7 y8 y9 y10) (tourlaw5_SteerTells.j0 (k + 1) y0 y1 y2 y3 y4 y5 y6 y7 y8 y9 y10)) ∧ (∀ y0 y1 y2 y3 y4 y5 y6 y7 y8 y9 y10 y11 y12 y13 y14 y15 y16 y17 y18 y19 y20 y21 y22 y23 y24 y25 y26 y27 y28 y29 y30 y31, LeO (tourlaw5_SteerTells.j1 k y0 y1 y2 y3 y4 y5 y6 y7 y8 y9 y10 y11 y12 y13 y14 y15 y16 y17 y18 y19 y20 y21 y22 y23 y24 y25 y26 y27 y28 y29 y30 y31) (tourlaw5_SteerTells.j1 (k + 1) y0 y1 y2 y3 y4 y5 y6 y7 y8 y9 y10 y11 y12 y13 y14 y15 y16 y17 y18 y19 y20 y21 y22 y23 y24 y25 y26 y27 y28 y29 y30 y31)) ∧ (∀ y0 y1 y2 y3 y4 y5 y6 y7 y8 y9 y10 y11 y12 y13 y14 y15 y16 y17 y18 y19 y20 y21 y22, LeO (tourlaw5_SteerTells.j2 k y0 y1 y2 y3 y4 y5 y6 y7 y8 y9 y10 y11 y12 y13 y14 y15 y16 y17 y18 y19 y20 y21 y22) (tourlaw5_SteerTells.j2 (k + 1) y0 y1 y2 y3 y4 y5 y6 y7 y8 y9 y10 y11 y12 y13 y14 y15 y16 y17 y18 y19 y20 y21 y22)) ∧ (∀ y0 y1 y2 y3 y4 y5 y6 y7 y8 y9 y10 y11 y12 y13 y14 y15 y16 y17 y18 y19 y20 y21 y22, LeO (tourlaw5_SteerTells.j3 k y0 y1 y2 y3 y4 y5 y6 y7 y8 y9 y10 y11 y12 y13 y14 y15 y16 y17 y18 y19 y20 y21 y22) (tourlaw5_SteerTells.j3 (k + 1) y0 y1 y2 y3 y4 y5 y6 y7 y8 y9 y10 y11 y12 y13 y14 y15 y16 y17 y18 y19 y20 y21 y22))
 | 0 => ⟨fun _ _ _ _ _ _ _ _ _ _ _ r h => by simp [tourlaw5_SteerTells.j0] at h, fun _ _ _ _ _ _ _ _ _ _ _ _ _ _ _ _ _ _ _ _ _ _ _ _ _ _ _ _ _ _ _ _ r h => by simp [tourlaw5_SteerTells.j1] at h, fun _ _ _ _ _ _ _ _ _ _ _ _ _ _ _ _ _ _ _ _ _ _ _ r h => by simp [tourlaw5_SteerTells.j2] at h, fun _ _ _ _ _ _ _ _ _ _ _ _ _ _ _ _ _ _ _ _ _ _ _ r h => by simp [tourlaw5_SteerTells.j3] at h⟩
 | k + 1 => by
  obtain ⟨ih0, ih1, ih2, ih3⟩ := tourlaw5_SteerTells.mono_l k
  refine ⟨?_, ?_, ?_, ?_⟩
  ·intro y0 y1 y2 y3 y4 y5 y6 y7 y8 y9 y10
   unfold tourlaw5_SteerTells.j0
   repeat' first
   | (with_reducible exact ih0 _ _ _ _ _ _ _ _ _ _ _)
   | (with_reducible exact ih1 _ _ _ _ _ _ _ _ _ _ _ _ _ _ _ _ _ _ _ _ _ _ _ _ _ _ _ _ _ _ _ _)
   | (with_reducible exact ih2 _ _ _ _ _ _ _ _ _ _ _ _ _ _ _ _ _ _ _ _ _ _ _)
   | (with_reducible exact ih3 _ _ _ _ _ _ _ _ _ _ _ _ _ _ _ _ _ _ _ _ _ _ _)
   | (with_reducible exact fix_MulDiv.mono _ _ _ _)
   | (with_reducible exact steer_Arrive.mono _ _ _ _ _ _ _ _ _ _)
   | (with_reducible exact steer_Check.mono _ _ _ _ _ _ _)
   | (with_reducible exact steer_Flee.mono _ _ _ _ _ _ _ _ _)
   | (with_reducible exact steer_Seek.mono _ _ _ _ _ _ _ _ _)
   | (with_reducible exact steer_Short.mono _ _ _ _)
   | (with_reducible exact tourref5_Cut.mono _ _ _ _)
   | (with_reducible exact tourref5_MoverFault.mono _ _ _ _ _ _ _)
   | (with_reducible exact tourref5_Steered.mono _ _ _ _ _ _ _ _ _)
   | (with_reducible exact vec_Len.mono _ _ _)
   | (with_reducible exact vec_Scale.mono _ _ _ _)
   | (with_reducible exact vec_Unit.mono _ _ _)
   | (with_reducible exact LeO.refl _)
   | (with_reducible exact LeO.none _)
   | (with_reducible refine LeO.ite ?_ ?_)
   | (with_reducible refine LeO.bind ?_ (fun _ => ?_))
   | exact ih0 _ _ _ _ _ _ _ _ _ _ _
   | exact ih1 _ _ _ _ _ _ _ _ _ _ _ _ _ _ _ _ _ _ _ _ _ _ _ _ _ _ _ _ _ _ _ _
   | exact ih2 _ _ _ _ _ _ _ _ _ _ _ _ _ _ _ _ _ _ _ _ _ _ _
   | exact ih3 _ _ _ _ _ _ _ _ _ _ _ _ _ _ _ _ _ _ _ _ _ _ _
   | exact fix_MulDiv.mono _ _ _ _
   | exact steer_Arrive.mono _ _ _ _ _ _ _ _ _ _
   | exact steer_Check.mono _ _ _ _ _ _ _
   | exact steer_Flee.mono _ _ _ _ _ _ _ _ _
   | exact steer_Seek.mono _ _ _ _ _ _ _ _ _
   | exact steer_Short.mono _ _ _ _
   | exact tourref5_Cut.mono _ _ _ _
   | exact tourref5_MoverFault.mono _ _ _ _ _ _ _
   | exact tourref5_Steered.mono _ _ _ _ _ _ _ _ _
   | exact vec_Len.mono _ _ _
   | exact vec_Scale.mono _ _ _ _
   | exact vec_Unit.mono _ _ _
   | exact LeO.none _
   | refine LeO.ite ?_ ?_
   | refine LeO.bind ?_ (fun _ => ?_)
  ·intro y0 y1 y2 y3 y4 y5 y6 y7 y8 y9 y10 y11 y12 y13 y14 y15 y16 y17 y18 y19 y20 y21 y22 y23 y24 y25 y26 y27 y28 y29 y30 y31
   unfold tourlaw5_SteerTells.j1
   repeat' first
   | (with_reducible exact ih0 _ _ _ _ _ _ _ _ _ _ _)
   | (with_reducible exact ih1 _ _ _ _ _ _ _ _ _ _ _ _ _ _ _ _ _ _ _ _ _ _ _ _ _ _ _ _ _ _ _ _)
   | (with_reducible exact ih2 _ _ _ _ _ _ _ _ _ _ _ _ _ _ _ _ _ _ _ _ _ _ _)
   | (with_reducible exact ih3 _ _ _ _ _ _ _ _ _ _ _ _ _ _ _ _ _ _ _ _ _ _ _)
   | (with_reducible exact fix_MulDiv.mono _ _ _ _)
   | (with_reducible exact steer_Arrive.mono _ _ _ _ _ _ _ _ _ _)
   | (with_reducible exact steer_Check.mono _ _ _ _ _ _ _)
   | (with_reducible exact steer_Flee.mono _ _ _ _ _ _ _ _ _)
   | (with_reducible exact steer_Seek.mono _ _ _ _ _ _ _ _ _)
   | (with_reducible exact steer_Short.mono _ _ _ _)
   | (with_reducible exact tourref5_Cut.mono _ _ _ _)
   | (with_reducible exact tourref5_MoverFault.mono _ _ _ _ _ _ _)
   | (with_reducible exact tourref5_Steered.mono _ _ _ _ _ _ _ _ _)
   | (with_reducible exact vec_Len.mono _ _ _)
   | (with_reducible exact vec_Scale.mono _ _ _ _)
   | (with_reducible exact vec_Unit.mono _ _ _)
   | (with_reducible exact LeO.refl _)
   | (with_reducible exact LeO.none _)
   | (with_reducible refine LeO.ite ?_ ?_)
   | (with_reducible refine LeO.bind ?_ (fun _ => ?_))
   | exact ih0 _ _ _ _ _ _ _ _ _ _ _
   | exact ih1 _ _ _ _ _ _ _ _ _ _ _ _ _ _ _ _ _ _ _ _ _ _ _ _ _ _ _ _ _ _ _ _
   | exact ih2 _ _ _ _ _ _ _ _ _ _ _ _ _ _ _ _ _ _ _ _ _ _ _
   | exact ih3 _ _ _ _ _ _ _ _ _ _ _ _ _ _ _ _ _ _ _ _ _ _ _
   | exact fix_MulDiv.mono _ _ _ _
   | exact steer_Arrive.mono _ _ _ _ _ _ _ _ _ _
   | exact steer_Check.mono _ _ _ _ _ _ _
   | exact steer_Flee.mono _ _ _ _ _ _ _ _ _
   | exact steer_Seek.mono _ _ _ _ _ _ _ _ _
   | exact steer_Short.mono _ _ _ _
   | exact tourref5_Cut.mono _ _ _ _
   | exact tourref5_MoverFault.mono _ _ _ _ _ _ _
   | exact tourref5_Steered.mono _ _ _ _ _ _ _ _ _
   | exact vec_Len.mono _ _ _
   | exact vec_Scale.mono _ _ _ _
   | exact vec_Unit.mono _ _ _
   | exact LeO.none _
   | refine LeO.ite ?_ ?_
   | refine LeO.bind ?_ (fun _ => ?_)
  ·intro y0 y1 y2 y3 y4 y5 y6 y7 y8 y9 y10 y11 y12 y13 y14 y15 y16 y17 y18 y19 y20 y21 y22
   unfold tourlaw5_SteerTells.j2
   repeat' first
   | (with_reducible exact ih0 _ _ _ _ _ _ _ _ _ _ _)
   | (with_reducible exact ih1 _ _ _ _ _ _ _ _ _ _ _ _ _ _ _ _ _ _ _ _ _ _ _ _ _ _ _ _ _ _ _ _)
   | (with_reducible exact ih2 _ _ _ _ _ _ _ _ _ _ _ _ _ _ _ _ _ _ _ _ _ _ _)
   | (with_reducible exact ih3 _ _ _ _ _ _ _ _ _ _ _ _ _ _ _ _ _ _ _ _ _ _ _)
   | (with_reducible exact fix_MulDiv.mono _ _ _ _)
   | (with_reducible exact steer_Arrive.mono _ _ _ _ _ _ _ _ _ _)
   | (with_reducible exact steer_Check.mono _ _ _ _ _ _ _)
   | (with_reducible exact steer_Flee.mono _ _ _ _ _ _ _ _ _)
   | (with_reducible exact steer_Seek.mono _ _ _ _ _ _ _ _ _)
   | (with_reducible exact steer_Short.mono _ _ _ _)
   | (with_reducible exact tourref5_Cut.mono _ _ _ _)
   | (with_reducible exact tourref5_MoverFault.mono _ _ _ _ _ _ _)
   | (with_reducible exact tourref5_Steered.mono _ _ _ _ _ _ _ _ _)
   | (with_reducible exact vec_Len.mono _ _ _)
   | (with_reducible exact vec_Scale.mono _ _ _ _)
   | (with_reducible exact vec_Unit.mono _ _ _)
   | (with_reducible exact LeO.refl _)
   | (with_reducible exact LeO.none _)
   | (with_reducible refine LeO.ite ?_ ?_)
   | (with_reducible refine LeO.bind ?_ (fun _ => ?_))
   | exact ih0 _ _ _ _ _ _ _ _ _ _ _
   | exact ih1 _ _ _ _ _ _ _ _ _ _ _ _ _ _ _ _ _ _ _ _ _ _ _ _ _ _ _ _ _ _ _ _
   | exact ih2 _ _ _ _ _ _ _ _ _ _ _ _ _ _ _ _ _ _ _ _ _ _ _
   | exact ih3 _ _ _ _ _ _ _ _ _ _ _ _ _ _ _ _ _ _ _ _ _ _ _
   | exact fix_MulDiv.mono _ _ _ _
   | exact steer_Arrive.mono _ _ _ _ _ _ _ _ _ _
   | exact steer_Check.mono _ _ _ _ _ _ _
   | exact steer_Flee.mono _ _ _ _ _ _ _ _ _
   | exact steer_Seek.mono _ _ _ _ _ _ _ _ _
   | exact steer_Short.mono _ _ _ _
   | exact tourref5_Cut.mono _ _ _ _
   | exact tourref5_MoverFault.mono _ _ _ _ _ _ _
   | exact tourref5_Steered.mono _ _ _ _ _ _ _ _ _
   | exact vec_Len.mono _ _ _
   | exact vec_Scale.mono _ _ _ _
   | exact vec_Unit.mono _ _ _
   | exact LeO.none _
   | refine LeO.ite ?_ ?_
   | refine LeO.bind ?_ (fun _ => ?_)
  ·intro y0 y1 y2 y3 y4 y5 y6 y7 y8 y9 y10 y11 y12 y13 y14 y15 y16 y17 y18 y19 y20 y21 y22
   unfold tourlaw5_SteerTells.j3
   repeat' first
   | (with_reducible exact ih0 _ _ _ _ _ _ _ _ _ _ _)
   | (with_reducible exact ih1 _ _ _ _ _ _ _ _ _ _ _ _ _ _ _ _ _ _ _ _ _ _ _ _ _ _ _ _ _ _ _ _)
   | (with_reducible exact ih2 _ _ _ _ _ _ _ _ _ _ _ _ _ _ _ _ _ _ _ _ _ _ _)
   | (with_reducible exact ih3 _ _ _ _ _ _ _ _ _ _ _ _ _ _ _ _ _ _ _ _ _ _ _)
   | (with_reducible exact fix_MulDiv.mono _ _ _ _)
   | (with_reducible exact steer_Arrive.mono _ _ _ _ _ _ _ _ _ _)
   | (with_reducible exact steer_Check.mono _ _ _ _ _ _ _)
   | (with_reducible exact steer_Flee.mono _ _ _ _ _ _ _ _ _)
   | (with_reducible exact steer_Seek.mono _ _ _ _ _ _ _ _ _)
   | (with_reducible exact steer_Short.mono _ _ _ _)
   | (with_reducible exact tourref5_Cut.mono _ _ _ _)
   | (with_reducible exact tourref5_MoverFault.mono _ _ _ _ _ _ _)
   | (with_reducible exact tourref5_Steered.mono _ _ _ _ _ _ _ _ _)
   | (with_reducible exact vec_Len.mono _ _ _)
   | (with_reducible exact vec_Scale.mono _ _ _ _)
   | (with_reducible exact vec_Unit.mono _ _ _)
   | (with_reducible exact LeO.refl _)
   | (with_reducible exact LeO.none _)
   | (with_reducible refine LeO.ite ?_ ?_)
   | (with_reducible refine LeO.bind ?_ (fun _ => ?_))
   | exact ih0 _ _ _ _ _ _ _ _ _ _ _
   | exact ih1 _ _ _ _ _ _ _ _ _ _ _ _ _ _ _ _ _ _ _ _ _ _ _ _ _ _ _ _ _ _ _ _
   | exact ih2 _ _ _ _ _ _ _ _ _ _ _ _ _ _ _ _ _ _ _ _ _ _ _
   | exact ih3 _ _ _ _ _ _ _ _ _ _ _ _ _ _ _ _ _ _ _ _ _ _ _
   | exact fix_MulDiv.mono _ _ _ _
   | exact steer_Arrive.mono _ _ _ _ _ _ _ _ _ _
   | exact steer_Check.mono _ _ _ _ _ _ _
   | exact steer_Flee.mono _ _ _ _ _ _ _ _ _
   | exact steer_Seek.mono _ _ _ _ _ _ _ _ _
   | exact steer_Short.mono _ _ _ _
   | exact tourref5_Cut.mono _ _ _ _
   | exact tourref5_MoverFault.mono _ _ _ _ _ _ _
   | exact tourref5_Steered.mono _ _ _ _ _ _ _ _ _
   | exact vec_Len.mono _ _ _
   | exact vec_Scale.mono _ _ _ _
   | exact vec_Unit.mono _ _ _
   | exact LeO.none _
   | refine LeO.ite ?_ ?_
   | refine LeO.bind ?_ (fun _ => ?_)
theorem tourlaw5_SteerTells.mono : ∀ a0 a1 a2 a3 a4 a5 a6 a7 a8 a9 k, LeO (tourlaw5_SteerTells.f k a0 a1 a2 a3 a4 a5 a6 a7 a8 a9) (tourlaw5_SteerTells.f (k + 1) a0 a1 a2 a3 a4 a5 a6 a7 a8 a9) := by
 intro a0 a1 a2 a3 a4 a5 a6 a7 a8 a9 k
 obtain ⟨ih0, ih1, ih2, ih3⟩ := tourlaw5_SteerTells.mono_l k
 unfold tourlaw5_SteerTells.f
 repeat' first
   | (with_reducible exact ih0 _ _ _ _ _ _ _ _ _ _ _)
   | (with_reducible exact ih1 _ _ _ _ _ _ _ _ _ _ _ _ _ _ _ _ _ _ _ _ _ _ _ _ _ _ _ _ _ _ _ _)
   | (with_reducible exact ih2 _ _ _ _ _ _ _ _ _ _ _ _ _ _ _ _ _ _ _ _ _ _ _)
   | (with_reducible exact ih3 _ _ _ _ _ _ _ _ _ _ _ _ _ _ _ _ _ _ _ _ _ _ _)
   | (with_reducible exact fix_MulDiv.mono _ _ _ _)
   | (with_reducible exact steer_Arrive.mono _ _ _ _ _ _ _ _ _ _)
   | (with_reducible exact steer_Check.mono _ _ _ _ _ _ _)
   | (with_reducible exact steer_Flee.mono _ _ _ _ _ _ _ _ _)
   | (with_reducible exact steer_Seek.mono _ _ _ _ _ _ _ _ _)
   | (with_reducible exact steer_Short.mono _ _ _ _)
   | (with_reducible exact tourref5_Cut.mono _ _ _ _)
   | (with_reducible exact tourref5_MoverFault.mono _ _ _ _ _ _ _)
   | (with_reducible exact tourref5_Steered.mono _ _ _ _ _ _ _ _ _)
   | (with_reducible exact vec_Len.mono _ _ _)
   | (with_reducible exact vec_Scale.mono _ _ _ _)
   | (with_reducible exact vec_Unit.mono _ _ _)
   | (with_reducible exact LeO.refl _)
   | (with_reducible exact LeO.none _)
   | (with_reducible refine LeO.ite ?_ ?_)
   | (with_reducible refine LeO.bind ?_ (fun _ => ?_))
   | exact ih0 _ _ _ _ _ _ _ _ _ _ _
   | exact ih1 _ _ _ _ _ _ _ _ _ _ _ _ _ _ _ _ _ _ _ _ _ _ _ _ _ _ _ _ _ _ _ _
   | exact ih2 _ _ _ _ _ _ _ _ _ _ _ _ _ _ _ _ _ _ _ _ _ _ _
   | exact ih3 _ _ _ _ _ _ _ _ _ _ _ _ _ _ _ _ _ _ _ _ _ _ _
   | exact fix_MulDiv.mono _ _ _ _
   | exact steer_Arrive.mono _ _ _ _ _ _ _ _ _ _
   | exact steer_Check.mono _ _ _ _ _ _ _
   | exact steer_Flee.mono _ _ _ _ _ _ _ _ _
   | exact steer_Seek.mono _ _ _ _ _ _ _ _ _
   | exact steer_Short.mono _ _ _ _
   | exact tourref5_Cut.mono _ _ _ _
   | exact tourref5_MoverFault.mono _ _ _ _ _ _ _
   | exact tourref5_Steered.mono _ _ _ _ _ _ _ _ _
   | exact vec_Len.mono _ _ _
   | exact vec_Scale.mono _ _ _ _
   | exact vec_Unit.mono _ _ _
   | exact LeO.none _
   | refine LeO.ite ?_ ?_
   | refine LeO.bind ?_ (fun _ => ?_)
def tourlaw5_SteerTells.T8 : Bool × List (List Nat × List Nat) := (true, [([], []), ([0], [0]), ([], []), ([1, 2], [1, 2]), ([3, 1], [3]), ([4], [4]), ([4], [4]), ([5, 6, 4, 4], [4, 5, 6]), ([4], [4]), ([4], [4]), ([8, 9, 7, 4], [4, 8, 9]), ([7, 10, 4], [4, 7, 10]), ([4, 11], [4, 11])])
def tourlaw5_SteerTells.B8 : List Nat := [0, 1, 0, 7, 15, 31, 31, 127, 31, 31, 1023, 2047, 4095]
theorem tourlaw5_SteerTells.tab8 : rtab .any (opsOf Try.f4 8) = tourlaw5_SteerTells.T8 := by kernel_rfl
theorem tourlaw5_SteerTells.bits8 : waitsOk tourlaw5_SteerTells.T8.2 tourlaw5_SteerTells.B8 = true := by kernel_rfl
def tourlaw5_SteerTells.T14 : Bool × List (List Nat × List Nat) := (true, [([], []), ([0], [0]), ([1], [1]), ([2], [2]), ([3, 2], [2, 3]), ([2, 4], [2, 4]), ([5, 2], [5]), ([6], [6]), ([6], [6]), ([6], [6]), ([9, 6, 6], [6, 9]), ([6], [6]), ([11, 6], [6, 11]), ([10, 12, 10, 6], [6, 10, 12]), ([8, 13, 13, 6], [6, 8, 13]), ([7, 14, 6], [6, 7, 14]), ([6, 15], [6, 15]), ([16, 14], [16]), ([17], [17]), ([17], [17]), ([17], [17]), ([20, 17], [17, 20]), ([17], [17]), ([21, 22, 17, 17], [17, 21, 22]), ([23, 23, 17], [17, 23]), ([17], [17]), ([25, 17], [17, 25]), ([24, 26, 24, 17], [17, 24, 26]), ([19, 27, 27, 17], [17, 19, 27]), ([18, 28, 17], [17, 18, 28]), ([17, 29], [17, 29])])
def tourlaw5_SteerTells.B14 : List Nat := [0, 1, 3, 7, 15, 31, 63, 127, 127, 127, 639, 127, 2175, 7807, 16255, 32767, 65535, 131071, 262143, 262143, 262143, 1310719, 262143, 7602175, 15990783, 262143, 33816575, 133431295, 268173311, 536870911, 1073741823]
theorem tourlaw5_SteerTells.tab14 : rtab .any (opsOf Try.f4 14) = tourlaw5_SteerTells.T14 := by kernel_rfl
theorem tourlaw5_SteerTells.bits14 : waitsOk tourlaw5_SteerTells.T14.2 tourlaw5_SteerTells.B14 = true := by kernel_rfl
def tourlaw5_SteerTells.T21 : Bool × List (List Nat × List Nat) := (true, [([], []), ([0], [0]), ([1], [1]), ([2], [2]), ([2], [2]), ([2], [2]), ([5, 2, 2], [2, 5]), ([2], [2]), ([6, 7, 6, 2], [2, 6, 7]), ([4, 8, 8, 2], [2, 4, 8]), ([3, 9, 2], [2, 3, 9]), ([2, 10], [2, 10]), ([11, 9, 0, 1, 2, 3, 4, 5, 6, 7, 8, 9, 10, 11], [11])])
def tourlaw5_SteerTells.B21 : List Nat := [0, 1, 3, 7, 7, 7, 39, 7, 231, 503, 1023, 2047, 4095]
theorem tourlaw5_SteerTells.tab21 : rtab .any (opsOf Try.f4 21) = tourlaw5_SteerTells.T21 := by kernel_rfl
theorem tourlaw5_SteerTells.bits21 : waitsOk tourlaw5_SteerTells.T21.2 tourlaw5_SteerTells.B21 = true := by kernel_rfl
end Go.Proofs.Ytdopeneehminaaa.PSteerTells
