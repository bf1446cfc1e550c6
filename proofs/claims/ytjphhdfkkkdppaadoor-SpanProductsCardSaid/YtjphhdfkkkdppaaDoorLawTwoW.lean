/- The walk of monoclelaw02.works. Printed by wip/genW2.py. -/
import Derived.Test.YtjphhdfkkkdppaaDoorLawTwo
namespace Go.Proofs.YtjphhdfkkkdppaaDoor
open Go.RowKit Mnc

theorem v2_0 : sAdd (4294967296, 8589934592) (12884901888, 17179869184) = ((17179869184, 25769803776), 0) := by decide +kernel
theorem v2_1 : sSub (4294967296, 8589934592) (12884901888, 17179869184) = (((-12884901888), (-4294967296)), 0) := by decide +kernel
theorem v2_2 : sNeg (4294967296, 8589934592) = (((-8589934592), (-4294967296)), 0) := by decide +kernel
theorem v2_3 : sMul ((-4294967296), 8589934592) ((-12884901888), 17179869184) = (((-25769803776), 34359738368), 0) := by decide +kernel
theorem v2_4 : sPow ((-4294967296), 8589934592) 2 = ((0, 17179869184), 0) := by decide +kernel
theorem v2_5 : sPow ((-8589934592), 4294967296) 3 = (((-34359738368), 4294967296), 0) := by decide +kernel
theorem v2_6 : sDiv (4294967296, 8589934592) ((-17179869184), (-8589934592)) = (((-4294967296), (-1073741824)), 0) := by decide +kernel
theorem v2_7 : sDiv (4294967296, 8589934592) (0, 4294967296) = ((0, 0), 7) := by decide +kernel
theorem v2_8 : sSqrt (17179869184, 38654705664) = ((8589934592, 12884901888), 0) := by
  have e : sSqrt (17179869184, 38654705664) = _ := on1_ok (by decide)
  rw [e, if_neg (by decide), show (17179869184, 38654705664).1 = ((17179869184 : Nat) : Int) from rfl, show (17179869184, 38654705664).2 = ((38654705664 : Nat) : Int) from rfl, rt_down (a := 17179869184) (r := 8589934592) (by omega) (by omega) (by omega), rt_up_eq (a := 38654705664) (r := 12884901888) (by omega) (by omega)]
  rfl
theorem v2_9 : sScl (8589934592, 12884901888) (-1) 2 = (((-6442450944), (-4294967296)), 0) := by decide +kernel
theorem v2_10 : sAbs ((-12884901888), 8589934592) = ((0, 12884901888), 0) := by decide +kernel
theorem v2_11 : sMin (4294967296, 17179869184) (8589934592, 12884901888) = ((4294967296, 12884901888), 0) := by decide +kernel
theorem v2_12 : sMax (4294967296, 17179869184) (8589934592, 12884901888) = ((8589934592, 17179869184), 0) := by decide +kernel
theorem v2_13 : sHull (4294967296, 8589934592) (17179869184, 21474836480) = ((4294967296, 21474836480), 0) := by decide +kernel
theorem v2_14 : sMeet (4294967296, 8589934592) (17179869184, 21474836480) = ((0, 0), 4) := by decide +kernel
theorem v2_15 : sMid (4294967296, 8589934592) = (6442450944, 0) := by decide +kernel
theorem v2_16 : sWidth (4294967296, 8589934592) = (4294967296, 0) := by decide +kernel
theorem v2_17 : sSign (0, 4294967296) = (2, 0) := by decide +kernel
theorem v2_18 : sSign (0, 0) = (0, 0) := by decide +kernel
theorem v2_19 : sOf 2 1 = ((0, 0), 20) := by decide +kernel
theorem v2_20 : sOf 4503599627370497 4503599627370497 = ((0, 0), 20) := by decide +kernel
theorem v2_21 : sDec 1 1 = ((429496729, 429496730), 0) := by decide +kernel
theorem v2_22 : sMul (4503599627370496, 4503599627370496) ((-4294967296), 8589934592) = ((0, 0), 6) := by decide +kernel
theorem v2_23 : sPow (4294967296, 8589934592) 17 = ((0, 0), 2) := by decide +kernel

set_option maxRecDepth 100000 in
set_option maxHeartbeats 20000000 in
theorem law2_works (w : World) (hP : Pows w) :
    Calls Tryd.prog 12 #[] w fun e w' => e = .returned (.bool true) ∧ Below w.heap.size w w' := by
  have HP := Lib.hid hP
  clear hP
  have hS := Kn.start w
  go_enter Tryd.func12, Tryd.ntmps12
  go_wp2_with fail
  refine (hS.call (law2_whole 4 6 (by decide) (by decide) _)).mono ?_; rintro e w1 ⟨rfl, hS⟩
  go_wp2_with fail
  refine (law2_is _ _ hS).mono ?_; rintro e w1 ⟨rfl, hS⟩
  go_wp2_with fail
  refine (hS.call (law2_whole 1 2 (by decide) (by decide) _)).mono ?_; rintro e w1 ⟨rfl, hS⟩
  go_wp2_with fail
  refine (hS.call (law2_whole 3 4 (by decide) (by decide) _)).mono ?_; rintro e w1 ⟨rfl, hS⟩
  go_wp2_with fail
  refine (hS.call (span_Add (4294967296, 8589934592) (12884901888, 17179869184) _)).mono ?_; rintro e w1 ⟨rfl, hS⟩
  rw [v2_0]
  go_wp2_with fail
  refine (law2_is1 _ _ _ hS (by simp)).mono ?_; rintro e w1 ⟨rfl, hS⟩
  go_wp2_with fail
  refine (hS.call (law2_whole (-3) (-1) (by decide) (by decide) _)).mono ?_; rintro e w1 ⟨rfl, hS⟩
  go_wp2_with fail
  refine (law2_is _ _ hS).mono ?_; rintro e w1 ⟨rfl, hS⟩
  go_wp2_with fail
  refine (hS.call (law2_whole 1 2 (by decide) (by decide) _)).mono ?_; rintro e w1 ⟨rfl, hS⟩
  go_wp2_with fail
  refine (hS.call (law2_whole 3 4 (by decide) (by decide) _)).mono ?_; rintro e w1 ⟨rfl, hS⟩
  go_wp2_with fail
  refine (hS.call (span_Sub (4294967296, 8589934592) (12884901888, 17179869184) _)).mono ?_; rintro e w1 ⟨rfl, hS⟩
  rw [v2_1]
  go_wp2_with fail
  refine (law2_is1 _ _ _ hS (by simp)).mono ?_; rintro e w1 ⟨rfl, hS⟩
  go_wp2_with fail
  refine (hS.call (law2_whole (-2) (-1) (by decide) (by decide) _)).mono ?_; rintro e w1 ⟨rfl, hS⟩
  go_wp2_with fail
  refine (law2_is _ _ hS).mono ?_; rintro e w1 ⟨rfl, hS⟩
  go_wp2_with fail
  refine (hS.call (law2_whole 1 2 (by decide) (by decide) _)).mono ?_; rintro e w1 ⟨rfl, hS⟩
  go_wp2_with fail
  refine (hS.call (span_Neg (4294967296, 8589934592) _)).mono ?_; rintro e w1 ⟨rfl, hS⟩
  rw [v2_2]
  go_wp2_with fail
  refine (law2_is1 _ _ _ hS (by simp)).mono ?_; rintro e w1 ⟨rfl, hS⟩
  go_wp2_with fail
  refine (hS.call (law2_whole (-6) 8 (by decide) (by decide) _)).mono ?_; rintro e w1 ⟨rfl, hS⟩
  go_wp2_with fail
  refine (law2_is _ _ hS).mono ?_; rintro e w1 ⟨rfl, hS⟩
  go_wp2_with fail
  refine (hS.call (law2_whole (-1) 2 (by decide) (by decide) _)).mono ?_; rintro e w1 ⟨rfl, hS⟩
  go_wp2_with fail
  refine (hS.call (law2_whole (-3) 4 (by decide) (by decide) _)).mono ?_; rintro e w1 ⟨rfl, hS⟩
  go_wp2_with fail
  refine (hS.call (span_Mul ((-4294967296), 8589934592) ((-12884901888), 17179869184) _)).mono ?_; rintro e w1 ⟨rfl, hS⟩
  rw [v2_3]
  go_wp2_with fail
  refine (law2_is1 _ _ _ hS (by simp)).mono ?_; rintro e w1 ⟨rfl, hS⟩
  go_wp2_with fail
  refine (hS.call (law2_whole 0 4 (by decide) (by decide) _)).mono ?_; rintro e w1 ⟨rfl, hS⟩
  go_wp2_with fail
  refine (law2_is _ _ hS).mono ?_; rintro e w1 ⟨rfl, hS⟩
  go_wp2_with fail
  refine (hS.call (law2_whole (-1) 2 (by decide) (by decide) _)).mono ?_; rintro e w1 ⟨rfl, hS⟩
  go_wp2_with fail
  refine (hS.call (span_Sqr ((-4294967296), 8589934592) _)).mono ?_; rintro e w1 ⟨rfl, hS⟩
  rw [v2_4]
  go_wp2_with fail
  refine (law2_is1 _ _ _ hS (by simp)).mono ?_; rintro e w1 ⟨rfl, hS⟩
  go_wp2_with fail
  refine (hS.call (law2_whole (-8) 1 (by decide) (by decide) _)).mono ?_; rintro e w1 ⟨rfl, hS⟩
  go_wp2_with fail
  refine (law2_is _ _ hS).mono ?_; rintro e w1 ⟨rfl, hS⟩
  go_wp2_with fail
  refine (hS.call (law2_whole (-2) 1 (by decide) (by decide) _)).mono ?_; rintro e w1 ⟨rfl, hS⟩
  go_wp2_with fail
  refine (hS.call (span_Pow ((-8589934592), 4294967296) 3 _)).mono ?_; rintro e w1 ⟨rfl, hS⟩
  rw [v2_5]
  go_wp2_with fail
  refine (law2_is1 _ _ _ hS (by simp)).mono ?_; rintro e w1 ⟨rfl, hS⟩
  go_wp2_with fail
  refine (hS.call (law2_of (-4) (-1) (by decide) (by decide) _)).mono ?_; rintro e w1 ⟨rfl, hS⟩
  go_wp2_with fail
  refine (law2_is _ _ hS).mono ?_; rintro e w1 ⟨rfl, hS⟩
  go_wp2_with fail
  refine (hS.call (law2_whole 1 2 (by decide) (by decide) _)).mono ?_; rintro e w1 ⟨rfl, hS⟩
  go_wp2_with fail
  refine (hS.call (law2_whole (-4) (-2) (by decide) (by decide) _)).mono ?_; rintro e w1 ⟨rfl, hS⟩
  go_wp2_with fail
  refine (hS.call (span_Div (4294967296, 8589934592) ((-17179869184), (-8589934592)) _)).mono ?_; rintro e w1 ⟨rfl, hS⟩
  rw [v2_6]
  go_wp2_with fail
  refine (law2_is1 _ _ _ hS (by simp)).mono ?_; rintro e w1 ⟨rfl, hS⟩
  go_wp2_with fail
  refine (law2_fails _ hS).mono ?_; rintro e w1 ⟨rfl, hS⟩
  go_wp2_with fail
  refine (hS.call (law2_whole 1 2 (by decide) (by decide) _)).mono ?_; rintro e w1 ⟨rfl, hS⟩
  go_wp2_with fail
  refine (hS.call (law2_whole 0 1 (by decide) (by decide) _)).mono ?_; rintro e w1 ⟨rfl, hS⟩
  go_wp2_with fail
  refine (hS.call (span_Div (4294967296, 8589934592) (0, 4294967296) _)).mono ?_; rintro e w1 ⟨rfl, hS⟩
  rw [v2_7]
  go_wp2_with fail
  refine (law2_fails1 _ _ hS (by simp)).mono ?_; rintro e w1 ⟨rfl, hS⟩
  go_wp2_with fail
  refine (hS.call (law2_whole 2 3 (by decide) (by decide) _)).mono ?_; rintro e w1 ⟨rfl, hS⟩
  go_wp2_with fail
  refine (law2_is _ _ hS).mono ?_; rintro e w1 ⟨rfl, hS⟩
  go_wp2_with fail
  refine (hS.call (law2_whole 4 9 (by decide) (by decide) _)).mono ?_; rintro e w1 ⟨rfl, hS⟩
  go_wp2_with fail
  refine (hS.call (span_Sqrt (17179869184, 38654705664) _)).mono ?_; rintro e w1 ⟨rfl, hS⟩
  rw [v2_8]
  go_wp2_with fail
  refine (law2_is1 _ _ _ hS (by simp)).mono ?_; rintro e w1 ⟨rfl, hS⟩
  go_wp2_with fail
  refine (hS.call (law2_of (-6) (-4) (by decide) (by decide) _)).mono ?_; rintro e w1 ⟨rfl, hS⟩
  go_wp2_with fail
  refine (law2_is _ _ hS).mono ?_; rintro e w1 ⟨rfl, hS⟩
  go_wp2_with fail
  refine (hS.call (law2_whole 2 3 (by decide) (by decide) _)).mono ?_; rintro e w1 ⟨rfl, hS⟩
  go_wp2_with fail
  refine (hS.call (span_Scale (8589934592, 12884901888) (-1) 2 _)).mono ?_; rintro e w1 ⟨rfl, hS⟩
  rw [v2_9]
  go_wp2_with fail
  refine (law2_is1 _ _ _ hS (by simp)).mono ?_; rintro e w1 ⟨rfl, hS⟩
  go_wp2_with fail
  refine (hS.call (law2_whole 0 3 (by decide) (by decide) _)).mono ?_; rintro e w1 ⟨rfl, hS⟩
  go_wp2_with fail
  refine (law2_is _ _ hS).mono ?_; rintro e w1 ⟨rfl, hS⟩
  go_wp2_with fail
  refine (hS.call (law2_whole (-3) 2 (by decide) (by decide) _)).mono ?_; rintro e w1 ⟨rfl, hS⟩
  go_wp2_with fail
  refine (hS.call (span_Abs ((-12884901888), 8589934592) _)).mono ?_; rintro e w1 ⟨rfl, hS⟩
  rw [v2_10]
  go_wp2_with fail
  refine (law2_is1 _ _ _ hS (by simp)).mono ?_; rintro e w1 ⟨rfl, hS⟩
  go_wp2_with fail
  refine (hS.call (law2_whole 1 3 (by decide) (by decide) _)).mono ?_; rintro e w1 ⟨rfl, hS⟩
  go_wp2_with fail
  refine (law2_is _ _ hS).mono ?_; rintro e w1 ⟨rfl, hS⟩
  go_wp2_with fail
  refine (hS.call (law2_whole 1 4 (by decide) (by decide) _)).mono ?_; rintro e w1 ⟨rfl, hS⟩
  go_wp2_with fail
  refine (hS.call (law2_whole 2 3 (by decide) (by decide) _)).mono ?_; rintro e w1 ⟨rfl, hS⟩
  go_wp2_with fail
  refine (hS.call (span_Min (4294967296, 17179869184) (8589934592, 12884901888) _)).mono ?_; rintro e w1 ⟨rfl, hS⟩
  rw [v2_11]
  go_wp2_with fail
  refine (law2_is1 _ _ _ hS (by simp)).mono ?_; rintro e w1 ⟨rfl, hS⟩
  go_wp2_with fail
  refine (hS.call (law2_whole 2 4 (by decide) (by decide) _)).mono ?_; rintro e w1 ⟨rfl, hS⟩
  go_wp2_with fail
  refine (law2_is _ _ hS).mono ?_; rintro e w1 ⟨rfl, hS⟩
  go_wp2_with fail
  refine (hS.call (law2_whole 1 4 (by decide) (by decide) _)).mono ?_; rintro e w1 ⟨rfl, hS⟩
  go_wp2_with fail
  refine (hS.call (law2_whole 2 3 (by decide) (by decide) _)).mono ?_; rintro e w1 ⟨rfl, hS⟩
  go_wp2_with fail
  refine (hS.call (span_Max (4294967296, 17179869184) (8589934592, 12884901888) _)).mono ?_; rintro e w1 ⟨rfl, hS⟩
  rw [v2_12]
  go_wp2_with fail
  refine (law2_is1 _ _ _ hS (by simp)).mono ?_; rintro e w1 ⟨rfl, hS⟩
  go_wp2_with fail
  refine (hS.call (law2_whole 1 5 (by decide) (by decide) _)).mono ?_; rintro e w1 ⟨rfl, hS⟩
  go_wp2_with fail
  refine (law2_is _ _ hS).mono ?_; rintro e w1 ⟨rfl, hS⟩
  go_wp2_with fail
  refine (hS.call (law2_whole 1 2 (by decide) (by decide) _)).mono ?_; rintro e w1 ⟨rfl, hS⟩
  go_wp2_with fail
  refine (hS.call (law2_whole 4 5 (by decide) (by decide) _)).mono ?_; rintro e w1 ⟨rfl, hS⟩
  go_wp2_with fail
  refine (hS.call (span_Hull (4294967296, 8589934592) (17179869184, 21474836480) _)).mono ?_; rintro e w1 ⟨rfl, hS⟩
  rw [v2_13]
  go_wp2_with fail
  refine (law2_is1 _ _ _ hS (by simp)).mono ?_; rintro e w1 ⟨rfl, hS⟩
  go_wp2_with fail
  refine (law2_fails _ hS).mono ?_; rintro e w1 ⟨rfl, hS⟩
  go_wp2_with fail
  refine (hS.call (law2_whole 1 2 (by decide) (by decide) _)).mono ?_; rintro e w1 ⟨rfl, hS⟩
  go_wp2_with fail
  refine (hS.call (law2_whole 4 5 (by decide) (by decide) _)).mono ?_; rintro e w1 ⟨rfl, hS⟩
  go_wp2_with fail
  refine (hS.call (span_Meet (4294967296, 8589934592) (17179869184, 21474836480) _)).mono ?_; rintro e w1 ⟨rfl, hS⟩
  rw [v2_14]
  go_wp2_with fail
  refine (law2_fails1 _ _ hS (by simp)).mono ?_; rintro e w1 ⟨rfl, hS⟩
  go_wp2_with fail
  refine (law2_says _ hS).mono ?_; rintro e w1 ⟨rfl, hS⟩
  go_wp2_with fail
  refine (hS.call (law2_whole 1 2 (by decide) (by decide) _)).mono ?_; rintro e w1 ⟨rfl, hS⟩
  go_wp2_with fail
  refine (hS.call (span_Mid (4294967296, 8589934592) _)).mono ?_; rintro e w1 ⟨rfl, hS⟩
  rw [v2_15]
  go_wp2_with fail
  refine (law2_says1 _ _ hS (by simp)).mono ?_; rintro e w1 ⟨rfl, hS⟩
  go_wp2_with fail
  refine (law2_says _ hS).mono ?_; rintro e w1 ⟨rfl, hS⟩
  go_wp2_with fail
  refine (hS.call (law2_whole 1 2 (by decide) (by decide) _)).mono ?_; rintro e w1 ⟨rfl, hS⟩
  go_wp2_with fail
  refine (hS.call (span_Width (4294967296, 8589934592) _)).mono ?_; rintro e w1 ⟨rfl, hS⟩
  rw [v2_16]
  go_wp2_with fail
  refine (law2_says1 _ _ hS (by simp)).mono ?_; rintro e w1 ⟨rfl, hS⟩
  go_wp2_with fail
  refine (law2_says _ hS).mono ?_; rintro e w1 ⟨rfl, hS⟩
  go_wp2_with fail
  refine (hS.call (law2_whole 0 1 (by decide) (by decide) _)).mono ?_; rintro e w1 ⟨rfl, hS⟩
  go_wp2_with fail
  refine (hS.call (span_Sign (0, 4294967296) _)).mono ?_; rintro e w1 ⟨rfl, hS⟩
  rw [v2_17]
  go_wp2_with fail
  refine (law2_says1 _ _ hS (by simp)).mono ?_; rintro e w1 ⟨rfl, hS⟩
  go_wp2_with fail
  refine (law2_says _ hS).mono ?_; rintro e w1 ⟨rfl, hS⟩
  go_wp2_with fail
  refine (hS.call (span_Sign (0, 0) _)).mono ?_; rintro e w1 ⟨rfl, hS⟩
  rw [v2_18]
  go_wp2_with fail
  refine (law2_says1 _ _ hS (by simp)).mono ?_; rintro e w1 ⟨rfl, hS⟩
  go_wp2_with fail
  refine (law2_fails _ hS).mono ?_; rintro e w1 ⟨rfl, hS⟩
  go_wp2_with fail
  refine (hS.call (span_Of 2 1 _)).mono ?_; rintro e w1 ⟨rfl, hS⟩
  rw [v2_19]
  go_wp2_with fail
  refine (law2_fails1 _ _ hS (by simp)).mono ?_; rintro e w1 ⟨rfl, hS⟩
  go_wp2_with fail
  refine (law2_fails _ hS).mono ?_; rintro e w1 ⟨rfl, hS⟩
  go_wp2_with fail
  refine (hS.call (span_Point 4503599627370497 _)).mono ?_; rintro e w1 ⟨rfl, hS⟩
  rw [v2_20]
  go_wp2_with fail
  refine (law2_fails1 _ _ hS (by simp)).mono ?_; rintro e w1 ⟨rfl, hS⟩
  go_wp2_with fail
  refine (law2_is _ _ hS).mono ?_; rintro e w1 ⟨rfl, hS⟩
  go_wp2_with fail
  refine (hS.call (span_Dec 1 1 (by decide) _ (HP.out.below hS.bel))).mono ?_; rintro e w1 ⟨rfl, hS⟩
  rw [v2_21]
  go_wp2_with fail
  refine (law2_is1 _ _ _ hS (by simp)).mono ?_; rintro e w1 ⟨rfl, hS⟩
  go_wp2_with fail
  refine (law2_fails _ hS).mono ?_; rintro e w1 ⟨rfl, hS⟩
  go_wp2_with fail
  refine (hS.call (law2_whole 1048576 1048576 (by decide) (by decide) _)).mono ?_; rintro e w1 ⟨rfl, hS⟩
  go_wp2_with fail
  refine (hS.call (law2_whole (-1) 2 (by decide) (by decide) _)).mono ?_; rintro e w1 ⟨rfl, hS⟩
  go_wp2_with fail
  refine (hS.call (span_Mul (4503599627370496, 4503599627370496) ((-4294967296), 8589934592) _)).mono ?_; rintro e w1 ⟨rfl, hS⟩
  rw [v2_22]
  go_wp2_with fail
  refine (law2_fails1 _ _ hS (by simp)).mono ?_; rintro e w1 ⟨rfl, hS⟩
  go_wp2_with fail
  refine (law2_fails _ hS).mono ?_; rintro e w1 ⟨rfl, hS⟩
  go_wp2_with fail
  refine (hS.call (law2_whole 1 2 (by decide) (by decide) _)).mono ?_; rintro e w1 ⟨rfl, hS⟩
  go_wp2_with fail
  refine (hS.call (span_Pow (4294967296, 8589934592) 17 _)).mono ?_; rintro e w1 ⟨rfl, hS⟩
  rw [v2_23]
  go_wp2_with fail
  refine (law2_fails1 _ _ hS (by simp)).mono ?_; rintro e w1 ⟨rfl, hS⟩
  go_wp2_with fail
  go_ret
  exact ⟨rfl, hS.bel⟩
end Go.Proofs.YtjphhdfkkkdppaaDoor
