/- The walk of monoclelaw08.works. Printed by wip/genW8.py. -/
import Derived.Deep.RegionWith
import Derived.Test.YtgpaillkekhmdaaLawP
namespace Go.Proofs.Ytgpaillkekhmdaa
open Go.RowKit Go.Shelf Mnc

theorem v8_0 : pEval (List.map wh [1, 2, 3]) (8589934592, 8589934592) = ((73014444032, 73014444032), 0) := by decide +kernel
theorem v8_1 : pSlope (List.map wh [1, 2, 3]) (8589934592, 8589934592) = ((60129542144, 60129542144), 0) := by decide +kernel
theorem v8_2 : pEval (List.map wh [1, 0, 1]) ((-4294967296), 8589934592) = (((-4294967296), 21474836480), 0) := by decide +kernel
theorem v8_3 : pSlope (List.map wh [1, 0, 1]) ((-4294967296), 8589934592) = (((-8589934592), 17179869184), 0) := by decide +kernel
theorem v8_4 : pEval [] (21474836480, 21474836480) = ((0, 0), 0) := by decide +kernel
theorem v8_5 : pSlope (List.map wh [7]) (21474836480, 21474836480) = ((0, 0), 0) := by decide +kernel
theorem v8_6 : pEval (List.map wh [0, 0, 1]) (4402341478400, 4402341478400) = ((0, 0), 6) := by decide +kernel

set_option maxRecDepth 100000 in
set_option maxHeartbeats 20000000 in
theorem law8_works (w : World) :
    Calls Try.prog 6 #[] w fun e w' => e = .returned (.bool true) ∧ Below w.heap.size w w' := by
  have hS := St.start w
  go_enter Try.func6, Try.ntmps6
  go_wp2_with fail
  refine (law8_whole _ _ hS (by decide) (by decide)).mono ?_; rintro e w1 ⟨rfl, hS, -⟩
  go_wp2_with fail
  refine (law8_is _ _ hS).mono ?_; rintro e w1 ⟨rfl, hS⟩
  go_wp2_with fail
  refine (law8_list [1, 2, 3] _ _ (hS.al _) rfl (by simp) (by decide) (by decide)).mono ?_; rintro e w1 ⟨ao, cap, rfl, hS⟩
  go_wp2_with fail
  refine (law8_whole _ _ hS (by decide) (by decide)).mono ?_; rintro e w1 ⟨rfl, hS, -⟩
  go_wp2_with fail
  refine (evalC _ _ _ _ _ _ hS (by decide) v8_0).mono ?_; rintro e w1 ⟨rfl, hS⟩
  go_wp2_with fail
  refine (law8_is1 _ _ _ hS (by simp)).mono ?_; rintro e w1 ⟨rfl, hS⟩
  go_wp2_with fail
  refine (law8_whole _ _ hS (by decide) (by decide)).mono ?_; rintro e w1 ⟨rfl, hS, -⟩
  go_wp2_with fail
  refine (law8_is _ _ hS).mono ?_; rintro e w1 ⟨rfl, hS⟩
  go_wp2_with fail
  refine (law8_list [1, 2, 3] _ _ (hS.al _) rfl (by simp) (by decide) (by decide)).mono ?_; rintro e w1 ⟨ao, cap, rfl, hS⟩
  go_wp2_with fail
  refine (law8_whole _ _ hS (by decide) (by decide)).mono ?_; rintro e w1 ⟨rfl, hS, -⟩
  go_wp2_with fail
  refine (slopeC _ _ _ _ _ _ hS (by decide) v8_1).mono ?_; rintro e w1 ⟨rfl, hS⟩
  go_wp2_with fail
  refine (law8_is1 _ _ _ hS (by simp)).mono ?_; rintro e w1 ⟨rfl, hS⟩
  go_wp2_with fail
  refine (law8_whole _ _ hS (by decide) (by decide)).mono ?_; rintro e w1 ⟨rfl, hS, -⟩
  go_wp2_with fail
  refine (law8_is _ _ hS).mono ?_; rintro e w1 ⟨rfl, hS⟩
  go_wp2_with fail
  refine (law8_list [1, 0, 1] _ _ (hS.al _) rfl (by simp) (by decide) (by decide)).mono ?_; rintro e w1 ⟨ao, cap, rfl, hS⟩
  go_wp2_with fail
  refine (law8_whole _ _ hS (by decide) (by decide)).mono ?_; rintro e w1 ⟨rfl, hS, -⟩
  go_wp2_with fail
  refine (evalC _ _ _ _ _ _ hS (by decide) v8_2).mono ?_; rintro e w1 ⟨rfl, hS⟩
  go_wp2_with fail
  refine (law8_is1 _ _ _ hS (by simp)).mono ?_; rintro e w1 ⟨rfl, hS⟩
  go_wp2_with fail
  refine (law8_whole _ _ hS (by decide) (by decide)).mono ?_; rintro e w1 ⟨rfl, hS, -⟩
  go_wp2_with fail
  refine (law8_is _ _ hS).mono ?_; rintro e w1 ⟨rfl, hS⟩
  go_wp2_with fail
  refine (law8_list [1, 0, 1] _ _ (hS.al _) rfl (by simp) (by decide) (by decide)).mono ?_; rintro e w1 ⟨ao, cap, rfl, hS⟩
  go_wp2_with fail
  refine (law8_whole _ _ hS (by decide) (by decide)).mono ?_; rintro e w1 ⟨rfl, hS, -⟩
  go_wp2_with fail
  refine (slopeC _ _ _ _ _ _ hS (by decide) v8_3).mono ?_; rintro e w1 ⟨rfl, hS⟩
  go_wp2_with fail
  refine (law8_is1 _ _ _ hS (by simp)).mono ?_; rintro e w1 ⟨rfl, hS⟩
  go_wp2_with fail
  have hS := hS.drew
  have hmk := mk9
  go_region_with (first
    | (go_at_call 14; ((with_reducible refine (law8_whole _ _ (by first | exact hS | exact hS.al _) (by decide) (by decide)).mono ?_); rintro e w1 ⟨rfl, hS, -⟩))
    | (go_at_call 16; ((with_reducible refine (law8_is _ _ (by first | exact hS | exact hS.al _)).mono ?_); rintro e w1 ⟨rfl, hS⟩))
    | (go_at_call 15; ((with_reducible refine (law8_fails _ (by first | exact hS | exact hS.al _)).mono ?_); rintro e w1 ⟨rfl, hS⟩))
    | (go_at_call 23; ((with_reducible refine (law8_is1 _ _ _ (by first | exact hS | exact hS.al _) (by simp)).mono ?_); rintro e w1 ⟨rfl, hS⟩))
    | (go_at_call 22; ((with_reducible refine (law8_fails1 _ _ (by first | exact hS | exact hS.al _) (by simp)).mono ?_); rintro e w1 ⟨rfl, hS⟩))
    | (go_at_call 17; ((with_reducible refine (law8_list [7] 1 _ (by first | exact hS | exact hS.al _) (by decide) (by simp) (by decide) (by decide)).mono ?_); rintro e w1 ⟨ao, cap, rfl, hS⟩))
    | (go_at_call 17; ((with_reducible refine (law8_list [0, 0, 1] 3 _ (by first | exact hS | exact hS.al _) (by decide) (by simp) (by decide) (by decide)).mono ?_); rintro e w1 ⟨ao, cap, rfl, hS⟩))
    | (go_at_call 11; ((with_reducible refine (evalC _ _ _ _ _ 0 (hS.with_ (SpSl.none_ _)) (by decide) v8_4).mono ?_); rintro e w1 ⟨rfl, hS⟩))
    | (go_at_call 11; ((with_reducible refine (evalC _ _ _ _ _ 3 hS (by decide) v8_6).mono ?_); rintro e w1 ⟨rfl, hS⟩))
    | (go_at_call 11; ((with_reducible refine (evalLong9 _ _ _ (by first | exact hS | exact hS.al _) (by simp)).mono ?_); rintro e w1 ⟨rfl, hS⟩))
    | (go_at_call 12; ((with_reducible refine (slopeC _ _ _ _ _ 1 hS (by decide) v8_5).mono ?_); rintro e w1 ⟨rfl, hS⟩)))
  all_goals
    go_wp2
    go_ret
    exact ⟨rfl, hS.bel⟩
end Go.Proofs.Ytgpaillkekhmdaa
