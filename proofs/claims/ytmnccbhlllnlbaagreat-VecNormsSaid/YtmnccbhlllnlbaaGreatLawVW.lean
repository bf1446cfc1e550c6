/- The walk of monoclelaw06.works. Printed by wip/genLV.py. -/
import Derived.Test.YtmnccbhlllnlbaaGreatLawV
import Derived.Test.YtmnccbhlllnlbaaGreatRootFast
namespace Go.Proofs.YtmnccbhlllnlbaaGreat
open Go.RowKit Mnc
theorem w6_0 : vAdd ((4294967296, 4294967296), (8589934592, 8589934592), (12884901888, 12884901888)) ((17179869184, 17179869184), (21474836480, 21474836480), (25769803776, 25769803776)) = (((21474836480, 21474836480), (30064771072, 30064771072), (38654705664, 38654705664)), 0) := by decide +kernel
theorem w6_1 : vSub ((4294967296, 4294967296), (8589934592, 8589934592), (12884901888, 12884901888)) ((17179869184, 17179869184), (21474836480, 21474836480), (25769803776, 25769803776)) = (((-12884901888, -12884901888), (-12884901888, -12884901888), (-12884901888, -12884901888)), 0) := by decide +kernel
theorem w6_2 : vNeg ((4294967296, 4294967296), (8589934592, 8589934592), (12884901888, 12884901888)) = (((-4294967296, -4294967296), (-8589934592, -8589934592), (-12884901888, -12884901888)), 0) := by decide +kernel
theorem w6_3 : vScale ((4294967296, 4294967296), (8589934592, 8589934592), (12884901888, 12884901888)) (8589934592, 8589934592) = (((8589934592, 8589934592), (17179869184, 17179869184), (25769803776, 25769803776)), 0) := by decide +kernel
theorem w6_4 : vDot ((4294967296, 4294967296), (8589934592, 8589934592), (12884901888, 12884901888)) ((17179869184, 17179869184), (21474836480, 21474836480), (25769803776, 25769803776)) = ((137438953472, 137438953472), 0) := by decide +kernel
theorem w6_5 : vCross ((4294967296, 4294967296), (0, 0), (0, 0)) ((0, 0), (4294967296, 4294967296), (0, 0)) = (((0, 0), (0, 0), (4294967296, 4294967296)), 0) := by decide +kernel
theorem w6_6 : vCross ((0, 0), (4294967296, 4294967296), (0, 0)) ((4294967296, 4294967296), (0, 0), (0, 0)) = (((0, 0), (0, 0), (-4294967296, -4294967296)), 0) := by decide +kernel
theorem w6_7 : vNorm ((8589934592, 8589934592), (12884901888, 12884901888), (25769803776, 25769803776)) = ((30064771072, 30064771072), 0) := by unfold vNorm normE normS; rw [sSqrt_fast]; decide +kernel
theorem w6_8 : vUnit ((0, 0), (0, 0), (-17179869184, -17179869184)) = (((0, 0), (0, 0), (-4294967296, -4294967296)), 0) := by unfold vUnit normE normS; rw [sSqrt_fast]; decide +kernel
theorem w6_9 : vUnit ((0, 0), (0, 0), (0, 0)) = (((0, 0), (0, 0), (0, 0)), 7) := by unfold vUnit normE normS; rw [sSqrt_fast]; decide +kernel
theorem w6_10 : vDot ((4398046511104, 4398046511104), (0, 0), (0, 0)) ((4402341478400, 4402341478400), (0, 0), (0, 0)) = ((0, 0), 6) := by decide +kernel
theorem w6_11 : vNote 0 ((1, 0), (0, 0), (0, 0)) = 20 := by decide +kernel
set_option maxRecDepth 100000 in
set_option maxHeartbeats 20000000 in
theorem law6_works (w : World) :
    Calls Tryz.prog 6 #[] w fun e w' => e = .returned (.bool true) ∧ Below w.heap.size w w' := by
  have hK := Kv.start w
  go_enter Tryz.func6, Tryz.ntmps6
  go_wp2_with fail
  refine (law6_of (5) (7) (9) (by decide) (by decide) (by decide) _).mono ?_; rintro e w1 ⟨rfl, hb⟩
  replace hK := hK.on hb
  go_wp2_with fail
  refine (law6_is ((21474836480, 21474836480), (30064771072, 30064771072), (38654705664, 38654705664)) _).mono ?_; rintro e w1 ⟨rfl, hb, hB⟩
  replace hK := hK.put hb hB
  go_wp2_with fail
  refine (law6_of (1) (2) (3) (by decide) (by decide) (by decide) _).mono ?_; rintro e w1 ⟨rfl, hb⟩
  replace hK := hK.on hb
  go_wp2_with fail
  refine (law6_of (4) (5) (6) (by decide) (by decide) (by decide) _).mono ?_; rintro e w1 ⟨rfl, hb⟩
  replace hK := hK.on hb
  go_wp2_with fail
  refine (vAddK ((4294967296, 4294967296), (8589934592, 8589934592), (12884901888, 12884901888)) ((17179869184, 17179869184), (21474836480, 21474836480), (25769803776, 25769803776)) ((21474836480, 21474836480), (30064771072, 30064771072), (38654705664, 38654705664)) 0 w6_0 _).mono ?_; rintro e w1 ⟨rfl, hb⟩
  replace hK := hK.on hb
  go_wp2_with fail
  refine (law6_is1 ((21474836480, 21474836480), (30064771072, 30064771072), (38654705664, 38654705664)) _ _ (hK.blk _ (by first | exact List.mem_cons_self .. | simp))).mono ?_; rintro e w1 ⟨rfl, hb⟩
  replace hK := (hK.on hb).sub (cs := []) (by simp)
  go_wp2_with fail
  refine (law6_of (-3) (-3) (-3) (by decide) (by decide) (by decide) _).mono ?_; rintro e w1 ⟨rfl, hb⟩
  replace hK := hK.on hb
  go_wp2_with fail
  refine (law6_is ((-12884901888, -12884901888), (-12884901888, -12884901888), (-12884901888, -12884901888)) _).mono ?_; rintro e w1 ⟨rfl, hb, hB⟩
  replace hK := hK.put hb hB
  go_wp2_with fail
  refine (law6_of (1) (2) (3) (by decide) (by decide) (by decide) _).mono ?_; rintro e w1 ⟨rfl, hb⟩
  replace hK := hK.on hb
  go_wp2_with fail
  refine (law6_of (4) (5) (6) (by decide) (by decide) (by decide) _).mono ?_; rintro e w1 ⟨rfl, hb⟩
  replace hK := hK.on hb
  go_wp2_with fail
  refine (vSubK ((4294967296, 4294967296), (8589934592, 8589934592), (12884901888, 12884901888)) ((17179869184, 17179869184), (21474836480, 21474836480), (25769803776, 25769803776)) ((-12884901888, -12884901888), (-12884901888, -12884901888), (-12884901888, -12884901888)) 0 w6_1 _).mono ?_; rintro e w1 ⟨rfl, hb⟩
  replace hK := hK.on hb
  go_wp2_with fail
  refine (law6_is1 ((-12884901888, -12884901888), (-12884901888, -12884901888), (-12884901888, -12884901888)) _ _ (hK.blk _ (by first | exact List.mem_cons_self .. | simp))).mono ?_; rintro e w1 ⟨rfl, hb⟩
  replace hK := (hK.on hb).sub (cs := []) (by simp)
  go_wp2_with fail
  refine (law6_of (-1) (-2) (-3) (by decide) (by decide) (by decide) _).mono ?_; rintro e w1 ⟨rfl, hb⟩
  replace hK := hK.on hb
  go_wp2_with fail
  refine (law6_is ((-4294967296, -4294967296), (-8589934592, -8589934592), (-12884901888, -12884901888)) _).mono ?_; rintro e w1 ⟨rfl, hb, hB⟩
  replace hK := hK.put hb hB
  go_wp2_with fail
  refine (law6_of (1) (2) (3) (by decide) (by decide) (by decide) _).mono ?_; rintro e w1 ⟨rfl, hb⟩
  replace hK := hK.on hb
  go_wp2_with fail
  refine (vNegK ((4294967296, 4294967296), (8589934592, 8589934592), (12884901888, 12884901888)) ((-4294967296, -4294967296), (-8589934592, -8589934592), (-12884901888, -12884901888)) 0 w6_2 _).mono ?_; rintro e w1 ⟨rfl, hb⟩
  replace hK := hK.on hb
  go_wp2_with fail
  refine (law6_is1 ((-4294967296, -4294967296), (-8589934592, -8589934592), (-12884901888, -12884901888)) _ _ (hK.blk _ (by first | exact List.mem_cons_self .. | simp))).mono ?_; rintro e w1 ⟨rfl, hb⟩
  replace hK := (hK.on hb).sub (cs := []) (by simp)
  go_wp2_with fail
  refine (law6_of (2) (4) (6) (by decide) (by decide) (by decide) _).mono ?_; rintro e w1 ⟨rfl, hb⟩
  replace hK := hK.on hb
  go_wp2_with fail
  refine (law6_is ((8589934592, 8589934592), (17179869184, 17179869184), (25769803776, 25769803776)) _).mono ?_; rintro e w1 ⟨rfl, hb, hB⟩
  replace hK := hK.put hb hB
  go_wp2_with fail
  refine (law6_of (1) (2) (3) (by decide) (by decide) (by decide) _).mono ?_; rintro e w1 ⟨rfl, hb⟩
  replace hK := hK.on hb
  go_wp2_with fail
  refine (law6_point (2) (by decide) _).mono ?_; rintro e w1 ⟨rfl, hb⟩
  replace hK := hK.on hb
  go_wp2_with fail
  refine (vScaleK ((4294967296, 4294967296), (8589934592, 8589934592), (12884901888, 12884901888)) (8589934592, 8589934592) ((8589934592, 8589934592), (17179869184, 17179869184), (25769803776, 25769803776)) 0 w6_3 _).mono ?_; rintro e w1 ⟨rfl, hb⟩
  replace hK := hK.on hb
  go_wp2_with fail
  refine (law6_is1 ((8589934592, 8589934592), (17179869184, 17179869184), (25769803776, 25769803776)) _ _ (hK.blk _ (by first | exact List.mem_cons_self .. | simp))).mono ?_; rintro e w1 ⟨rfl, hb⟩
  replace hK := (hK.on hb).sub (cs := []) (by simp)
  go_wp2_with fail
  refine (law6_point (32) (by decide) _).mono ?_; rintro e w1 ⟨rfl, hb⟩
  replace hK := hK.on hb
  go_wp2_with fail
  refine (law6_says (137438953472, 137438953472) _).mono ?_; rintro e w1 ⟨rfl, hb, hB⟩
  replace hK := hK.put hb hB
  go_wp2_with fail
  refine (law6_of (1) (2) (3) (by decide) (by decide) (by decide) _).mono ?_; rintro e w1 ⟨rfl, hb⟩
  replace hK := hK.on hb
  go_wp2_with fail
  refine (law6_of (4) (5) (6) (by decide) (by decide) (by decide) _).mono ?_; rintro e w1 ⟨rfl, hb⟩
  replace hK := hK.on hb
  go_wp2_with fail
  refine (vDotK ((4294967296, 4294967296), (8589934592, 8589934592), (12884901888, 12884901888)) ((17179869184, 17179869184), (21474836480, 21474836480), (25769803776, 25769803776)) (137438953472, 137438953472) 0 w6_4 _).mono ?_; rintro e w1 ⟨rfl, hb⟩
  replace hK := hK.on hb
  go_wp2_with fail
  refine (law6_says1 (137438953472, 137438953472) _ _ (hK.blk _ (by first | exact List.mem_cons_self .. | simp))).mono ?_; rintro e w1 ⟨rfl, hb⟩
  replace hK := (hK.on hb).sub (cs := []) (by simp)
  go_wp2_with fail
  refine (law6_of (0) (0) (1) (by decide) (by decide) (by decide) _).mono ?_; rintro e w1 ⟨rfl, hb⟩
  replace hK := hK.on hb
  go_wp2_with fail
  refine (law6_is ((0, 0), (0, 0), (4294967296, 4294967296)) _).mono ?_; rintro e w1 ⟨rfl, hb, hB⟩
  replace hK := hK.put hb hB
  go_wp2_with fail
  refine (law6_of (1) (0) (0) (by decide) (by decide) (by decide) _).mono ?_; rintro e w1 ⟨rfl, hb⟩
  replace hK := hK.on hb
  go_wp2_with fail
  refine (law6_of (0) (1) (0) (by decide) (by decide) (by decide) _).mono ?_; rintro e w1 ⟨rfl, hb⟩
  replace hK := hK.on hb
  go_wp2_with fail
  refine (vCrossK ((4294967296, 4294967296), (0, 0), (0, 0)) ((0, 0), (4294967296, 4294967296), (0, 0)) ((0, 0), (0, 0), (4294967296, 4294967296)) 0 w6_5 _).mono ?_; rintro e w1 ⟨rfl, hb⟩
  replace hK := hK.on hb
  go_wp2_with fail
  refine (law6_is1 ((0, 0), (0, 0), (4294967296, 4294967296)) _ _ (hK.blk _ (by first | exact List.mem_cons_self .. | simp))).mono ?_; rintro e w1 ⟨rfl, hb⟩
  replace hK := (hK.on hb).sub (cs := []) (by simp)
  go_wp2_with fail
  refine (law6_of (0) (0) (-1) (by decide) (by decide) (by decide) _).mono ?_; rintro e w1 ⟨rfl, hb⟩
  replace hK := hK.on hb
  go_wp2_with fail
  refine (law6_is ((0, 0), (0, 0), (-4294967296, -4294967296)) _).mono ?_; rintro e w1 ⟨rfl, hb, hB⟩
  replace hK := hK.put hb hB
  go_wp2_with fail
  refine (law6_of (0) (1) (0) (by decide) (by decide) (by decide) _).mono ?_; rintro e w1 ⟨rfl, hb⟩
  replace hK := hK.on hb
  go_wp2_with fail
  refine (law6_of (1) (0) (0) (by decide) (by decide) (by decide) _).mono ?_; rintro e w1 ⟨rfl, hb⟩
  replace hK := hK.on hb
  go_wp2_with fail
  refine (vCrossK ((0, 0), (4294967296, 4294967296), (0, 0)) ((4294967296, 4294967296), (0, 0), (0, 0)) ((0, 0), (0, 0), (-4294967296, -4294967296)) 0 w6_6 _).mono ?_; rintro e w1 ⟨rfl, hb⟩
  replace hK := hK.on hb
  go_wp2_with fail
  refine (law6_is1 ((0, 0), (0, 0), (-4294967296, -4294967296)) _ _ (hK.blk _ (by first | exact List.mem_cons_self .. | simp))).mono ?_; rintro e w1 ⟨rfl, hb⟩
  replace hK := (hK.on hb).sub (cs := []) (by simp)
  go_wp2_with fail
  refine (law6_point (7) (by decide) _).mono ?_; rintro e w1 ⟨rfl, hb⟩
  replace hK := hK.on hb
  go_wp2_with fail
  refine (law6_says (30064771072, 30064771072) _).mono ?_; rintro e w1 ⟨rfl, hb, hB⟩
  replace hK := hK.put hb hB
  go_wp2_with fail
  refine (law6_of (2) (3) (6) (by decide) (by decide) (by decide) _).mono ?_; rintro e w1 ⟨rfl, hb⟩
  replace hK := hK.on hb
  go_wp2_with fail
  refine (vNormK ((8589934592, 8589934592), (12884901888, 12884901888), (25769803776, 25769803776)) (30064771072, 30064771072) 0 w6_7 _).mono ?_; rintro e w1 ⟨rfl, hb⟩
  replace hK := hK.on hb
  go_wp2_with fail
  refine (law6_says1 (30064771072, 30064771072) _ _ (hK.blk _ (by first | exact List.mem_cons_self .. | simp))).mono ?_; rintro e w1 ⟨rfl, hb⟩
  replace hK := (hK.on hb).sub (cs := []) (by simp)
  go_wp2_with fail
  refine (law6_of (0) (0) (-1) (by decide) (by decide) (by decide) _).mono ?_; rintro e w1 ⟨rfl, hb⟩
  replace hK := hK.on hb
  go_wp2_with fail
  refine (law6_is ((0, 0), (0, 0), (-4294967296, -4294967296)) _).mono ?_; rintro e w1 ⟨rfl, hb, hB⟩
  replace hK := hK.put hb hB
  go_wp2_with fail
  refine (law6_of (0) (0) (-4) (by decide) (by decide) (by decide) _).mono ?_; rintro e w1 ⟨rfl, hb⟩
  replace hK := hK.on hb
  go_wp2_with fail
  refine (vUnitK ((0, 0), (0, 0), (-17179869184, -17179869184)) ((0, 0), (0, 0), (-4294967296, -4294967296)) 0 w6_8 _).mono ?_; rintro e w1 ⟨rfl, hb⟩
  replace hK := hK.on hb
  go_wp2_with fail
  refine (law6_is1 ((0, 0), (0, 0), (-4294967296, -4294967296)) _ _ (hK.blk _ (by first | exact List.mem_cons_self .. | simp))).mono ?_; rintro e w1 ⟨rfl, hb⟩
  replace hK := (hK.on hb).sub (cs := []) (by simp)
  go_wp2_with fail
  refine (law6_fails (7) _).mono ?_; rintro e w1 ⟨rfl, hb, hB⟩
  replace hK := hK.put hb hB
  go_wp2_with fail
  refine (law6_of (0) (0) (0) (by decide) (by decide) (by decide) _).mono ?_; rintro e w1 ⟨rfl, hb⟩
  replace hK := hK.on hb
  go_wp2_with fail
  refine (vUnitK ((0, 0), (0, 0), (0, 0)) ((0, 0), (0, 0), (0, 0)) 7 w6_9 _).mono ?_; rintro e w1 ⟨rfl, hb⟩
  replace hK := hK.on hb
  go_wp2_with fail
  refine (law6_fails1 (7) _ _ (hK.blk _ (by first | exact List.mem_cons_self .. | simp))).mono ?_; rintro e w1 ⟨rfl, hb⟩
  replace hK := (hK.on hb).sub (cs := []) (by simp)
  go_wp2_with fail
  refine (law6_refuses (6) _).mono ?_; rintro e w1 ⟨rfl, hb, hB⟩
  replace hK := hK.put hb hB
  go_wp2_with fail
  refine (law6_of (1024) (0) (0) (by decide) (by decide) (by decide) _).mono ?_; rintro e w1 ⟨rfl, hb⟩
  replace hK := hK.on hb
  go_wp2_with fail
  refine (law6_of (1025) (0) (0) (by decide) (by decide) (by decide) _).mono ?_; rintro e w1 ⟨rfl, hb⟩
  replace hK := hK.on hb
  go_wp2_with fail
  refine (vDotK ((4398046511104, 4398046511104), (0, 0), (0, 0)) ((4402341478400, 4402341478400), (0, 0), (0, 0)) (0, 0) 6 w6_10 _).mono ?_; rintro e w1 ⟨rfl, hb⟩
  replace hK := hK.on hb
  go_wp2_with fail
  refine (law6_refuses1 (6) _ _ (hK.blk _ (by first | exact List.mem_cons_self .. | simp))).mono ?_; rintro e w1 ⟨rfl, hb⟩
  replace hK := (hK.on hb).sub (cs := []) (by simp)
  go_wp2_with fail
  refine (vCheckK ((1, 0), (0, 0), (0, 0)) 20 w6_11 _).mono ?_; rintro e w1 ⟨rfl, hb⟩
  replace hK := hK.on hb
  go_wp2_with fail
  go_ret
  exact ⟨rfl, hK.bel⟩
end Go.Proofs.YtmnccbhlllnlbaaGreat
