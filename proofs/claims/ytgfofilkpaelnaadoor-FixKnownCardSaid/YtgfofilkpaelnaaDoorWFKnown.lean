/- The walk of monoclelaw01.FixKnown. Printed by wip/genFK.py. -/
import Derived.Test.YtgfofilkpaelnaaDoorLawB
namespace Go.Proofs.YtgfofilkpaelnaaDoor.fixKnown
open Go.RowKit Mnc

theorem v_Add0 : add 4503599627370496 1 = (0, 6) := by decide +kernel
theorem v_Add1 : add 4503599627370496 0 = (4503599627370496, 0) := by decide +kernel
theorem v_Add2 : add 4503599627370496 (-4503599627370496) = (0, 0) := by decide +kernel
theorem v_Add3 : add 4503599627370497 (-1) = (0, 2) := by decide +kernel
theorem v_Sub4 : sub 0 9223372036854775807 = (0, 2) := by decide +kernel
theorem v_Neg5 : neg 4503599627370496 = ((-4503599627370496), 0) := by decide +kernel
theorem v_MulUp6 : mul true 4503599627370496 4294967296 = (4503599627370496, 0) := by decide +kernel
theorem v_MulUp7 : mul true 4503599627370496 4294967297 = (0, 6) := by decide +kernel
theorem v_MulDown8 : mul false 0 4503599627370497 = (0, 2) := by decide +kernel
theorem v_MulDown9 : mul false 1 1 = (0, 0) := by decide +kernel
theorem v_MulUp10 : mul true 1 1 = (1, 0) := by decide +kernel
theorem v_MulDown11 : mul false (-1) 1 = ((-1), 0) := by decide +kernel
theorem v_MulUp12 : mul true (-1) 1 = (0, 0) := by decide +kernel
theorem v_MulDown13 : mul false (-4503599627370496) 4503599627370496 = (0, 6) := by decide +kernel
theorem v_DivDown14 : dvd false 4503599627370497 0 = (0, 2) := by decide +kernel
theorem v_DivDown15 : dvd false 0 0 = (0, 7) := by decide +kernel
theorem v_DivDown16 : dvd false 4503599627370496 1 = (0, 6) := by decide +kernel
theorem v_DivDown17 : dvd false 1048576 1 = (4503599627370496, 0) := by decide +kernel
theorem v_DivUp18 : dvd true 1048577 1 = (0, 6) := by decide +kernel
theorem v_DivUp19 : dvd true 1 4503599627370496 = (1, 0) := by decide +kernel
theorem v_DivDown20 : dvd false 1 4503599627370496 = (0, 0) := by decide +kernel
theorem v_DivDown21 : dvd false (-1) 4503599627370496 = ((-1), 0) := by decide +kernel
theorem v_SqrtUp22 : rt true 4503599627370496 = (4398046511104, 0) := rt_up_eq (a := 4503599627370496) (r := 4398046511104) (by omega) (by omega)
theorem v_SqrtDown23 : rt false 4503599627370496 = (4398046511104, 0) := rt_down (a := 4503599627370496) (r := 4398046511104) (by omega) (by omega) (by omega)
theorem v_SqrtUp24 : rt true 4503599627370495 = (4398046511104, 0) := rt_up (a := 4503599627370495) (r := 4398046511103) (by omega) (by omega) (by omega)
theorem v_SqrtDown25 : rt false 4503599627370495 = (4398046511103, 0) := rt_down (a := 4503599627370495) (r := 4398046511103) (by omega) (by omega) (by omega)
theorem v_SqrtUp26 : rt true 0 = (0, 0) := rt_up_eq (a := 0) (r := 0) (by omega) (by omega)
theorem v_SqrtDown27 : rt false 1 = (65536, 0) := rt_down (a := 1) (r := 65536) (by omega) (by omega) (by omega)
theorem v_SqrtUp28 : rt true 4503599627370497 = (0, 2) := rt_bad _ (by unfold ok; omega)
theorem v_ScaleDown29 : scl false 4503599627370496 4611686018427387904 4611686018427387904 = (4503599627370496, 0) := by decide +kernel
theorem v_ScaleUp30 : scl true 1 1 4611686018427387904 = (1, 0) := by decide +kernel
theorem v_ScaleDown31 : scl false 1 4611686018427387905 1 = (0, 2) := by decide +kernel
theorem v_ScaleDown32 : scl false 1 1 4611686018427387905 = (0, 2) := by decide +kernel
theorem v_ScaleDown33 : scl false 1 4611686018427387904 1 = (0, 6) := by decide +kernel
theorem v_ScaleDown34 : scl false (-1) 4611686018427387904 1024 = ((-4503599627370496), 0) := by decide +kernel
theorem v_ScaleDown35 : scl false 4503599627370497 0 1 = (0, 2) := by decide +kernel
theorem d_0 : dec 1048577 0 = (0, 0, 6) := by decide +kernel
theorem d_1 : dec (-9223372036854775808) 12 = (0, 0, 6) := by decide +kernel
theorem d_2 : dec 1048575999999999999 12 = (4503599627370495, 4503599627370496, 0) := by decide +kernel
theorem d_3 : dec 0 (-1) = (0, 0, 2) := by decide +kernel
theorem d_4 : dec 1048576000000000001 12 = (0, 0, 6) := by decide +kernel
theorem c_0 : chk 4503599627370496 = 0 := by decide +kernel
theorem c_1 : chk (-4503599627370496) = 0 := by decide +kernel
theorem c_2 : chk 4503599627370497 = 2 := by decide +kernel
theorem c_3 : chk (-9223372036854775808) = 2 := by decide +kernel

set_option maxRecDepth 100000 in
set_option maxHeartbeats 40000000 in
theorem walk (w : World) (hP : Pows w) :
    Calls Tryd.prog 8 #[] w fun e w' => e = .returned (.bool true) ∧ Below w.heap.size w w' := by
  have HP := Lib.hid hP
  clear hP
  go_enter Tryd.func8, Tryd.ntmps8
  go_wp2_with fail
  refine (law1_works _ HP.out).mono ?_; rintro e w1 ⟨rfl, hW⟩
  go_wp2_with fail
  refine (fix_Check _ _).mono ?_; rintro e w2 ⟨rfl, rfl⟩; rw [c_0]
  go_wp2_with fail
  refine (fix_Check _ _).mono ?_; rintro e w2 ⟨rfl, rfl⟩; rw [c_1]
  go_wp2_with fail
  refine (fix_Check _ _).mono ?_; rintro e w2 ⟨rfl, rfl⟩; rw [c_2]
  go_wp2_with fail
  refine (fix_Check _ _).mono ?_; rintro e w2 ⟨rfl, rfl⟩; rw [c_3]
  go_wp2_with fail
  refine (law1_fails 6 _).mono ?_
  rintro e w1 ⟨rfl, hbox⟩
  go_wp2_with fail
  refine (fix_Add 4503599627370496 1 _).mono ?_
  rintro e w2 ⟨rfl, hbel⟩
  rw [v_Add0]
  go_wp2_with fail
  refine (law1_fails1 6 _ _ (hbox.on hbel)).mono ?_
  rintro e w3 ⟨rfl, rfl⟩
  have hW := below_step (below_step hW hbox.bel) hbel
  clear hbox hbel
  go_wp2_with fail
  refine (law1_is 4503599627370496 _).mono ?_
  rintro e w1 ⟨rfl, hbox⟩
  go_wp2_with fail
  refine (fix_Add 4503599627370496 0 _).mono ?_
  rintro e w2 ⟨rfl, hbel⟩
  rw [v_Add1]
  go_wp2_with fail
  refine (law1_is1 4503599627370496 _ _ (hbox.on hbel)).mono ?_
  rintro e w3 ⟨rfl, rfl⟩
  have hW := below_step (below_step hW hbox.bel) hbel
  clear hbox hbel
  go_wp2_with fail
  refine (law1_is 0 _).mono ?_
  rintro e w1 ⟨rfl, hbox⟩
  go_wp2_with fail
  refine (fix_Add 4503599627370496 (-4503599627370496) _).mono ?_
  rintro e w2 ⟨rfl, hbel⟩
  rw [v_Add2]
  go_wp2_with fail
  refine (law1_is1 0 _ _ (hbox.on hbel)).mono ?_
  rintro e w3 ⟨rfl, rfl⟩
  have hW := below_step (below_step hW hbox.bel) hbel
  clear hbox hbel
  go_wp2_with fail
  refine (law1_fails 2 _).mono ?_
  rintro e w1 ⟨rfl, hbox⟩
  go_wp2_with fail
  refine (fix_Add 4503599627370497 (-1) _).mono ?_
  rintro e w2 ⟨rfl, hbel⟩
  rw [v_Add3]
  go_wp2_with fail
  refine (law1_fails1 2 _ _ (hbox.on hbel)).mono ?_
  rintro e w3 ⟨rfl, rfl⟩
  have hW := below_step (below_step hW hbox.bel) hbel
  clear hbox hbel
  go_wp2_with fail
  refine (law1_fails 2 _).mono ?_
  rintro e w1 ⟨rfl, hbox⟩
  go_wp2_with fail
  refine (fix_Sub 0 9223372036854775807 _).mono ?_
  rintro e w2 ⟨rfl, hbel⟩
  rw [v_Sub4]
  go_wp2_with fail
  refine (law1_fails1 2 _ _ (hbox.on hbel)).mono ?_
  rintro e w3 ⟨rfl, rfl⟩
  have hW := below_step (below_step hW hbox.bel) hbel
  clear hbox hbel
  go_wp2_with fail
  refine (law1_is (-4503599627370496) _).mono ?_
  rintro e w1 ⟨rfl, hbox⟩
  go_wp2_with fail
  refine (fix_Neg 4503599627370496 _).mono ?_
  rintro e w2 ⟨rfl, hq⟩
  have hbel := Below.of_eq hq
  clear hq
  rw [v_Neg5]
  go_wp2_with fail
  refine (law1_is1 (-4503599627370496) _ _ (hbox.on hbel)).mono ?_
  rintro e w3 ⟨rfl, rfl⟩
  have hW := below_step (below_step hW hbox.bel) hbel
  clear hbox hbel
  go_wp2_with fail
  refine (law1_is 4503599627370496 _).mono ?_
  rintro e w1 ⟨rfl, hbox⟩
  go_wp2_with fail
  refine (fix_MulUp 4503599627370496 4294967296 _).mono ?_
  rintro e w2 ⟨rfl, hbel⟩
  rw [v_MulUp6]
  go_wp2_with fail
  refine (law1_is1 4503599627370496 _ _ (hbox.on hbel)).mono ?_
  rintro e w3 ⟨rfl, rfl⟩
  have hW := below_step (below_step hW hbox.bel) hbel
  clear hbox hbel
  go_wp2_with fail
  refine (law1_fails 6 _).mono ?_
  rintro e w1 ⟨rfl, hbox⟩
  go_wp2_with fail
  refine (fix_MulUp 4503599627370496 4294967297 _).mono ?_
  rintro e w2 ⟨rfl, hbel⟩
  rw [v_MulUp7]
  go_wp2_with fail
  refine (law1_fails1 6 _ _ (hbox.on hbel)).mono ?_
  rintro e w3 ⟨rfl, rfl⟩
  have hW := below_step (below_step hW hbox.bel) hbel
  clear hbox hbel
  go_wp2_with fail
  refine (law1_fails 2 _).mono ?_
  rintro e w1 ⟨rfl, hbox⟩
  go_wp2_with fail
  refine (fix_MulDown 0 4503599627370497 _).mono ?_
  rintro e w2 ⟨rfl, hbel⟩
  rw [v_MulDown8]
  go_wp2_with fail
  refine (law1_fails1 2 _ _ (hbox.on hbel)).mono ?_
  rintro e w3 ⟨rfl, rfl⟩
  have hW := below_step (below_step hW hbox.bel) hbel
  clear hbox hbel
  go_wp2_with fail
  refine (law1_is 0 _).mono ?_
  rintro e w1 ⟨rfl, hbox⟩
  go_wp2_with fail
  refine (fix_MulDown 1 1 _).mono ?_
  rintro e w2 ⟨rfl, hbel⟩
  rw [v_MulDown9]
  go_wp2_with fail
  refine (law1_is1 0 _ _ (hbox.on hbel)).mono ?_
  rintro e w3 ⟨rfl, rfl⟩
  have hW := below_step (below_step hW hbox.bel) hbel
  clear hbox hbel
  go_wp2_with fail
  refine (law1_is 1 _).mono ?_
  rintro e w1 ⟨rfl, hbox⟩
  go_wp2_with fail
  refine (fix_MulUp 1 1 _).mono ?_
  rintro e w2 ⟨rfl, hbel⟩
  rw [v_MulUp10]
  go_wp2_with fail
  refine (law1_is1 1 _ _ (hbox.on hbel)).mono ?_
  rintro e w3 ⟨rfl, rfl⟩
  have hW := below_step (below_step hW hbox.bel) hbel
  clear hbox hbel
  go_wp2_with fail
  refine (law1_is (-1) _).mono ?_
  rintro e w1 ⟨rfl, hbox⟩
  go_wp2_with fail
  refine (fix_MulDown (-1) 1 _).mono ?_
  rintro e w2 ⟨rfl, hbel⟩
  rw [v_MulDown11]
  go_wp2_with fail
  refine (law1_is1 (-1) _ _ (hbox.on hbel)).mono ?_
  rintro e w3 ⟨rfl, rfl⟩
  have hW := below_step (below_step hW hbox.bel) hbel
  clear hbox hbel
  go_wp2_with fail
  refine (law1_is 0 _).mono ?_
  rintro e w1 ⟨rfl, hbox⟩
  go_wp2_with fail
  refine (fix_MulUp (-1) 1 _).mono ?_
  rintro e w2 ⟨rfl, hbel⟩
  rw [v_MulUp12]
  go_wp2_with fail
  refine (law1_is1 0 _ _ (hbox.on hbel)).mono ?_
  rintro e w3 ⟨rfl, rfl⟩
  have hW := below_step (below_step hW hbox.bel) hbel
  clear hbox hbel
  go_wp2_with fail
  refine (law1_fails 6 _).mono ?_
  rintro e w1 ⟨rfl, hbox⟩
  go_wp2_with fail
  refine (fix_MulDown (-4503599627370496) 4503599627370496 _).mono ?_
  rintro e w2 ⟨rfl, hbel⟩
  rw [v_MulDown13]
  go_wp2_with fail
  refine (law1_fails1 6 _ _ (hbox.on hbel)).mono ?_
  rintro e w3 ⟨rfl, rfl⟩
  have hW := below_step (below_step hW hbox.bel) hbel
  clear hbox hbel
  go_wp2_with fail
  refine (law1_fails 2 _).mono ?_
  rintro e w1 ⟨rfl, hbox⟩
  go_wp2_with fail
  refine (fix_DivDown 4503599627370497 0 _).mono ?_
  rintro e w2 ⟨rfl, hbel⟩
  rw [v_DivDown14]
  go_wp2_with fail
  refine (law1_fails1 2 _ _ (hbox.on hbel)).mono ?_
  rintro e w3 ⟨rfl, rfl⟩
  have hW := below_step (below_step hW hbox.bel) hbel
  clear hbox hbel
  go_wp2_with fail
  refine (law1_fails 7 _).mono ?_
  rintro e w1 ⟨rfl, hbox⟩
  go_wp2_with fail
  refine (fix_DivDown 0 0 _).mono ?_
  rintro e w2 ⟨rfl, hbel⟩
  rw [v_DivDown15]
  go_wp2_with fail
  refine (law1_fails1 7 _ _ (hbox.on hbel)).mono ?_
  rintro e w3 ⟨rfl, rfl⟩
  have hW := below_step (below_step hW hbox.bel) hbel
  clear hbox hbel
  go_wp2_with fail
  refine (law1_fails 6 _).mono ?_
  rintro e w1 ⟨rfl, hbox⟩
  go_wp2_with fail
  refine (fix_DivDown 4503599627370496 1 _).mono ?_
  rintro e w2 ⟨rfl, hbel⟩
  rw [v_DivDown16]
  go_wp2_with fail
  refine (law1_fails1 6 _ _ (hbox.on hbel)).mono ?_
  rintro e w3 ⟨rfl, rfl⟩
  have hW := below_step (below_step hW hbox.bel) hbel
  clear hbox hbel
  go_wp2_with fail
  refine (law1_is 4503599627370496 _).mono ?_
  rintro e w1 ⟨rfl, hbox⟩
  go_wp2_with fail
  refine (fix_DivDown 1048576 1 _).mono ?_
  rintro e w2 ⟨rfl, hbel⟩
  rw [v_DivDown17]
  go_wp2_with fail
  refine (law1_is1 4503599627370496 _ _ (hbox.on hbel)).mono ?_
  rintro e w3 ⟨rfl, rfl⟩
  have hW := below_step (below_step hW hbox.bel) hbel
  clear hbox hbel
  go_wp2_with fail
  refine (law1_fails 6 _).mono ?_
  rintro e w1 ⟨rfl, hbox⟩
  go_wp2_with fail
  refine (fix_DivUp 1048577 1 _).mono ?_
  rintro e w2 ⟨rfl, hbel⟩
  rw [v_DivUp18]
  go_wp2_with fail
  refine (law1_fails1 6 _ _ (hbox.on hbel)).mono ?_
  rintro e w3 ⟨rfl, rfl⟩
  have hW := below_step (below_step hW hbox.bel) hbel
  clear hbox hbel
  go_wp2_with fail
  refine (law1_is 1 _).mono ?_
  rintro e w1 ⟨rfl, hbox⟩
  go_wp2_with fail
  refine (fix_DivUp 1 4503599627370496 _).mono ?_
  rintro e w2 ⟨rfl, hbel⟩
  rw [v_DivUp19]
  go_wp2_with fail
  refine (law1_is1 1 _ _ (hbox.on hbel)).mono ?_
  rintro e w3 ⟨rfl, rfl⟩
  have hW := below_step (below_step hW hbox.bel) hbel
  clear hbox hbel
  go_wp2_with fail
  refine (law1_is 0 _).mono ?_
  rintro e w1 ⟨rfl, hbox⟩
  go_wp2_with fail
  refine (fix_DivDown 1 4503599627370496 _).mono ?_
  rintro e w2 ⟨rfl, hbel⟩
  rw [v_DivDown20]
  go_wp2_with fail
  refine (law1_is1 0 _ _ (hbox.on hbel)).mono ?_
  rintro e w3 ⟨rfl, rfl⟩
  have hW := below_step (below_step hW hbox.bel) hbel
  clear hbox hbel
  go_wp2_with fail
  refine (law1_is (-1) _).mono ?_
  rintro e w1 ⟨rfl, hbox⟩
  go_wp2_with fail
  refine (fix_DivDown (-1) 4503599627370496 _).mono ?_
  rintro e w2 ⟨rfl, hbel⟩
  rw [v_DivDown21]
  go_wp2_with fail
  refine (law1_is1 (-1) _ _ (hbox.on hbel)).mono ?_
  rintro e w3 ⟨rfl, rfl⟩
  have hW := below_step (below_step hW hbox.bel) hbel
  clear hbox hbel
  go_wp2_with fail
  refine (law1_is 4398046511104 _).mono ?_
  rintro e w1 ⟨rfl, hbox⟩
  go_wp2_with fail
  refine (fix_SqrtUp 4503599627370496 _).mono ?_
  rintro e w2 ⟨rfl, hbel⟩
  rw [v_SqrtUp22]
  go_wp2_with fail
  refine (law1_is1 4398046511104 _ _ (hbox.on hbel)).mono ?_
  rintro e w3 ⟨rfl, rfl⟩
  have hW := below_step (below_step hW hbox.bel) hbel
  clear hbox hbel
  go_wp2_with fail
  refine (law1_is 4398046511104 _).mono ?_
  rintro e w1 ⟨rfl, hbox⟩
  go_wp2_with fail
  refine (fix_SqrtDown 4503599627370496 _).mono ?_
  rintro e w2 ⟨rfl, hbel⟩
  rw [v_SqrtDown23]
  go_wp2_with fail
  refine (law1_is1 4398046511104 _ _ (hbox.on hbel)).mono ?_
  rintro e w3 ⟨rfl, rfl⟩
  have hW := below_step (below_step hW hbox.bel) hbel
  clear hbox hbel
  go_wp2_with fail
  refine (law1_is 4398046511104 _).mono ?_
  rintro e w1 ⟨rfl, hbox⟩
  go_wp2_with fail
  refine (fix_SqrtUp 4503599627370495 _).mono ?_
  rintro e w2 ⟨rfl, hbel⟩
  rw [v_SqrtUp24]
  go_wp2_with fail
  refine (law1_is1 4398046511104 _ _ (hbox.on hbel)).mono ?_
  rintro e w3 ⟨rfl, rfl⟩
  have hW := below_step (below_step hW hbox.bel) hbel
  clear hbox hbel
  go_wp2_with fail
  refine (law1_is 4398046511103 _).mono ?_
  rintro e w1 ⟨rfl, hbox⟩
  go_wp2_with fail
  refine (fix_SqrtDown 4503599627370495 _).mono ?_
  rintro e w2 ⟨rfl, hbel⟩
  rw [v_SqrtDown25]
  go_wp2_with fail
  refine (law1_is1 4398046511103 _ _ (hbox.on hbel)).mono ?_
  rintro e w3 ⟨rfl, rfl⟩
  have hW := below_step (below_step hW hbox.bel) hbel
  clear hbox hbel
  go_wp2_with fail
  refine (law1_is 0 _).mono ?_
  rintro e w1 ⟨rfl, hbox⟩
  go_wp2_with fail
  refine (fix_SqrtUp 0 _).mono ?_
  rintro e w2 ⟨rfl, hbel⟩
  rw [v_SqrtUp26]
  go_wp2_with fail
  refine (law1_is1 0 _ _ (hbox.on hbel)).mono ?_
  rintro e w3 ⟨rfl, rfl⟩
  have hW := below_step (below_step hW hbox.bel) hbel
  clear hbox hbel
  go_wp2_with fail
  refine (law1_is 65536 _).mono ?_
  rintro e w1 ⟨rfl, hbox⟩
  go_wp2_with fail
  refine (fix_SqrtDown 1 _).mono ?_
  rintro e w2 ⟨rfl, hbel⟩
  rw [v_SqrtDown27]
  go_wp2_with fail
  refine (law1_is1 65536 _ _ (hbox.on hbel)).mono ?_
  rintro e w3 ⟨rfl, rfl⟩
  have hW := below_step (below_step hW hbox.bel) hbel
  clear hbox hbel
  go_wp2_with fail
  refine (law1_fails 2 _).mono ?_
  rintro e w1 ⟨rfl, hbox⟩
  go_wp2_with fail
  refine (fix_SqrtUp 4503599627370497 _).mono ?_
  rintro e w2 ⟨rfl, hbel⟩
  rw [v_SqrtUp28]
  go_wp2_with fail
  refine (law1_fails1 2 _ _ (hbox.on hbel)).mono ?_
  rintro e w3 ⟨rfl, rfl⟩
  have hW := below_step (below_step hW hbox.bel) hbel
  clear hbox hbel
  go_wp2_with fail
  refine (law1_is 4503599627370496 _).mono ?_
  rintro e w1 ⟨rfl, hbox⟩
  go_wp2_with fail
  refine (fix_ScaleDown 4503599627370496 4611686018427387904 4611686018427387904 _).mono ?_
  rintro e w2 ⟨rfl, hbel⟩
  rw [v_ScaleDown29]
  go_wp2_with fail
  refine (law1_is1 4503599627370496 _ _ (hbox.on hbel)).mono ?_
  rintro e w3 ⟨rfl, rfl⟩
  have hW := below_step (below_step hW hbox.bel) hbel
  clear hbox hbel
  go_wp2_with fail
  refine (law1_is 1 _).mono ?_
  rintro e w1 ⟨rfl, hbox⟩
  go_wp2_with fail
  refine (fix_ScaleUp 1 1 4611686018427387904 _).mono ?_
  rintro e w2 ⟨rfl, hbel⟩
  rw [v_ScaleUp30]
  go_wp2_with fail
  refine (law1_is1 1 _ _ (hbox.on hbel)).mono ?_
  rintro e w3 ⟨rfl, rfl⟩
  have hW := below_step (below_step hW hbox.bel) hbel
  clear hbox hbel
  go_wp2_with fail
  refine (law1_fails 2 _).mono ?_
  rintro e w1 ⟨rfl, hbox⟩
  go_wp2_with fail
  refine (fix_ScaleDown 1 4611686018427387905 1 _).mono ?_
  rintro e w2 ⟨rfl, hbel⟩
  rw [v_ScaleDown31]
  go_wp2_with fail
  refine (law1_fails1 2 _ _ (hbox.on hbel)).mono ?_
  rintro e w3 ⟨rfl, rfl⟩
  have hW := below_step (below_step hW hbox.bel) hbel
  clear hbox hbel
  go_wp2_with fail
  refine (law1_fails 2 _).mono ?_
  rintro e w1 ⟨rfl, hbox⟩
  go_wp2_with fail
  refine (fix_ScaleDown 1 1 4611686018427387905 _).mono ?_
  rintro e w2 ⟨rfl, hbel⟩
  rw [v_ScaleDown32]
  go_wp2_with fail
  refine (law1_fails1 2 _ _ (hbox.on hbel)).mono ?_
  rintro e w3 ⟨rfl, rfl⟩
  have hW := below_step (below_step hW hbox.bel) hbel
  clear hbox hbel
  go_wp2_with fail
  refine (law1_fails 6 _).mono ?_
  rintro e w1 ⟨rfl, hbox⟩
  go_wp2_with fail
  refine (fix_ScaleDown 1 4611686018427387904 1 _).mono ?_
  rintro e w2 ⟨rfl, hbel⟩
  rw [v_ScaleDown33]
  go_wp2_with fail
  refine (law1_fails1 6 _ _ (hbox.on hbel)).mono ?_
  rintro e w3 ⟨rfl, rfl⟩
  have hW := below_step (below_step hW hbox.bel) hbel
  clear hbox hbel
  go_wp2_with fail
  refine (law1_is (-4503599627370496) _).mono ?_
  rintro e w1 ⟨rfl, hbox⟩
  go_wp2_with fail
  refine (fix_ScaleDown (-1) 4611686018427387904 1024 _).mono ?_
  rintro e w2 ⟨rfl, hbel⟩
  rw [v_ScaleDown34]
  go_wp2_with fail
  refine (law1_is1 (-4503599627370496) _ _ (hbox.on hbel)).mono ?_
  rintro e w3 ⟨rfl, rfl⟩
  have hW := below_step (below_step hW hbox.bel) hbel
  clear hbox hbel
  go_wp2_with fail
  refine (law1_fails 2 _).mono ?_
  rintro e w1 ⟨rfl, hbox⟩
  go_wp2_with fail
  refine (fix_ScaleDown 4503599627370497 0 1 _).mono ?_
  rintro e w2 ⟨rfl, hbel⟩
  rw [v_ScaleDown35]
  go_wp2_with fail
  refine (law1_fails1 2 _ _ (hbox.on hbel)).mono ?_
  rintro e w3 ⟨rfl, rfl⟩
  have hW := below_step (below_step hW hbox.bel) hbel
  clear hbox hbel
  go_wp2_with fail
  refine (fix_FromDec 1048577 0 (by omega) _ (HP.out.below hW)).mono ?_
  rintro e w2 ⟨rfl, hbel⟩
  rw [d_0]
  have hW := below_step hW hbel
  clear hbel
  go_wp2_with fail
  refine (fix_FromDec (-9223372036854775808) 12 (by omega) _ (HP.out.below hW)).mono ?_
  rintro e w2 ⟨rfl, hbel⟩
  rw [d_1]
  have hW := below_step hW hbel
  clear hbel
  go_wp2_with fail
  refine (fix_FromDec 1048575999999999999 12 (by omega) _ (HP.out.below hW)).mono ?_
  rintro e w2 ⟨rfl, hbel⟩
  rw [d_2]
  have hW := below_step hW hbel
  clear hbel
  go_wp2_with fail
  refine (fix_FromDec 0 (-1) (by omega) _ (HP.out.below hW)).mono ?_
  rintro e w2 ⟨rfl, hbel⟩
  rw [d_3]
  have hW := below_step hW hbel
  clear hbel
  go_wp2_with fail
  refine (fix_FromDec 1048576000000000001 12 (by omega) _ (HP.out.below hW)).mono ?_
  rintro e w2 ⟨rfl, hbel⟩
  rw [d_4]
  have hW := below_step hW hbel
  clear hbel
  go_wp2_with fail
  refine (law1_works _ (HP.out.below hW)).mono ?_; rintro e w1 ⟨rfl, hb⟩
  have hW := below_step hW hb
  clear hb
  go_wp2_with fail
  go_ret
  exact ⟨rfl, hW⟩
end Go.Proofs.YtgfofilkpaelnaaDoor.fixKnown
