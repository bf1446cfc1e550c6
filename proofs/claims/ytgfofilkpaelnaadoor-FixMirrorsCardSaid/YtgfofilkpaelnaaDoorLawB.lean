/- The walk of monoclelaw01.works. Printed by wip/genW1.py. -/
import Derived.Test.YtgfofilkpaelnaaDoorLawA
namespace Go.Proofs.YtgfofilkpaelnaaDoor
open Go.RowKit Mnc

theorem v_Add0 : add 1 2 = (3, 0) := by decide +kernel
theorem v_Sub1 : sub (-4503599627370496) 1 = (0, 6) := by decide +kernel
theorem v_Neg2 : neg 4503599627370497 = (0, 2) := by decide +kernel
theorem v_MulDown3 : mul false 3 2147483648 = (1, 0) := by decide +kernel
theorem v_MulUp4 : mul true 3 2147483648 = (2, 0) := by decide +kernel
theorem v_MulDown5 : mul false (-3) 2147483648 = ((-2), 0) := by decide +kernel
theorem v_DivDown6 : dvd false 4294967296 12884901888 = (1431655765, 0) := by decide +kernel
theorem v_DivUp7 : dvd true 4294967296 12884901888 = (1431655766, 0) := by decide +kernel
theorem v_DivUp8 : dvd true 1 0 = (0, 7) := by decide +kernel
theorem v_SqrtDown9 : rt false 8589934592 = (6074000999, 0) := rt_down (a := 8589934592) (r := 6074000999) (by omega) (by omega) (by omega)
theorem v_SqrtUp10 : rt true 8589934592 = (6074001000, 0) := rt_up (a := 8589934592) (r := 6074000999) (by omega) (by omega) (by omega)
theorem v_SqrtDown11 : rt false 17179869184 = (8589934592, 0) := rt_down (a := 17179869184) (r := 8589934592) (by omega) (by omega) (by omega)
theorem v_MulDown12 : mul false 4503599627370496 4503599627370496 = (0, 6) := by decide +kernel
theorem v_SqrtDown13 : rt false (-1) = (0, 2) := rt_bad _ (by unfold ok; omega)
theorem v_ScaleDown14 : scl false 4294967296 (-1) 3 = ((-1431655766), 0) := by decide +kernel
theorem v_ScaleUp15 : scl true 4294967296 (-1) 3 = ((-1431655765), 0) := by decide +kernel
theorem v_ScaleUp16 : scl true 1 1 0 = (0, 2) := by decide +kernel
theorem d_0 : dec 125 1 = (53687091200, 53687091200, 0) := by decide +kernel
theorem d_1 : dec (-1) 12 = ((-1), 0, 0) := by decide +kernel
theorem d_2 : dec 1048576 0 = (4503599627370496, 4503599627370496, 0) := by decide +kernel
theorem d_3 : dec 1 13 = (0, 0, 2) := by decide +kernel

theorem Below.of_eq {w w' : World} (h : w = w') : Below w.heap.size w w' := h ▸ Below.refl _ _

set_option maxRecDepth 100000 in
set_option maxHeartbeats 20000000 in
theorem law1_works (w : World) (hP : Pows w) :
    Calls Tryd.prog 18 #[] w fun e w' => e = .returned (.bool true) ∧ Below w.heap.size w w' := by
  have HP := Lib.hid hP
  clear hP
  have hW : Below w.heap.size w w := Below.refl _ _
  go_enter Tryd.func18, Tryd.ntmps18
  go_wp2_with fail
  refine (law1_is 3 _).mono ?_
  rintro e w1 ⟨rfl, hbox⟩
  go_wp2_with fail
  refine (fix_Add 1 2 _).mono ?_
  rintro e w2 ⟨rfl, hbel⟩
  rw [v_Add0]
  go_wp2_with fail
  refine (law1_is1 3 _ _ (hbox.on hbel)).mono ?_
  rintro e w3 ⟨rfl, rfl⟩
  have hW := below_step (below_step hW hbox.bel) hbel
  clear hbox hbel
  go_wp2_with fail
  refine (law1_fails 6 _).mono ?_
  rintro e w1 ⟨rfl, hbox⟩
  go_wp2_with fail
  refine (fix_Sub (-4503599627370496) 1 _).mono ?_
  rintro e w2 ⟨rfl, hbel⟩
  rw [v_Sub1]
  go_wp2_with fail
  refine (law1_fails1 6 _ _ (hbox.on hbel)).mono ?_
  rintro e w3 ⟨rfl, rfl⟩
  have hW := below_step (below_step hW hbox.bel) hbel
  clear hbox hbel
  go_wp2_with fail
  refine (law1_fails 2 _).mono ?_
  rintro e w1 ⟨rfl, hbox⟩
  go_wp2_with fail
  refine (fix_Neg 4503599627370497 _).mono ?_
  rintro e w2 ⟨rfl, hq⟩
  have hbel := Below.of_eq hq
  clear hq
  rw [v_Neg2]
  go_wp2_with fail
  refine (law1_fails1 2 _ _ (hbox.on hbel)).mono ?_
  rintro e w3 ⟨rfl, rfl⟩
  have hW := below_step (below_step hW hbox.bel) hbel
  clear hbox hbel
  go_wp2_with fail
  refine (law1_is 1 _).mono ?_
  rintro e w1 ⟨rfl, hbox⟩
  go_wp2_with fail
  refine (fix_MulDown 3 2147483648 _).mono ?_
  rintro e w2 ⟨rfl, hbel⟩
  rw [v_MulDown3]
  go_wp2_with fail
  refine (law1_is1 1 _ _ (hbox.on hbel)).mono ?_
  rintro e w3 ⟨rfl, rfl⟩
  have hW := below_step (below_step hW hbox.bel) hbel
  clear hbox hbel
  go_wp2_with fail
  refine (law1_is 2 _).mono ?_
  rintro e w1 ⟨rfl, hbox⟩
  go_wp2_with fail
  refine (fix_MulUp 3 2147483648 _).mono ?_
  rintro e w2 ⟨rfl, hbel⟩
  rw [v_MulUp4]
  go_wp2_with fail
  refine (law1_is1 2 _ _ (hbox.on hbel)).mono ?_
  rintro e w3 ⟨rfl, rfl⟩
  have hW := below_step (below_step hW hbox.bel) hbel
  clear hbox hbel
  go_wp2_with fail
  refine (law1_is (-2) _).mono ?_
  rintro e w1 ⟨rfl, hbox⟩
  go_wp2_with fail
  refine (fix_MulDown (-3) 2147483648 _).mono ?_
  rintro e w2 ⟨rfl, hbel⟩
  rw [v_MulDown5]
  go_wp2_with fail
  refine (law1_is1 (-2) _ _ (hbox.on hbel)).mono ?_
  rintro e w3 ⟨rfl, rfl⟩
  have hW := below_step (below_step hW hbox.bel) hbel
  clear hbox hbel
  go_wp2_with fail
  refine (law1_is 1431655765 _).mono ?_
  rintro e w1 ⟨rfl, hbox⟩
  go_wp2_with fail
  refine (fix_DivDown 4294967296 12884901888 _).mono ?_
  rintro e w2 ⟨rfl, hbel⟩
  rw [v_DivDown6]
  go_wp2_with fail
  refine (law1_is1 1431655765 _ _ (hbox.on hbel)).mono ?_
  rintro e w3 ⟨rfl, rfl⟩
  have hW := below_step (below_step hW hbox.bel) hbel
  clear hbox hbel
  go_wp2_with fail
  refine (law1_is 1431655766 _).mono ?_
  rintro e w1 ⟨rfl, hbox⟩
  go_wp2_with fail
  refine (fix_DivUp 4294967296 12884901888 _).mono ?_
  rintro e w2 ⟨rfl, hbel⟩
  rw [v_DivUp7]
  go_wp2_with fail
  refine (law1_is1 1431655766 _ _ (hbox.on hbel)).mono ?_
  rintro e w3 ⟨rfl, rfl⟩
  have hW := below_step (below_step hW hbox.bel) hbel
  clear hbox hbel
  go_wp2_with fail
  refine (law1_fails 7 _).mono ?_
  rintro e w1 ⟨rfl, hbox⟩
  go_wp2_with fail
  refine (fix_DivUp 1 0 _).mono ?_
  rintro e w2 ⟨rfl, hbel⟩
  rw [v_DivUp8]
  go_wp2_with fail
  refine (law1_fails1 7 _ _ (hbox.on hbel)).mono ?_
  rintro e w3 ⟨rfl, rfl⟩
  have hW := below_step (below_step hW hbox.bel) hbel
  clear hbox hbel
  go_wp2_with fail
  refine (law1_is 6074000999 _).mono ?_
  rintro e w1 ⟨rfl, hbox⟩
  go_wp2_with fail
  refine (fix_SqrtDown 8589934592 _).mono ?_
  rintro e w2 ⟨rfl, hbel⟩
  rw [v_SqrtDown9]
  go_wp2_with fail
  refine (law1_is1 6074000999 _ _ (hbox.on hbel)).mono ?_
  rintro e w3 ⟨rfl, rfl⟩
  have hW := below_step (below_step hW hbox.bel) hbel
  clear hbox hbel
  go_wp2_with fail
  refine (law1_is 6074001000 _).mono ?_
  rintro e w1 ⟨rfl, hbox⟩
  go_wp2_with fail
  refine (fix_SqrtUp 8589934592 _).mono ?_
  rintro e w2 ⟨rfl, hbel⟩
  rw [v_SqrtUp10]
  go_wp2_with fail
  refine (law1_is1 6074001000 _ _ (hbox.on hbel)).mono ?_
  rintro e w3 ⟨rfl, rfl⟩
  have hW := below_step (below_step hW hbox.bel) hbel
  clear hbox hbel
  go_wp2_with fail
  refine (law1_is 8589934592 _).mono ?_
  rintro e w1 ⟨rfl, hbox⟩
  go_wp2_with fail
  refine (fix_SqrtDown 17179869184 _).mono ?_
  rintro e w2 ⟨rfl, hbel⟩
  rw [v_SqrtDown11]
  go_wp2_with fail
  refine (law1_is1 8589934592 _ _ (hbox.on hbel)).mono ?_
  rintro e w3 ⟨rfl, rfl⟩
  have hW := below_step (below_step hW hbox.bel) hbel
  clear hbox hbel
  go_wp2_with fail
  refine (law1_fails 6 _).mono ?_
  rintro e w1 ⟨rfl, hbox⟩
  go_wp2_with fail
  refine (fix_MulDown 4503599627370496 4503599627370496 _).mono ?_
  rintro e w2 ⟨rfl, hbel⟩
  rw [v_MulDown12]
  go_wp2_with fail
  refine (law1_fails1 6 _ _ (hbox.on hbel)).mono ?_
  rintro e w3 ⟨rfl, rfl⟩
  have hW := below_step (below_step hW hbox.bel) hbel
  clear hbox hbel
  go_wp2_with fail
  refine (law1_fails 2 _).mono ?_
  rintro e w1 ⟨rfl, hbox⟩
  go_wp2_with fail
  refine (fix_SqrtDown (-1) _).mono ?_
  rintro e w2 ⟨rfl, hbel⟩
  rw [v_SqrtDown13]
  go_wp2_with fail
  refine (law1_fails1 2 _ _ (hbox.on hbel)).mono ?_
  rintro e w3 ⟨rfl, rfl⟩
  have hW := below_step (below_step hW hbox.bel) hbel
  clear hbox hbel
  go_wp2_with fail
  refine (law1_is (-1431655766) _).mono ?_
  rintro e w1 ⟨rfl, hbox⟩
  go_wp2_with fail
  refine (fix_ScaleDown 4294967296 (-1) 3 _).mono ?_
  rintro e w2 ⟨rfl, hbel⟩
  rw [v_ScaleDown14]
  go_wp2_with fail
  refine (law1_is1 (-1431655766) _ _ (hbox.on hbel)).mono ?_
  rintro e w3 ⟨rfl, rfl⟩
  have hW := below_step (below_step hW hbox.bel) hbel
  clear hbox hbel
  go_wp2_with fail
  refine (law1_is (-1431655765) _).mono ?_
  rintro e w1 ⟨rfl, hbox⟩
  go_wp2_with fail
  refine (fix_ScaleUp 4294967296 (-1) 3 _).mono ?_
  rintro e w2 ⟨rfl, hbel⟩
  rw [v_ScaleUp15]
  go_wp2_with fail
  refine (law1_is1 (-1431655765) _ _ (hbox.on hbel)).mono ?_
  rintro e w3 ⟨rfl, rfl⟩
  have hW := below_step (below_step hW hbox.bel) hbel
  clear hbox hbel
  go_wp2_with fail
  refine (law1_fails 2 _).mono ?_
  rintro e w1 ⟨rfl, hbox⟩
  go_wp2_with fail
  refine (fix_ScaleUp 1 1 0 _).mono ?_
  rintro e w2 ⟨rfl, hbel⟩
  rw [v_ScaleUp16]
  go_wp2_with fail
  refine (law1_fails1 2 _ _ (hbox.on hbel)).mono ?_
  rintro e w3 ⟨rfl, rfl⟩
  have hW := below_step (below_step hW hbox.bel) hbel
  clear hbox hbel
  go_wp2_with fail
  refine (fix_FromDec 125 1 (by omega) _ (HP.out.below hW)).mono ?_
  rintro e w2 ⟨rfl, hbel⟩
  rw [d_0]
  have hW := below_step hW hbel
  clear hbel
  go_wp2_with fail
  refine (fix_FromDec (-1) 12 (by omega) _ (HP.out.below hW)).mono ?_
  rintro e w2 ⟨rfl, hbel⟩
  rw [d_1]
  have hW := below_step hW hbel
  clear hbel
  go_wp2_with fail
  refine (fix_FromDec 1048576 0 (by omega) _ (HP.out.below hW)).mono ?_
  rintro e w2 ⟨rfl, hbel⟩
  rw [d_2]
  have hW := below_step hW hbel
  clear hbel
  go_wp2_with fail
  refine (fix_FromDec 1 13 (by omega) _ (HP.out.below hW)).mono ?_
  rintro e w2 ⟨rfl, hbel⟩
  rw [d_3]
  have hW := below_step hW hbel
  clear hbel
  go_wp2_with fail
  go_ret
  exact ⟨rfl, hW⟩
end Go.Proofs.YtgfofilkpaelnaaDoor
