/- The walk of monoclelaw01.works. Printed by wip/genW1.py. -/
import Derived.Test.YtjphhdfkkkdppaaDoorLawA
namespace Go.Proofs.YtjphhdfkkkdppaaDoor
open Go.RowKit Mnc

theorem v_Add0 : add 1 2 = (3, 0) := by decide +kernel
theorem v_Sub1 : sub (-4503599627370496) 1 = (0, 6) := by decide +kernel
theorem v_Neg2 : neg 4503599627370497 = (0, 2) := by decide +kernel
theorem v_MulDown3 : mul false 3 2147483648 = (1, 0) := by decide +kernel
theorem v_MulUp4 : mul true 3 2147483648 = (2, 0) := by decide +kernel
theorem v_MulDown5 : mul false (-3) 2147483648 = ((-2), 0) := by decide +kernel
theorem v_DivDown6 : dvd false 4294967296 12884901888 = (1431655765, 0) := by decide +kernel
theorem v_DivUp7 : dvd true 4294967296 12884901888 = (1431655766, 0) := by decide +kernel
theorem v_DivUp8 : dvd true 1 0 = (0, 7) := by decide +kernel
theorem v_SqrtDown9 : rt false 8589934592 = (6074000999, 0) := rt_down (a := 8589934592) (r := 6074000999) (by omega) (by omega) (by omega)
theorem v_SqrtUp10 : rt true 8589934592 = (6074001000, 0) := rt_up (a := 8589934592) (r := 6074000999) (by omega) (by omega) (by omega)
theorem v_SqrtDown11 : rt false 17179869184 = (8589934592, 0) := rt_down (a := 17179869184) (r := 8589934592) (by omega) (by omega) (by omega)
theorem v_MulDown12 : mul false 4503599627370496 4503599627370496 = (0, 6) := by decide +kernel
theorem v_SqrtDown13 : rt false (-1) = (0, 2) := rt_bad _ (by unfold ok; omega)
theorem v_ScaleDown14 : scl false 4294967296 (-1) 3 = ((-1431655766), 0) := by decide +kernel
theorem v_ScaleUp15 : scl true 4294967296 (-1) 3 = ((-1431655765), 0) := by decide +kernel
theorem v_ScaleUp16 : scl true 1 1 0 = (0, 2) := by decide +kernel
theorem d_0 : dec 125 1 = (53687091200, 53687091200, 0) := by decide +kernel
theorem d_1 : dec (-1) 12 = ((-1), 0, 0) := by decide +kernel
theorem d_2 : dec 1048576 0 = (4503599627370496, 4503599627370496, 0) := by decide +kernel
theorem d_3 : dec 1 13 = (0, 0, 2) := by decide +kernel

theorem Below.of_eq {w w' : World} (h : w = w') : Below w.heap.size w w' := h ▸ Below.refl _ _

end Go.Proofs.YtjphhdfkkkdppaaDoor
