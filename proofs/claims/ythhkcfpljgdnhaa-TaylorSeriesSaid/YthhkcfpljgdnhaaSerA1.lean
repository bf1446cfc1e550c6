/- Plain: what TaylorSeries computes, t from -6 to -5. Printed by wip/genSer.py. -/
import Derived.Test.YthhkcfpljgdnhaaSerA
namespace Go.Proofs.Ythhkcfpljgdnhaa
open Mnc
def sA2 : List (Int × Int) := [(4294967296, 4294967296), (0, 0), (-1610612736, -1610612736), (0, 0), (0, 0), (603979776, 603979776), (0, 0), (0, 0), (0, 0), (-226492416, -226492416), (0, 0), (0, 0), (0, 0), (0, 0), (84934656, 84934656), (0, 0), (0, 0), (0, 0), (0, 0), (0, 0), (-31850496, -31850496), (0, 320617591)]
def sB2 : List (Int × Int) := [(4294967296, 4294967296), (0, 0), (-805306368, -805306368), (0, 0), (0, 0), (-75497472, -75497472), (0, 0), (0, 0), (0, 0), (-14155776, -14155776), (0, 0), (0, 0), (0, 0), (0, 0), (-3317760, -3317760), (0, 0), (0, 0), (0, 0), (0, 0), (0, 0), (-870912, -870912), (-3248828, 0)]
theorem ser2 : Ser (-6) sA2 sB2 (3114926080, 3435543671) (4283023360, 4723872548) (5033236292, 5036485120) (5898407560, 5906024567) where
  hA := by decide +kernel
  hB := (xSqrt_fast _).trans (by decide +kernel)
  lA := by decide +kernel
  lB := by decide +kernel
  rA := by decide +kernel
  rB := by decide +kernel
  n := by decide +kernel
  hE := by decide +kernel
  hW := by decide +kernel
  w0 := by decide +kernel
  w1 := by decide +kernel
  hL := by decide +kernel
  hS := by decide +kernel
  s0 := by decide +kernel
  s1 := by decide +kernel
def sA3 : List (Int × Int) := [(4294967296, 4294967296), (0, 0), (-1342177280, -1342177280), (0, 0), (0, 0), (419430400, 419430400), (0, 0), (0, 0), (0, 0), (-131072000, -131072000), (0, 0), (0, 0), (0, 0), (0, 0), (40960000, 40960000), (0, 0), (0, 0), (0, 0), (0, 0), (0, 0), (-12800000, -12800000), (0, 55099934)]
def sB3 : List (Int × Int) := [(4294967296, 4294967296), (0, 0), (-671088640, -671088640), (0, 0), (0, 0), (-52428800, -52428800), (0, 0), (0, 0), (0, 0), (-8192000, -8192000), (0, 0), (0, 0), (0, 0), (0, 0), (-1600000, -1600000), (0, 0), (0, 0), (0, 0), (0, 0), (0, 0), (-350000, -350000), (-644139, 0)]
theorem ser3 : Ser (-5) sA3 sB3 (3269308416, 3324408350) (4290967296, 4363285960) (4919924997, 4920569136) (5635819857, 5637295690) where
  hA := by decide +kernel
  hB := (xSqrt_fast _).trans (by decide +kernel)
  lA := by decide +kernel
  lB := by decide +kernel
  rA := by decide +kernel
  rB := by decide +kernel
  n := by decide +kernel
  hE := by decide +kernel
  hW := by decide +kernel
  w0 := by decide +kernel
  w1 := by decide +kernel
  hL := by decide +kernel
  hS := by decide +kernel
  s0 := by decide +kernel
  s1 := by decide +kernel
end Go.Proofs.Ythhkcfpljgdnhaa
