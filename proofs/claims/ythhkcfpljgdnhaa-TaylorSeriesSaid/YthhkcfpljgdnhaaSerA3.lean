/- Plain: what TaylorSeries computes, t from -1 to 2. Printed by wip/genSer.py. -/
import Derived.Test.YthhkcfpljgdnhaaSerA
namespace Go.Proofs.Ythhkcfpljgdnhaa
open Mnc
def sA7 : List (Int × Int) := [(4294967296, 4294967296), (0, 0), (-268435456, -268435456), (0, 0), (0, 0), (16777216, 16777216), (0, 0), (0, 0), (0, 0), (-1048576, -1048576), (0, 0), (0, 0), (0, 0), (0, 0), (65536, 65536), (0, 0), (0, 0), (0, 0), (0, 0), (0, 0), (-4096, -4096), (0, 403)]
def sB7 : List (Int × Int) := [(4294967296, 4294967296), (0, 0), (-134217728, -134217728), (0, 0), (0, 0), (-2097152, -2097152), (0, 0), (0, 0), (0, 0), (-65536, -65536), (0, 0), (0, 0), (0, 0), (0, 0), (-2560, -2560), (0, 0), (0, 0), (0, 0), (0, 0), (0, 0), (-112, -112), (-8, 0)]
theorem ser7 : Ser (-1) sA7 sB7 (4042321920, 4042322323) (4294967040, 4294967469) (4427150952, 4427150960) (4563402745, 4563402763) where
  hA := by decide +kernel
  hB := (xSqrt_fast _).trans (by decide +kernel)
  lA := by decide +kernel
  lB := by decide +kernel
  rA := by decide +kernel
  rB := by decide +kernel
  n := by decide +kernel
  hE := by decide +kernel
  hW := by decide +kernel
  w0 := by decide +kernel
  w1 := by decide +kernel
  hL := by decide +kernel
  hS := by decide +kernel
  s0 := by decide +kernel
  s1 := by decide +kernel
def sA8 : List (Int × Int) := [(4294967296, 4294967296), (0, 0), (0, 0), (0, 0), (0, 0), (0, 0), (0, 0), (0, 0), (0, 0), (0, 0), (0, 0), (0, 0), (0, 0), (0, 0), (0, 0), (0, 0), (0, 0), (0, 0), (0, 0), (0, 0), (0, 0), (0, 0)]
def sB8 : List (Int × Int) := [(4294967296, 4294967296), (0, 0), (0, 0), (0, 0), (0, 0), (0, 0), (0, 0), (0, 0), (0, 0), (0, 0), (0, 0), (0, 0), (0, 0), (0, 0), (0, 0), (0, 0), (0, 0), (0, 0), (0, 0), (0, 0), (0, 0), (0, 0)]
theorem ser8 : Ser 0 sA8 sB8 (4294967296, 4294967296) (4294967296, 4294967296) (4294967296, 4294967296) (4294967296, 4294967296) where
  hA := by decide +kernel
  hB := (xSqrt_fast _).trans (by decide +kernel)
  lA := by decide +kernel
  lB := by decide +kernel
  rA := by decide +kernel
  rB := by decide +kernel
  n := by decide +kernel
  hE := by decide +kernel
  hW := by decide +kernel
  w0 := by decide +kernel
  w1 := by decide +kernel
  hL := by decide +kernel
  hS := by decide +kernel
  s0 := by decide +kernel
  s1 := by decide +kernel
def sA9 : List (Int × Int) := [(4294967296, 4294967296), (0, 0), (268435456, 268435456), (0, 0), (0, 0), (16777216, 16777216), (0, 0), (0, 0), (0, 0), (1048576, 1048576), (0, 0), (0, 0), (0, 0), (0, 0), (65536, 65536), (0, 0), (0, 0), (0, 0), (0, 0), (0, 0), (4096, 4096), (0, 403)]
def sB9 : List (Int × Int) := [(4294967296, 4294967296), (0, 0), (134217728, 134217728), (0, 0), (0, 0), (-2097152, -2097152), (0, 0), (0, 0), (0, 0), (65536, 65536), (0, 0), (0, 0), (0, 0), (0, 0), (-2560, -2560), (0, 0), (0, 0), (0, 0), (0, 0), (0, 0), (112, 112), (-8, 0)]
theorem ser9 : Ser 1 sA9 sB9 (4581298176, 4581298579) (4294967040, 4294967418) (4158584200, 4158584208) (4026531835, 4026531851) where
  hA := by decide +kernel
  hB := (xSqrt_fast _).trans (by decide +kernel)
  lA := by decide +kernel
  lB := by decide +kernel
  rA := by decide +kernel
  rB := by decide +kernel
  n := by decide +kernel
  hE := by decide +kernel
  hW := by decide +kernel
  w0 := by decide +kernel
  w1 := by decide +kernel
  hL := by decide +kernel
  hS := by decide +kernel
  s0 := by decide +kernel
  s1 := by decide +kernel
def sA10 : List (Int × Int) := [(4294967296, 4294967296), (0, 0), (536870912, 536870912), (0, 0), (0, 0), (67108864, 67108864), (0, 0), (0, 0), (0, 0), (8388608, 8388608), (0, 0), (0, 0), (0, 0), (0, 0), (1048576, 1048576), (0, 0), (0, 0), (0, 0), (0, 0), (0, 0), (131072, 131072), (0, 41722)]
def sB10 : List (Int × Int) := [(4294967296, 4294967296), (0, 0), (268435456, 268435456), (0, 0), (0, 0), (-8388608, -8388608), (0, 0), (0, 0), (0, 0), (524288, 524288), (0, 0), (0, 0), (0, 0), (0, 0), (-40960, -40960), (0, 0), (0, 0), (0, 0), (0, 0), (0, 0), (3584, 3584), (-701, 0)]
theorem ser10 : Ser 2 sA10 sB10 (4908515328, 4908557050) (4294950912, 4294987419) (4017573699, 4017574400) (3758095769, 3758097082) where
  hA := by decide +kernel
  hB := (xSqrt_fast _).trans (by decide +kernel)
  lA := by decide +kernel
  lB := by decide +kernel
  rA := by decide +kernel
  rB := by decide +kernel
  n := by decide +kernel
  hE := by decide +kernel
  hW := by decide +kernel
  w0 := by decide +kernel
  w1 := by decide +kernel
  hL := by decide +kernel
  hS := by decide +kernel
  s0 := by decide +kernel
  s1 := by decide +kernel
end Go.Proofs.Ythhkcfpljgdnhaa
