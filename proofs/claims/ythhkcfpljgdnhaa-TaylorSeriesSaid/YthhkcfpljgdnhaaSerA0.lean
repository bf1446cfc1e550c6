/- Plain: what TaylorSeries computes, t from -8 to -7. Printed by wip/genSer.py. -/
import Derived.Test.YthhkcfpljgdnhaaSerA
namespace Go.Proofs.Ythhkcfpljgdnhaa
open Mnc
def sA0 : List (Int × Int) := [(4294967296, 4294967296), (0, 0), (-2147483648, -2147483648), (0, 0), (0, 0), (1073741824, 1073741824), (0, 0), (0, 0), (0, 0), (-536870912, -536870912), (0, 0), (0, 0), (0, 0), (0, 0), (268435456, 268435456), (0, 0), (0, 0), (0, 0), (0, 0), (0, 0), (-134217728, -134217728), (0, 8589934592)]
def sB0 : List (Int × Int) := [(4294967296, 4294967296), (0, 0), (-1073741824, -1073741824), (0, 0), (0, 0), (-134217728, -134217728), (0, 0), (0, 0), (0, 0), (-33554432, -33554432), (0, 0), (0, 0), (0, 0), (0, 0), (-10485760, -10485760), (0, 0), (0, 0), (0, 0), (0, 0), (0, 0), (-3670016, -3670016), (-62282238, 0)]
theorem ser0 : Ser (-8) sA0 sB0 (2818572288, 11408506880) (4227858432, 17112760320) (5198947842, 5261230080) (6293193126, 6444878400) where
  hA := by decide +kernel
  hB := (xSqrt_fast _).trans (by decide +kernel)
  lA := by decide +kernel
  lB := by decide +kernel
  rA := by decide +kernel
  rB := by decide +kernel
  n := by decide +kernel
  hE := by decide +kernel
  hW := by decide +kernel
  w0 := by decide +kernel
  w1 := by decide +kernel
  hL := by decide +kernel
  hS := by decide +kernel
  s0 := by decide +kernel
  s1 := by decide +kernel
def sA1 : List (Int × Int) := [(4294967296, 4294967296), (0, 0), (-1879048192, -1879048192), (0, 0), (0, 0), (822083584, 822083584), (0, 0), (0, 0), (0, 0), (-359661568, -359661568), (0, 0), (0, 0), (0, 0), (0, 0), (157351936, 157351936), (0, 0), (0, 0), (0, 0), (0, 0), (0, 0), (-68841472, -68841472), (0, 1690326180)]
def sB1 : List (Int × Int) := [(4294967296, 4294967296), (0, 0), (-939524096, -939524096), (0, 0), (0, 0), (-102760448, -102760448), (0, 0), (0, 0), (0, 0), (-22478848, -22478848), (0, 0), (0, 0), (0, 0), (0, 0), (-6146560, -6146560), (0, 0), (0, 0), (0, 0), (0, 0), (0, 0), (-1882384, -1882384), (-14624252, 0)]
theorem ser1 : Ser (-7) sA1 sB1 (2966851584, 4657177764) (4264849152, 6694693036) (5135321364, 5149945616) (6140099258, 6175120326) where
  hA := by decide +kernel
  hB := (xSqrt_fast _).trans (by decide +kernel)
  lA := by decide +kernel
  lB := by decide +kernel
  rA := by decide +kernel
  rB := by decide +kernel
  n := by decide +kernel
  hE := by decide +kernel
  hW := by decide +kernel
  w0 := by decide +kernel
  w1 := by decide +kernel
  hL := by decide +kernel
  hS := by decide +kernel
  s0 := by decide +kernel
  s1 := by decide +kernel
end Go.Proofs.Ythhkcfpljgdnhaa
