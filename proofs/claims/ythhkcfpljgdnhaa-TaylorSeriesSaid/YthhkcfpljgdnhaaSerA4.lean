/- Plain: what TaylorSeries computes, t from 3 to 4. Printed by wip/genSer.py. -/
import Derived.Test.YthhkcfpljgdnhaaSerA
namespace Go.Proofs.Ythhkcfpljgdnhaa
open Mnc
def sA11 : List (Int × Int) := [(4294967296, 4294967296), (0, 0), (805306368, 805306368), (0, 0), (0, 0), (150994944, 150994944), (0, 0), (0, 0), (0, 0), (28311552, 28311552), (0, 0), (0, 0), (0, 0), (0, 0), (5308416, 5308416), (0, 0), (0, 0), (0, 0), (0, 0), (0, 0), (995328, 995328), (0, 798370)]
def sB11 : List (Int × Int) := [(4294967296, 4294967296), (0, 0), (402653184, 402653184), (0, 0), (0, 0), (-18874368, -18874368), (0, 0), (0, 0), (0, 0), (1769472, 1769472), (0, 0), (0, 0), (0, 0), (0, 0), (-207360, -207360), (0, 0), (0, 0), (0, 0), (0, 0), (0, 0), (27216, 27216), (-11992, 0)]
theorem ser11 : Ser 3 sA11 sB11 (5285883904, 5286682274) (4294780672, 4295429348) (3871423704, 3871435696) (3489647408, 3489669028) where
  hA := by decide +kernel
  hB := (xSqrt_fast _).trans (by decide +kernel)
  lA := by decide +kernel
  lB := by decide +kernel
  rA := by decide +kernel
  rB := by decide +kernel
  n := by decide +kernel
  hE := by decide +kernel
  hW := by decide +kernel
  w0 := by decide +kernel
  w1 := by decide +kernel
  hL := by decide +kernel
  hS := by decide +kernel
  s0 := by decide +kernel
  s1 := by decide +kernel
def sA12 : List (Int × Int) := [(4294967296, 4294967296), (0, 0), (1073741824, 1073741824), (0, 0), (0, 0), (268435456, 268435456), (0, 0), (0, 0), (0, 0), (67108864, 67108864), (0, 0), (0, 0), (0, 0), (0, 0), (16777216, 16777216), (0, 0), (0, 0), (0, 0), (0, 0), (0, 0), (4194304, 4194304), (0, 7855451)]
def sB12 : List (Int × Int) := [(4294967296, 4294967296), (0, 0), (536870912, 536870912), (0, 0), (0, 0), (-33554432, -33554432), (0, 0), (0, 0), (0, 0), (4194304, 4194304), (0, 0), (0, 0), (0, 0), (0, 0), (-655360, -655360), (0, 0), (0, 0), (0, 0), (0, 0), (0, 0), (114688, 114688), (-104637, 0)]
theorem ser12 : Ser 4 sA12 sB12 (5725224960, 5733080411) (4293918720, 4299810309) (3719472963, 3719577600) (3221090678, 3221271915) where
  hA := by decide +kernel
  hB := (xSqrt_fast _).trans (by decide +kernel)
  lA := by decide +kernel
  lB := by decide +kernel
  rA := by decide +kernel
  rB := by decide +kernel
  n := by decide +kernel
  hE := by decide +kernel
  hW := by decide +kernel
  w0 := by decide +kernel
  w1 := by decide +kernel
  hL := by decide +kernel
  hS := by decide +kernel
  s0 := by decide +kernel
  s1 := by decide +kernel
end Go.Proofs.Ythhkcfpljgdnhaa
