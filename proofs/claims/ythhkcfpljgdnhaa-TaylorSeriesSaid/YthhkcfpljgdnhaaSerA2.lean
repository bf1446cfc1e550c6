/- Plain: what TaylorSeries computes, t from -4 to -2. Printed by wip/genSer.py. -/
import Derived.Test.YthhkcfpljgdnhaaSerA
namespace Go.Proofs.Ythhkcfpljgdnhaa
open Mnc
def sA4 : List (Int × Int) := [(4294967296, 4294967296), (0, 0), (-1073741824, -1073741824), (0, 0), (0, 0), (268435456, 268435456), (0, 0), (0, 0), (0, 0), (-67108864, -67108864), (0, 0), (0, 0), (0, 0), (0, 0), (16777216, 16777216), (0, 0), (0, 0), (0, 0), (0, 0), (0, 0), (-4194304, -4194304), (0, 7855451)]
def sB4 : List (Int × Int) := [(4294967296, 4294967296), (0, 0), (-536870912, -536870912), (0, 0), (0, 0), (-33554432, -33554432), (0, 0), (0, 0), (0, 0), (-4194304, -4194304), (0, 0), (0, 0), (0, 0), (0, 0), (-655360, -655360), (0, 0), (0, 0), (0, 0), (0, 0), (0, 0), (-114688, -114688), (-104637, 0)]
theorem ser4 : Ser (-4) sA4 sB4 (3435134976, 3442990427) (4293918720, 4303738034) (4801832771, 4801937408) (5368515374, 5368749349) where
  hA := by decide +kernel
  hB := (xSqrt_fast _).trans (by decide +kernel)
  lA := by decide +kernel
  lB := by decide +kernel
  rA := by decide +kernel
  rB := by decide +kernel
  n := by decide +kernel
  hE := by decide +kernel
  hW := by decide +kernel
  w0 := by decide +kernel
  w1 := by decide +kernel
  hL := by decide +kernel
  hS := by decide +kernel
  s0 := by decide +kernel
  s1 := by decide +kernel
def sA5 : List (Int × Int) := [(4294967296, 4294967296), (0, 0), (-805306368, -805306368), (0, 0), (0, 0), (150994944, 150994944), (0, 0), (0, 0), (0, 0), (-28311552, -28311552), (0, 0), (0, 0), (0, 0), (0, 0), (5308416, 5308416), (0, 0), (0, 0), (0, 0), (0, 0), (0, 0), (-995328, -995328), (0, 798370)]
def sB5 : List (Int × Int) := [(4294967296, 4294967296), (0, 0), (-402653184, -402653184), (0, 0), (0, 0), (-18874368, -18874368), (0, 0), (0, 0), (0, 0), (-1769472, -1769472), (0, 0), (0, 0), (0, 0), (0, 0), (-207360, -207360), (0, 0), (0, 0), (0, 0), (0, 0), (0, 0), (-27216, -27216), (-11992, 0)]
theorem ser5 : Ser (-3) sA5 sB5 (3616657408, 3617455778) (4294780672, 4295728737) (4680323448, 4680335440) (5100254802, 5100280939) where
  hA := by decide +kernel
  hB := (xSqrt_fast _).trans (by decide +kernel)
  lA := by decide +kernel
  lB := by decide +kernel
  rA := by decide +kernel
  rB := by decide +kernel
  n := by decide +kernel
  hE := by decide +kernel
  hW := by decide +kernel
  w0 := by decide +kernel
  w1 := by decide +kernel
  hL := by decide +kernel
  hS := by decide +kernel
  s0 := by decide +kernel
  s1 := by decide +kernel
def sA6 : List (Int × Int) := [(4294967296, 4294967296), (0, 0), (-536870912, -536870912), (0, 0), (0, 0), (67108864, 67108864), (0, 0), (0, 0), (0, 0), (-8388608, -8388608), (0, 0), (0, 0), (0, 0), (0, 0), (1048576, 1048576), (0, 0), (0, 0), (0, 0), (0, 0), (0, 0), (-131072, -131072), (0, 41722)]
def sB6 : List (Int × Int) := [(4294967296, 4294967296), (0, 0), (-268435456, -268435456), (0, 0), (0, 0), (-8388608, -8388608), (0, 0), (0, 0), (0, 0), (-524288, -524288), (0, 0), (0, 0), (0, 0), (0, 0), (-40960, -40960), (0, 0), (0, 0), (0, 0), (0, 0), (0, 0), (-3584, -3584), (-701, 0)]
theorem ser6 : Ser (-2) sA6 sB6 (3817734144, 3817775866) (4294950912, 4294997850) (4555500355, 4555501056) (4831837370, 4831838858) where
  hA := by decide +kernel
  hB := (xSqrt_fast _).trans (by decide +kernel)
  lA := by decide +kernel
  lB := by decide +kernel
  rA := by decide +kernel
  rB := by decide +kernel
  n := by decide +kernel
  hE := by decide +kernel
  hW := by decide +kernel
  w0 := by decide +kernel
  w1 := by decide +kernel
  hL := by decide +kernel
  hS := by decide +kernel
  s0 := by decide +kernel
  s1 := by decide +kernel
end Go.Proofs.Ythhkcfpljgdnhaa
