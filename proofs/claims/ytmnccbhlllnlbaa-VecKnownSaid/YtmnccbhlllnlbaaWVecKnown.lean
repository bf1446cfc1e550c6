/- The walk of monoclelaw06.VecKnown. Printed by wip/genVK.py. -/
import Derived.Deep.DeepCutAuto
import Derived.Test.YtmnccbhlllnlbaaRegInvB
import Derived.Test.YtmnccbhlllnlbaaRootFast
import Derived.Test.YtmnccbhlllnlbaaLawVS
import Derived.Test.YtmnccbhlllnlbaaVecLaw
namespace Go.Proofs.Ytmnccbhlllnlbaa.vecKnown
open Go.RowKit Mnc
attribute [local go_sem] RunS_value RunS_skip RunS_enter evS_tmp evS_const evS_global evS_func
def VIsB (w : World) (v : Value) (a : V3) : Prop := ∃ B : Nat, v = .func (.func 45) #[] #[.pointer (some ⟨B, 0, none⟩)] ∧ w.heap[B]? = some (vobj (vl a))
theorem VIsB.on {w w' : World} {v : Value} {a : V3} (h : VIsB w v a) (k : Below w.heap.size w w') : VIsB w' v a := by
  obtain ⟨B, h1, h2⟩ := h
  exact ⟨B, h1, (k.block _ (lt_of_block h2)).trans h2⟩
def VFailsB (w : World) (v : Value) (a : Int) : Prop := ∃ B : Nat, v = .func (.func 46) #[] #[.pointer (some ⟨B, 0, none⟩)] ∧ w.heap[B]? = some (.cells #[.int .i64 a] 44 (0, 0))
theorem VFailsB.on {w w' : World} {v : Value} {a : Int} (h : VFailsB w v a) (k : Below w.heap.size w w') : VFailsB w' v a := by
  obtain ⟨B, h1, h2⟩ := h
  exact ⟨B, h1, (k.block _ (lt_of_block h2)).trans h2⟩
def VSaysB (w : World) (v : Value) (a : Int × Int) : Prop := ∃ B : Nat, v = .func (.func 48) #[] #[.pointer (some ⟨B, 0, none⟩)] ∧ w.heap[B]? = some (.cells #[.int .i64 a.1, .int .i64 a.2] 23 (0, 0))
theorem VSaysB.on {w w' : World} {v : Value} {a : Int × Int} (h : VSaysB w v a) (k : Below w.heap.size w w') : VSaysB w' v a := by
  obtain ⟨B, h1, h2⟩ := h
  exact ⟨B, h1, (k.block _ (lt_of_block h2)).trans h2⟩
def VRefusesB (w : World) (v : Value) (a : Int) : Prop := ∃ B : Nat, v = .func (.func 47) #[] #[.pointer (some ⟨B, 0, none⟩)] ∧ w.heap[B]? = some (.cells #[.int .i64 a] 44 (0, 0))
theorem VRefusesB.on {w w' : World} {v : Value} {a : Int} (h : VRefusesB w v a) (k : Below w.heap.size w w') : VRefusesB w' v a := by
  obtain ⟨B, h1, h2⟩ := h
  exact ⟨B, h1, (k.block _ (lt_of_block h2)).trans h2⟩
theorem vx6_1 (W : World) : Calls Try.prog 19 #[.agg #[.int .i64 (-4503599627370496), .int .i64 4503599627370496, .int .i64 (-4503599627370496), .int .i64 4503599627370496, .int .i64 (-4503599627370496), .int .i64 4503599627370496]] W fun e w' => e = .returned (.int .i64 0) ∧ Below W.heap.size W w' := vCheckK (((-4503599627370496), 4503599627370496), ((-4503599627370496), 4503599627370496), ((-4503599627370496), 4503599627370496)) 0 (by decide +kernel) W
theorem vx6_5 (W : World) : Calls Try.prog 19 #[.agg #[.int .i64 0, .int .i64 0, .int .i64 0, .int .i64 0, .int .i64 1, .int .i64 0]] W fun e w' => e = .returned (.int .i64 20) ∧ Below W.heap.size W w' := vCheckK ((0, 0), (0, 0), (1, 0)) 20 (by decide +kernel) W
theorem vx6_11 (W : World) : Calls Try.prog 19 #[.agg #[.int .i64 0, .int .i64 4503599627370497, .int .i64 0, .int .i64 0, .int .i64 0, .int .i64 0]] W fun e w' => e = .returned (.int .i64 20) ∧ Below W.heap.size W w' := vCheckK ((0, 4503599627370497), (0, 0), (0, 0)) 20 (by decide +kernel) W
theorem vx6_18 (W : World) : Calls Try.prog 18 #[.agg #[.int .i64 (-4503599627370496), .int .i64 4503599627370496, .int .i64 (-4503599627370496), .int .i64 4503599627370496, .int .i64 (-4503599627370496), .int .i64 4503599627370496]] W fun e w' => e = .returned (.tuple #[.agg #[.int .i64 (-4503599627370496), .int .i64 4503599627370496, .int .i64 (-4503599627370496), .int .i64 4503599627370496, .int .i64 (-4503599627370496), .int .i64 4503599627370496], .int .i64 0]) ∧ Below W.heap.size W w' := vNegK (((-4503599627370496), 4503599627370496), ((-4503599627370496), 4503599627370496), ((-4503599627370496), 4503599627370496)) (((-4503599627370496), 4503599627370496), ((-4503599627370496), 4503599627370496), ((-4503599627370496), 4503599627370496)) 0 (by decide +kernel) W
theorem vx6_26 (W : World) : Calls Try.prog 22 #[.int .i64 0, .int .i64 0, .int .i64 1] W fun e w' => e = .returned (.agg #[.int .i64 0, .int .i64 0, .int .i64 0, .int .i64 0, .int .i64 4294967296, .int .i64 4294967296]) ∧ Below W.heap.size W w' := law6_of 0 0 1 (by decide) (by decide) (by decide) W
theorem vx6_27 (W : World) : Calls Try.prog 10 #[.agg #[.int .i64 (-4503599627370496), .int .i64 4503599627370496, .int .i64 (-4503599627370496), .int .i64 4503599627370496, .int .i64 (-4503599627370496), .int .i64 4503599627370496], .agg #[.int .i64 0, .int .i64 0, .int .i64 0, .int .i64 0, .int .i64 4294967296, .int .i64 4294967296]] W fun e w' => e = .returned (.tuple #[.agg #[.int .i64 0, .int .i64 0, .int .i64 0, .int .i64 0, .int .i64 0, .int .i64 0], .int .i64 6]) ∧ Below W.heap.size W w' := vAddK (((-4503599627370496), 4503599627370496), ((-4503599627370496), 4503599627370496), ((-4503599627370496), 4503599627370496)) ((0, 0), (0, 0), (4294967296, 4294967296)) ((0, 0), (0, 0), (0, 0)) 6 (by decide +kernel) W
theorem vx6_36 (W : World) : Calls Try.prog 10 #[.agg #[.int .i64 (-4503599627370496), .int .i64 4503599627370496, .int .i64 (-4503599627370496), .int .i64 4503599627370496, .int .i64 (-4503599627370496), .int .i64 4503599627370496], .agg #[.int .i64 0, .int .i64 0, .int .i64 0, .int .i64 0, .int .i64 1, .int .i64 0]] W fun e w' => e = .returned (.tuple #[.agg #[.int .i64 0, .int .i64 0, .int .i64 0, .int .i64 0, .int .i64 0, .int .i64 0], .int .i64 20]) ∧ Below W.heap.size W w' := vAddK (((-4503599627370496), 4503599627370496), ((-4503599627370496), 4503599627370496), ((-4503599627370496), 4503599627370496)) ((0, 0), (0, 0), (1, 0)) ((0, 0), (0, 0), (0, 0)) 20 (by decide +kernel) W
theorem vx6_44 (W : World) : Calls Try.prog 18 #[.agg #[.int .i64 0, .int .i64 0, .int .i64 0, .int .i64 0, .int .i64 1, .int .i64 0]] W fun e w' => e = .returned (.tuple #[.agg #[.int .i64 0, .int .i64 0, .int .i64 0, .int .i64 0, .int .i64 0, .int .i64 0], .int .i64 20]) ∧ Below W.heap.size W w' := vNegK ((0, 0), (0, 0), (1, 0)) ((0, 0), (0, 0), (0, 0)) 20 (by decide +kernel) W
theorem vx7_5 (W : World) : Calls Try.prog 23 #[.agg #[.int .i64 (-4503599627370496), .int .i64 4503599627370496, .int .i64 (-4503599627370496), .int .i64 4503599627370496, .int .i64 (-4503599627370496), .int .i64 4503599627370496], .agg #[.int .i64 1, .int .i64 0]] W fun e w' => e = .returned (.tuple #[.agg #[.int .i64 0, .int .i64 0, .int .i64 0, .int .i64 0, .int .i64 0, .int .i64 0], .int .i64 20]) ∧ Below W.heap.size W w' := vScaleK (((-4503599627370496), 4503599627370496), ((-4503599627370496), 4503599627370496), ((-4503599627370496), 4503599627370496)) (1, 0) ((0, 0), (0, 0), (0, 0)) 20 (by decide +kernel) W
theorem vx7_15 (W : World) : Calls Try.prog 23 #[.agg #[.int .i64 (-4503599627370496), .int .i64 4503599627370496, .int .i64 (-4503599627370496), .int .i64 4503599627370496, .int .i64 (-4503599627370496), .int .i64 4503599627370496], .agg #[.int .i64 0, .int .i64 0]] W fun e w' => e = .returned (.tuple #[.agg #[.int .i64 0, .int .i64 0, .int .i64 0, .int .i64 0, .int .i64 0, .int .i64 0], .int .i64 0]) ∧ Below W.heap.size W w' := vScaleK (((-4503599627370496), 4503599627370496), ((-4503599627370496), 4503599627370496), ((-4503599627370496), 4503599627370496)) (0, 0) ((0, 0), (0, 0), (0, 0)) 0 (by decide +kernel) W
theorem vx7_23 (W : World) : Calls Try.prog 24 #[.int .i64 2] W fun e w' => e = .returned (.agg #[.int .i64 8589934592, .int .i64 8589934592]) ∧ Below W.heap.size W w' := law6_point 2 (by decide) W
theorem vx7_24 (W : World) : Calls Try.prog 23 #[.agg #[.int .i64 (-4503599627370496), .int .i64 4503599627370496, .int .i64 (-4503599627370496), .int .i64 4503599627370496, .int .i64 (-4503599627370496), .int .i64 4503599627370496], .agg #[.int .i64 8589934592, .int .i64 8589934592]] W fun e w' => e = .returned (.tuple #[.agg #[.int .i64 0, .int .i64 0, .int .i64 0, .int .i64 0, .int .i64 0, .int .i64 0], .int .i64 6]) ∧ Below W.heap.size W w' := vScaleK (((-4503599627370496), 4503599627370496), ((-4503599627370496), 4503599627370496), ((-4503599627370496), 4503599627370496)) (8589934592, 8589934592) ((0, 0), (0, 0), (0, 0)) 6 (by decide +kernel) W
theorem vx7_31 (W : World) : Calls Try.prog 22 #[.int .i64 1024, .int .i64 1, .int .i64 0] W fun e w' => e = .returned (.agg #[.int .i64 4398046511104, .int .i64 4398046511104, .int .i64 4294967296, .int .i64 4294967296, .int .i64 0, .int .i64 0]) ∧ Below W.heap.size W w' := law6_of 1024 1 0 (by decide) (by decide) (by decide) W
theorem vx7_32 (W : World) : Calls Try.prog 17 #[.agg #[.int .i64 4398046511104, .int .i64 4398046511104, .int .i64 4294967296, .int .i64 4294967296, .int .i64 0, .int .i64 0]] W fun e w' => e = .returned (.tuple #[.agg #[.int .i64 0, .int .i64 0], .int .i64 6]) ∧ Below W.heap.size W w' := vNormK ((4398046511104, 4398046511104), (4294967296, 4294967296), (0, 0)) (0, 0) 6 (by unfold vNorm normE normS; rw [sSqrt_fast]; decide +kernel) W
theorem vx7_38 (W : World) : Calls Try.prog 24 #[.int .i64 1024] W fun e w' => e = .returned (.agg #[.int .i64 4398046511104, .int .i64 4398046511104]) ∧ Below W.heap.size W w' := law6_point 1024 (by decide) W
theorem vx7_40 (W : World) : Calls Try.prog 22 #[.int .i64 0, .int .i64 (-1024), .int .i64 0] W fun e w' => e = .returned (.agg #[.int .i64 0, .int .i64 0, .int .i64 (-4398046511104), .int .i64 (-4398046511104), .int .i64 0, .int .i64 0]) ∧ Below W.heap.size W w' := law6_of 0 (-1024) 0 (by decide) (by decide) (by decide) W
theorem vx7_41 (W : World) : Calls Try.prog 17 #[.agg #[.int .i64 0, .int .i64 0, .int .i64 (-4398046511104), .int .i64 (-4398046511104), .int .i64 0, .int .i64 0]] W fun e w' => e = .returned (.tuple #[.agg #[.int .i64 4398046511104, .int .i64 4398046511104], .int .i64 0]) ∧ Below W.heap.size W w' := vNormK ((0, 0), ((-4398046511104), (-4398046511104)), (0, 0)) (4398046511104, 4398046511104) 0 (by unfold vNorm normE normS; rw [sSqrt_fast]; decide +kernel) W
theorem vx7_49 (W : World) : Calls Try.prog 17 #[.agg #[.int .i64 0, .int .i64 0, .int .i64 0, .int .i64 0, .int .i64 1, .int .i64 0]] W fun e w' => e = .returned (.tuple #[.agg #[.int .i64 0, .int .i64 0], .int .i64 20]) ∧ Below W.heap.size W w' := vNormK ((0, 0), (0, 0), (1, 0)) (0, 0) 20 (by unfold vNorm normE normS; rw [sSqrt_fast]; decide +kernel) W
theorem vx7_58 (W : World) : Calls Try.prog 15 #[.agg #[.int .i64 0, .int .i64 0, .int .i64 0, .int .i64 0, .int .i64 1, .int .i64 0], .agg #[.int .i64 (-4503599627370496), .int .i64 4503599627370496, .int .i64 (-4503599627370496), .int .i64 4503599627370496, .int .i64 (-4503599627370496), .int .i64 4503599627370496]] W fun e w' => e = .returned (.tuple #[.agg #[.int .i64 0, .int .i64 0], .int .i64 20]) ∧ Below W.heap.size W w' := vDotK ((0, 0), (0, 0), (1, 0)) (((-4503599627370496), 4503599627370496), ((-4503599627370496), 4503599627370496), ((-4503599627370496), 4503599627370496)) (0, 0) 20 (by decide +kernel) W
theorem vx8_3 (W : World) : Calls Try.prog 22 #[.int .i64 0, .int .i64 0, .int .i64 2000] W fun e w' => e = .returned (.agg #[.int .i64 0, .int .i64 0, .int .i64 0, .int .i64 0, .int .i64 8589934592000, .int .i64 8589934592000]) ∧ Below W.heap.size W w' := law6_of 0 0 2000 (by decide) (by decide) (by decide) W
theorem vx8_4 (W : World) : Calls Try.prog 14 #[.agg #[.int .i64 0, .int .i64 0, .int .i64 0, .int .i64 0, .int .i64 8589934592000, .int .i64 8589934592000]] W fun e w' => e = .returned (.tuple #[.agg #[.int .i64 0, .int .i64 0, .int .i64 0, .int .i64 0, .int .i64 0, .int .i64 0], .int .i64 6]) ∧ Below W.heap.size W w' := vUnitK ((0, 0), (0, 0), (8589934592000, 8589934592000)) ((0, 0), (0, 0), (0, 0)) 6 (by unfold vUnit normE normS; rw [sSqrt_fast]; decide +kernel) W
theorem vx8_13 (W : World) : Calls Try.prog 14 #[.agg #[.int .i64 (-1), .int .i64 1, .int .i64 0, .int .i64 0, .int .i64 0, .int .i64 0]] W fun e w' => e = .returned (.tuple #[.agg #[.int .i64 0, .int .i64 0, .int .i64 0, .int .i64 0, .int .i64 0, .int .i64 0], .int .i64 7]) ∧ Below W.heap.size W w' := vUnitK (((-1), 1), (0, 0), (0, 0)) ((0, 0), (0, 0), (0, 0)) 7 (by unfold vUnit normE normS; rw [sSqrt_fast]; decide +kernel) W
theorem vx8_21 (W : World) : Calls Try.prog 14 #[.agg #[.int .i64 0, .int .i64 0, .int .i64 0, .int .i64 0, .int .i64 1, .int .i64 0]] W fun e w' => e = .returned (.tuple #[.agg #[.int .i64 0, .int .i64 0, .int .i64 0, .int .i64 0, .int .i64 0, .int .i64 0], .int .i64 20]) ∧ Below W.heap.size W w' := vUnitK ((0, 0), (0, 0), (1, 0)) ((0, 0), (0, 0), (0, 0)) 20 (by unfold vUnit normE normS; rw [sSqrt_fast]; decide +kernel) W
theorem vx8_27 (W : World) : Calls Try.prog 22 #[.int .i64 1, .int .i64 0, .int .i64 0] W fun e w' => e = .returned (.agg #[.int .i64 4294967296, .int .i64 4294967296, .int .i64 0, .int .i64 0, .int .i64 0, .int .i64 0]) ∧ Below W.heap.size W w' := law6_of 1 0 0 (by decide) (by decide) (by decide) W
theorem vx8_29 (W : World) : Calls Try.prog 22 #[.int .i64 5, .int .i64 0, .int .i64 0] W fun e w' => e = .returned (.agg #[.int .i64 21474836480, .int .i64 21474836480, .int .i64 0, .int .i64 0, .int .i64 0, .int .i64 0]) ∧ Below W.heap.size W w' := law6_of 5 0 0 (by decide) (by decide) (by decide) W
theorem vx8_30 (W : World) : Calls Try.prog 14 #[.agg #[.int .i64 21474836480, .int .i64 21474836480, .int .i64 0, .int .i64 0, .int .i64 0, .int .i64 0]] W fun e w' => e = .returned (.tuple #[.agg #[.int .i64 4294967296, .int .i64 4294967296, .int .i64 0, .int .i64 0, .int .i64 0, .int .i64 0], .int .i64 0]) ∧ Below W.heap.size W w' := vUnitK ((21474836480, 21474836480), (0, 0), (0, 0)) ((4294967296, 4294967296), (0, 0), (0, 0)) 0 (by unfold vUnit normE normS; rw [sSqrt_fast]; decide +kernel) W
theorem vx8_41 (W : World) : Calls Try.prog 22 #[.int .i64 1, .int .i64 1, .int .i64 0] W fun e w' => e = .returned (.agg #[.int .i64 4294967296, .int .i64 4294967296, .int .i64 4294967296, .int .i64 4294967296, .int .i64 0, .int .i64 0]) ∧ Below W.heap.size W w' := law6_of 1 1 0 (by decide) (by decide) (by decide) W
theorem vx8_42 (W : World) : Calls Try.prog 15 #[.agg #[.int .i64 (-1), .int .i64 1, .int .i64 (-1), .int .i64 1, .int .i64 0, .int .i64 0], .agg #[.int .i64 4294967296, .int .i64 4294967296, .int .i64 4294967296, .int .i64 4294967296, .int .i64 0, .int .i64 0]] W fun e w' => e = .returned (.tuple #[.agg #[.int .i64 (-2), .int .i64 2], .int .i64 0]) ∧ Below W.heap.size W w' := vDotK (((-1), 1), ((-1), 1), (0, 0)) ((4294967296, 4294967296), (4294967296, 4294967296), (0, 0)) ((-2), 2) 0 (by decide +kernel) W
theorem k9_0 : vCross ((4294967296, 4294967296), (8589934592, 8589934592), (12884901888, 12884901888)) ((17179869184, 17179869184), (21474836480, 21474836480), (25769803776, 25769803776)) = (((-12884901888, -12884901888), (25769803776, 25769803776), (-12884901888, -12884901888)), 0) := by decide +kernel
theorem k9_1 : vCross ((-4294967296, 4294967296), (0, 0), (0, 0)) ((0, 0), (8589934592, 8589934592), (0, 0)) = (((0, 0), (0, 0), (-8589934592, 8589934592)), 0) := by decide +kernel
structure Vx6 (W : World) (M B O : Nat) (L : Nat → Bool) (s : Nat → Value) (w : World) : Prop where
  bel : Below W.heap.size W w
  e0 : L 0 = true → s 17 = .agg #[.int .i64 (-4503599627370496), .int .i64 4503599627370496, .int .i64 (-4503599627370496), .int .i64 4503599627370496, .int .i64 (-4503599627370496), .int .i64 4503599627370496]
  e1 : L 1 = true → s 18 = .int .i64 0
  e2 : L 2 = true → s 19 = .bool true
  e3 : L 3 = true → s 20 = .bool true
  e4 : L 4 = true → s 21 = .agg #[.int .i64 0, .int .i64 0, .int .i64 0, .int .i64 0, .int .i64 1, .int .i64 0]
  e5 : L 5 = true → s 22 = .int .i64 20
  e6 : L 6 = true → s 23 = .bool true
  e7 : L 7 = true → s 24 = .bool true
  e8 : L 8 = true → s 25 = .bool true
  e9 : L 9 = true → s 26 = .agg #[.int .i64 0, .int .i64 4503599627370497]
  e10 : L 10 = true → s 27 = .agg #[.int .i64 0, .int .i64 4503599627370497, .int .i64 0, .int .i64 0, .int .i64 0, .int .i64 0]
  e11 : L 11 = true → s 28 = .int .i64 20
  e12 : L 12 = true → s 29 = .bool true
  e13 : L 13 = true → s 30 = .bool true
  e14 : L 14 = true → s 31 = .bool true
  e15 : L 15 = true → s 32 = .agg #[.int .i64 (-4503599627370496), .int .i64 4503599627370496, .int .i64 (-4503599627370496), .int .i64 4503599627370496, .int .i64 (-4503599627370496), .int .i64 4503599627370496]
  e16 : L 16 = true → VIsB w (s 33) (((-4503599627370496), 4503599627370496), ((-4503599627370496), 4503599627370496), ((-4503599627370496), 4503599627370496))
  e17 : L 17 = true → s 34 = .agg #[.int .i64 (-4503599627370496), .int .i64 4503599627370496, .int .i64 (-4503599627370496), .int .i64 4503599627370496, .int .i64 (-4503599627370496), .int .i64 4503599627370496]
  e18 : L 18 = true → s 35 = .tuple #[.agg #[.int .i64 (-4503599627370496), .int .i64 4503599627370496, .int .i64 (-4503599627370496), .int .i64 4503599627370496, .int .i64 (-4503599627370496), .int .i64 4503599627370496], .int .i64 0]
  e19 : L 19 = true → s 36 = .agg #[.int .i64 (-4503599627370496), .int .i64 4503599627370496, .int .i64 (-4503599627370496), .int .i64 4503599627370496, .int .i64 (-4503599627370496), .int .i64 4503599627370496]
  e20 : L 20 = true → s 37 = .int .i64 0
  e21 : L 21 = true → s 38 = .bool true
  e22 : L 22 = true → s 39 = .bool true
  e23 : L 23 = true → s 40 = .bool true
  e24 : L 24 = true → VFailsB w (s 41) 6
  e25 : L 25 = true → s 42 = .agg #[.int .i64 (-4503599627370496), .int .i64 4503599627370496, .int .i64 (-4503599627370496), .int .i64 4503599627370496, .int .i64 (-4503599627370496), .int .i64 4503599627370496]
  e26 : L 26 = true → s 43 = .agg #[.int .i64 0, .int .i64 0, .int .i64 0, .int .i64 0, .int .i64 4294967296, .int .i64 4294967296]
  e27 : L 27 = true → s 44 = .tuple #[.agg #[.int .i64 0, .int .i64 0, .int .i64 0, .int .i64 0, .int .i64 0, .int .i64 0], .int .i64 6]
  e28 : L 28 = true → s 45 = .agg #[.int .i64 0, .int .i64 0, .int .i64 0, .int .i64 0, .int .i64 0, .int .i64 0]
  e29 : L 29 = true → s 46 = .int .i64 6
  e30 : L 30 = true → s 47 = .bool true
  e31 : L 31 = true → s 48 = .bool true
  e32 : L 32 = true → s 49 = .bool true
  e33 : L 33 = true → VFailsB w (s 50) 20
  e34 : L 34 = true → s 51 = .agg #[.int .i64 (-4503599627370496), .int .i64 4503599627370496, .int .i64 (-4503599627370496), .int .i64 4503599627370496, .int .i64 (-4503599627370496), .int .i64 4503599627370496]
  e35 : L 35 = true → s 52 = .agg #[.int .i64 0, .int .i64 0, .int .i64 0, .int .i64 0, .int .i64 1, .int .i64 0]
  e36 : L 36 = true → s 53 = .tuple #[.agg #[.int .i64 0, .int .i64 0, .int .i64 0, .int .i64 0, .int .i64 0, .int .i64 0], .int .i64 20]
  e37 : L 37 = true → s 54 = .agg #[.int .i64 0, .int .i64 0, .int .i64 0, .int .i64 0, .int .i64 0, .int .i64 0]
  e38 : L 38 = true → s 55 = .int .i64 20
  e39 : L 39 = true → s 56 = .bool true
  e40 : L 40 = true → s 57 = .bool true
  e41 : L 41 = true → s 58 = .bool true
  e42 : L 42 = true → VFailsB w (s 59) 20
  e43 : L 43 = true → s 60 = .agg #[.int .i64 0, .int .i64 0, .int .i64 0, .int .i64 0, .int .i64 1, .int .i64 0]
  e44 : L 44 = true → s 61 = .tuple #[.agg #[.int .i64 0, .int .i64 0, .int .i64 0, .int .i64 0, .int .i64 0, .int .i64 0], .int .i64 20]
  e45 : L 45 = true → s 62 = .agg #[.int .i64 0, .int .i64 0, .int .i64 0, .int .i64 0, .int .i64 0, .int .i64 0]
  e46 : L 46 = true → s 63 = .int .i64 20
  e47 : L 47 = true → s 64 = .bool true
  e48 : L 48 = true → s 65 = .bool true
  e49 : L 49 = true → s 4 = .bool true
structure Vx7 (W : World) (M B O : Nat) (L : Nat → Bool) (s : Nat → Value) (w : World) : Prop where
  bel : Below W.heap.size W w
  o4 : L 63 = false → s 4 = .bool true
  dl : L 63 = true → L 0 = true
  e0 : L 0 = true → s 66 = .bool true
  e1 : L 1 = true → s 67 = .bool true
  e2 : L 2 = true → VFailsB w (s 68) 20
  e3 : L 3 = true → s 69 = .agg #[.int .i64 (-4503599627370496), .int .i64 4503599627370496, .int .i64 (-4503599627370496), .int .i64 4503599627370496, .int .i64 (-4503599627370496), .int .i64 4503599627370496]
  e4 : L 4 = true → s 70 = .agg #[.int .i64 1, .int .i64 0]
  e5 : L 5 = true → s 71 = .tuple #[.agg #[.int .i64 0, .int .i64 0, .int .i64 0, .int .i64 0, .int .i64 0, .int .i64 0], .int .i64 20]
  e6 : L 6 = true → s 72 = .agg #[.int .i64 0, .int .i64 0, .int .i64 0, .int .i64 0, .int .i64 0, .int .i64 0]
  e7 : L 7 = true → s 73 = .int .i64 20
  e8 : L 8 = true → s 74 = .bool true
  e9 : L 9 = true → s 75 = .bool true
  e10 : L 10 = true → s 76 = .bool true
  e11 : L 11 = true → s 77 = .agg #[.int .i64 0, .int .i64 0, .int .i64 0, .int .i64 0, .int .i64 0, .int .i64 0]
  e12 : L 12 = true → VIsB w (s 78) ((0, 0), (0, 0), (0, 0))
  e13 : L 13 = true → s 79 = .agg #[.int .i64 (-4503599627370496), .int .i64 4503599627370496, .int .i64 (-4503599627370496), .int .i64 4503599627370496, .int .i64 (-4503599627370496), .int .i64 4503599627370496]
  e14 : L 14 = true → s 80 = .agg #[.int .i64 0, .int .i64 0]
  e15 : L 15 = true → s 81 = .tuple #[.agg #[.int .i64 0, .int .i64 0, .int .i64 0, .int .i64 0, .int .i64 0, .int .i64 0], .int .i64 0]
  e16 : L 16 = true → s 82 = .agg #[.int .i64 0, .int .i64 0, .int .i64 0, .int .i64 0, .int .i64 0, .int .i64 0]
  e17 : L 17 = true → s 83 = .int .i64 0
  e18 : L 18 = true → s 84 = .bool true
  e19 : L 19 = true → s 85 = .bool true
  e20 : L 20 = true → s 86 = .bool true
  e21 : L 21 = true → VFailsB w (s 87) 6
  e22 : L 22 = true → s 88 = .agg #[.int .i64 (-4503599627370496), .int .i64 4503599627370496, .int .i64 (-4503599627370496), .int .i64 4503599627370496, .int .i64 (-4503599627370496), .int .i64 4503599627370496]
  e23 : L 23 = true → s 89 = .agg #[.int .i64 8589934592, .int .i64 8589934592]
  e24 : L 24 = true → s 90 = .tuple #[.agg #[.int .i64 0, .int .i64 0, .int .i64 0, .int .i64 0, .int .i64 0, .int .i64 0], .int .i64 6]
  e25 : L 25 = true → s 91 = .agg #[.int .i64 0, .int .i64 0, .int .i64 0, .int .i64 0, .int .i64 0, .int .i64 0]
  e26 : L 26 = true → s 92 = .int .i64 6
  e27 : L 27 = true → s 93 = .bool true
  e28 : L 28 = true → s 94 = .bool true
  e29 : L 29 = true → s 95 = .bool true
  e30 : L 30 = true → VRefusesB w (s 96) 6
  e31 : L 31 = true → s 97 = .agg #[.int .i64 4398046511104, .int .i64 4398046511104, .int .i64 4294967296, .int .i64 4294967296, .int .i64 0, .int .i64 0]
  e32 : L 32 = true → s 98 = .tuple #[.agg #[.int .i64 0, .int .i64 0], .int .i64 6]
  e33 : L 33 = true → s 99 = .agg #[.int .i64 0, .int .i64 0]
  e34 : L 34 = true → s 100 = .int .i64 6
  e35 : L 35 = true → s 101 = .bool true
  e36 : L 36 = true → s 102 = .bool true
  e37 : L 37 = true → s 103 = .bool true
  e38 : L 38 = true → s 104 = .agg #[.int .i64 4398046511104, .int .i64 4398046511104]
  e39 : L 39 = true → VSaysB w (s 105) (4398046511104, 4398046511104)
  e40 : L 40 = true → s 106 = .agg #[.int .i64 0, .int .i64 0, .int .i64 (-4398046511104), .int .i64 (-4398046511104), .int .i64 0, .int .i64 0]
  e41 : L 41 = true → s 107 = .tuple #[.agg #[.int .i64 4398046511104, .int .i64 4398046511104], .int .i64 0]
  e42 : L 42 = true → s 108 = .agg #[.int .i64 4398046511104, .int .i64 4398046511104]
  e43 : L 43 = true → s 109 = .int .i64 0
  e44 : L 44 = true → s 110 = .bool true
  e45 : L 45 = true → s 111 = .bool true
  e46 : L 46 = true → s 112 = .bool true
  e47 : L 47 = true → VRefusesB w (s 113) 20
  e48 : L 48 = true → s 114 = .agg #[.int .i64 0, .int .i64 0, .int .i64 0, .int .i64 0, .int .i64 1, .int .i64 0]
  e49 : L 49 = true → s 115 = .tuple #[.agg #[.int .i64 0, .int .i64 0], .int .i64 20]
  e50 : L 50 = true → s 116 = .agg #[.int .i64 0, .int .i64 0]
  e51 : L 51 = true → s 117 = .int .i64 20
  e52 : L 52 = true → s 118 = .bool true
  e53 : L 53 = true → s 119 = .bool true
  e54 : L 54 = true → s 120 = .bool true
  e55 : L 55 = true → VRefusesB w (s 121) 20
  e56 : L 56 = true → s 122 = .agg #[.int .i64 0, .int .i64 0, .int .i64 0, .int .i64 0, .int .i64 1, .int .i64 0]
  e57 : L 57 = true → s 123 = .agg #[.int .i64 (-4503599627370496), .int .i64 4503599627370496, .int .i64 (-4503599627370496), .int .i64 4503599627370496, .int .i64 (-4503599627370496), .int .i64 4503599627370496]
  e58 : L 58 = true → s 124 = .tuple #[.agg #[.int .i64 0, .int .i64 0], .int .i64 20]
  e59 : L 59 = true → s 125 = .agg #[.int .i64 0, .int .i64 0]
  e60 : L 60 = true → s 126 = .int .i64 20
  e61 : L 61 = true → s 127 = .bool true
  e62 : L 62 = true → s 128 = .bool true
  e63 : L 63 = true → s 4 = .bool true
structure Vx8 (W : World) (M B O : Nat) (L : Nat → Bool) (s : Nat → Value) (w : World) : Prop where
  bel : Below W.heap.size W w
  o4 : L 47 = false → s 4 = .bool true
  dl : L 47 = true → L 0 = true
  e0 : L 0 = true → s 129 = .bool true
  e1 : L 1 = true → s 130 = .bool true
  e2 : L 2 = true → VFailsB w (s 131) 6
  e3 : L 3 = true → s 132 = .agg #[.int .i64 0, .int .i64 0, .int .i64 0, .int .i64 0, .int .i64 8589934592000, .int .i64 8589934592000]
  e4 : L 4 = true → s 133 = .tuple #[.agg #[.int .i64 0, .int .i64 0, .int .i64 0, .int .i64 0, .int .i64 0, .int .i64 0], .int .i64 6]
  e5 : L 5 = true → s 134 = .agg #[.int .i64 0, .int .i64 0, .int .i64 0, .int .i64 0, .int .i64 0, .int .i64 0]
  e6 : L 6 = true → s 135 = .int .i64 6
  e7 : L 7 = true → s 136 = .bool true
  e8 : L 8 = true → s 137 = .bool true
  e9 : L 9 = true → s 138 = .bool true
  e10 : L 10 = true → VFailsB w (s 139) 7
  e11 : L 11 = true → s 140 = .agg #[.int .i64 (-1), .int .i64 1]
  e12 : L 12 = true → s 141 = .agg #[.int .i64 (-1), .int .i64 1, .int .i64 0, .int .i64 0, .int .i64 0, .int .i64 0]
  e13 : L 13 = true → s 142 = .tuple #[.agg #[.int .i64 0, .int .i64 0, .int .i64 0, .int .i64 0, .int .i64 0, .int .i64 0], .int .i64 7]
  e14 : L 14 = true → s 143 = .agg #[.int .i64 0, .int .i64 0, .int .i64 0, .int .i64 0, .int .i64 0, .int .i64 0]
  e15 : L 15 = true → s 144 = .int .i64 7
  e16 : L 16 = true → s 145 = .bool true
  e17 : L 17 = true → s 146 = .bool true
  e18 : L 18 = true → s 147 = .bool true
  e19 : L 19 = true → VFailsB w (s 148) 20
  e20 : L 20 = true → s 149 = .agg #[.int .i64 0, .int .i64 0, .int .i64 0, .int .i64 0, .int .i64 1, .int .i64 0]
  e21 : L 21 = true → s 150 = .tuple #[.agg #[.int .i64 0, .int .i64 0, .int .i64 0, .int .i64 0, .int .i64 0, .int .i64 0], .int .i64 20]
  e22 : L 22 = true → s 151 = .agg #[.int .i64 0, .int .i64 0, .int .i64 0, .int .i64 0, .int .i64 0, .int .i64 0]
  e23 : L 23 = true → s 152 = .int .i64 20
  e24 : L 24 = true → s 153 = .bool true
  e25 : L 25 = true → s 154 = .bool true
  e26 : L 26 = true → s 155 = .bool true
  e27 : L 27 = true → s 156 = .agg #[.int .i64 4294967296, .int .i64 4294967296, .int .i64 0, .int .i64 0, .int .i64 0, .int .i64 0]
  e28 : L 28 = true → VIsB w (s 157) ((4294967296, 4294967296), (0, 0), (0, 0))
  e29 : L 29 = true → s 158 = .agg #[.int .i64 21474836480, .int .i64 21474836480, .int .i64 0, .int .i64 0, .int .i64 0, .int .i64 0]
  e30 : L 30 = true → s 159 = .tuple #[.agg #[.int .i64 4294967296, .int .i64 4294967296, .int .i64 0, .int .i64 0, .int .i64 0, .int .i64 0], .int .i64 0]
  e31 : L 31 = true → s 160 = .agg #[.int .i64 4294967296, .int .i64 4294967296, .int .i64 0, .int .i64 0, .int .i64 0, .int .i64 0]
  e32 : L 32 = true → s 161 = .int .i64 0
  e33 : L 33 = true → s 162 = .bool true
  e34 : L 34 = true → s 163 = .bool true
  e35 : L 35 = true → s 164 = .bool true
  e36 : L 36 = true → s 165 = .agg #[.int .i64 (-2), .int .i64 2]
  e37 : L 37 = true → VSaysB w (s 166) ((-2), 2)
  e38 : L 38 = true → s 167 = .agg #[.int .i64 (-1), .int .i64 1]
  e39 : L 39 = true → s 168 = .agg #[.int .i64 (-1), .int .i64 1]
  e40 : L 40 = true → s 169 = .agg #[.int .i64 (-1), .int .i64 1, .int .i64 (-1), .int .i64 1, .int .i64 0, .int .i64 0]
  e41 : L 41 = true → s 170 = .agg #[.int .i64 4294967296, .int .i64 4294967296, .int .i64 4294967296, .int .i64 4294967296, .int .i64 0, .int .i64 0]
  e42 : L 42 = true → s 171 = .tuple #[.agg #[.int .i64 (-2), .int .i64 2], .int .i64 0]
  e43 : L 43 = true → s 172 = .agg #[.int .i64 (-2), .int .i64 2]
  e44 : L 44 = true → s 173 = .int .i64 0
  e45 : L 45 = true → s 174 = .bool true
  e46 : L 46 = true → s 175 = .bool true
  e47 : L 47 = true → s 4 = .bool true

set_option maxRecDepth 100000 in
set_option maxHeartbeats 16000000 in
theorem walk (w : World) :
    Calls Try.prog 5 #[] w fun e w' => e = .returned (.bool true) ∧ Below w.heap.size w w' := by
  have hK := Kv.start w
  go_enter Try.func5, Try.ntmps5
  go_wp2_with fail
  refine (law6_works _).mono ?_; rintro e w1 ⟨rfl, hb⟩
  replace hK := hK.on hb
  clear hb
  go_upto_region 6 with (fail)
  have HK : Hid (Kv w (((w1.alloc (.cells #[.int .i64 (-4503599627370496), .int .i64 4503599627370496] 23)).alloc (.cells #[.int .i64 0, .int .i64 0, .int .i64 0, .int .i64 0, .int .i64 1, .int .i64 0] 25)).alloc (.cells #[.int .i64 (-4503599627370496), .int .i64 4503599627370496, .int .i64 (-4503599627370496), .int .i64 4503599627370496, .int .i64 (-4503599627370496), .int .i64 4503599627370496] 25)) [(w1.heap.size + 1 + 1, vobj (vl (((-4503599627370496), 4503599627370496), ((-4503599627370496), 4503599627370496), ((-4503599627370496), 4503599627370496)))), (w1.heap.size + 1, vobj (vl ((0, 0), (0, 0), (1, 0)))), (w1.heap.size, .cells #[.int .i64 (-4503599627370496), .int .i64 4503599627370496] 23 (0, 0))]) := Lib.hid (((hK.al (.cells #[.int .i64 (-4503599627370496), .int .i64 4503599627370496] 23 (0, 0)) (n := w1.heap.size) rfl).al (vobj (vl ((0, 0), (0, 0), (1, 0)))) (n := w1.heap.size + 1) (by simp)).al (vobj (vl (((-4503599627370496), 4503599627370496), ((-4503599627370496), 4503599627370496), ((-4503599627370496), 4503599627370496)))) (n := w1.heap.size + 1 + 1) (by simp))
  clear hK
  generalize w1.heap.size + 1 + 1 = O at *
  generalize hW : ((w1.alloc (.cells #[.int .i64 (-4503599627370496), .int .i64 4503599627370496] 23)).alloc (.cells #[.int .i64 0, .int .i64 0, .int .i64 0, .int .i64 0, .int .i64 1, .int .i64 0] 25)).alloc (.cells #[.int .i64 (-4503599627370496), .int .i64 4503599627370496, .int .i64 (-4503599627370496), .int .i64 4503599627370496, .int .i64 (-4503599627370496), .int .i64 4503599627370496] 25) = W5 at *
  generalize w1.heap.size + 1 = B at *
  generalize w1.heap.size = M at *
  clear hW
  have HBO := Lib.hid (HK.out.blk (O, vobj (vl (((-4503599627370496), 4503599627370496), ((-4503599627370496), 4503599627370496), ((-4503599627370496), 4503599627370496)))) (.head _))
  have HBB := Lib.hid (HK.out.blk (B, vobj (vl ((0, 0), (0, 0), (1, 0)))) (.tail _ (.head _)))
  have HBM := Lib.hid (HK.out.blk (M, .cells #[.int .i64 (-4503599627370496), .int .i64 4503599627370496] 23 (0, 0)) (.tail _ (.tail _ (.head _))))
  refine wp_region_go (Vx6 W5 M B O) (by kernel_rfl) (by kernel_rfl) ?_ ?_ ?_
  · exact ⟨(Below.refl _ _).drew, fun h => absurd h Bool.false_ne_true, fun h => absurd h Bool.false_ne_true, fun h => absurd h Bool.false_ne_true, fun h => absurd h Bool.false_ne_true, fun h => absurd h Bool.false_ne_true, fun h => absurd h Bool.false_ne_true, fun h => absurd h Bool.false_ne_true, fun h => absurd h Bool.false_ne_true, fun h => absurd h Bool.false_ne_true, fun h => absurd h Bool.false_ne_true, fun h => absurd h Bool.false_ne_true, fun h => absurd h Bool.false_ne_true, fun h => absurd h Bool.false_ne_true, fun h => absurd h Bool.false_ne_true, fun h => absurd h Bool.false_ne_true, fun h => absurd h Bool.false_ne_true, fun h => absurd h Bool.false_ne_true, fun h => absurd h Bool.false_ne_true, fun h => absurd h Bool.false_ne_true, fun h => absurd h Bool.false_ne_true, fun h => absurd h Bool.false_ne_true, fun h => absurd h Bool.false_ne_true, fun h => absurd h Bool.false_ne_true, fun h => absurd h Bool.false_ne_true, fun h => absurd h Bool.false_ne_true, fun h => absurd h Bool.false_ne_true, fun h => absurd h Bool.false_ne_true, fun h => absurd h Bool.false_ne_true, fun h => absurd h Bool.false_ne_true, fun h => absurd h Bool.false_ne_true, fun h => absurd h Bool.false_ne_true, fun h => absurd h Bool.false_ne_true, fun h => absurd h Bool.false_ne_true, fun h => absurd h Bool.false_ne_true, fun h => absurd h Bool.false_ne_true, fun h => absurd h Bool.false_ne_true, fun h => absurd h Bool.false_ne_true, fun h => absurd h Bool.false_ne_true, fun h => absurd h Bool.false_ne_true, fun h => absurd h Bool.false_ne_true, fun h => absurd h Bool.false_ne_true, fun h => absurd h Bool.false_ne_true, fun h => absurd h Bool.false_ne_true, fun h => absurd h Bool.false_ne_true, fun h => absurd h Bool.false_ne_true, fun h => absurd h Bool.false_ne_true, fun h => absurd h Bool.false_ne_true, fun h => absurd h Bool.false_ne_true, fun h => absurd h Bool.false_ne_true, fun h => absurd h Bool.false_ne_true⟩
  · refine AllS.consN 1 (some 17) rfl rfl ?_ (AllS.consN 2 (some 18) rfl rfl ?_ (AllS.consN 3 (some 19) rfl rfl ?_ (AllS.consN 4 (some 20) rfl rfl ?_ (AllS.consN 5 (some 21) rfl rfl ?_ (AllS.consN 6 (some 22) rfl rfl ?_ (AllS.consN 7 (some 23) rfl rfl ?_ (AllS.consN 8 (some 24) rfl rfl ?_ (AllS.consN 9 (some 25) rfl rfl ?_ (AllS.consN 10 (some 26) rfl rfl ?_ (AllS.consN 11 (some 27) rfl rfl ?_ (AllS.consN 12 (some 28) rfl rfl ?_ (AllS.consN 13 (some 29) rfl rfl ?_ (AllS.consN 14 (some 30) rfl rfl ?_ (AllS.consN 15 (some 31) rfl rfl ?_ (AllS.consN 16 (some 32) rfl rfl ?_ (AllS.consN 17 (some 33) rfl rfl ?_ (AllS.consN 18 (some 34) rfl rfl ?_ (AllS.consN 19 (some 35) rfl rfl ?_ (AllS.consN 20 (some 36) rfl rfl ?_ (AllS.consN 21 (some 37) rfl rfl ?_ (AllS.consN 22 (some 38) rfl rfl ?_ (AllS.consN 23 (some 39) rfl rfl ?_ (AllS.consN 24 (some 40) rfl rfl ?_ (AllS.consN 25 (some 41) rfl rfl ?_ (AllS.consN 26 (some 42) rfl rfl ?_ (AllS.consN 27 (some 43) rfl rfl ?_ (AllS.consN 28 (some 44) rfl rfl ?_ (AllS.consN 29 (some 45) rfl rfl ?_ (AllS.consN 30 (some 46) rfl rfl ?_ (AllS.consN 31 (some 47) rfl rfl ?_ (AllS.consN 32 (some 48) rfl rfl ?_ (AllS.consN 33 (some 49) rfl rfl ?_ (AllS.consN 34 (some 50) rfl rfl ?_ (AllS.consN 35 (some 51) rfl rfl ?_ (AllS.consN 36 (some 52) rfl rfl ?_ (AllS.consN 37 (some 53) rfl rfl ?_ (AllS.consN 38 (some 54) rfl rfl ?_ (AllS.consN 39 (some 55) rfl rfl ?_ (AllS.consN 40 (some 56) rfl rfl ?_ (AllS.consN 41 (some 57) rfl rfl ?_ (AllS.consN 42 (some 58) rfl rfl ?_ (AllS.consN 43 (some 59) rfl rfl ?_ (AllS.consN 44 (some 60) rfl rfl ?_ (AllS.consN 45 (some 61) rfl rfl ?_ (AllS.consN 46 (some 62) rfl rfl ?_ (AllS.consN 47 (some 63) rfl rfl ?_ (AllS.consN 48 (some 64) rfl rfl ?_ (AllS.consN 49 (some 65) rfl rfl ?_ (AllS.consN 50 (some 4) rfl rfl ?_ AllS.nil)))))))))))))))))))))))))))))))))))))))))))))))))
    · intro L s w2 h hk hd hn
      have s3 : s 3 = _ := hk 3 (by kernel_rfl)
      have b := (h.bel.block _ (lt_of_block HBO.out)).trans HBO.out
      obtain ⟨c0, c1, c2, c3, c4, c5⟩ := vobj_six b
      refine stepS rfl fun K hK => ?_
      go_simp
      exact hK _ _ { h with e0 := fun _ => rfl }
    · intro L s w2 h hk hd hn
      have s17 := h.e0 hd.1
      refine stepS rfl fun K hK => ?_
      go_simp
      refine (vx6_1 _).mono ?_
      rintro e w3 ⟨rfl, hb⟩
      exact ⟨_, rfl, hK _ _ { h with bel := below_step h.bel hb, e16 := fun d => (h.e16 d).on hb, e24 := fun d => (h.e24 d).on hb, e33 := fun d => (h.e33 d).on hb, e42 := fun d => (h.e42 d).on hb, e1 := fun _ => rfl }⟩
    · intro L s w2 h hk hd hn
      have s18 := h.e1 hd.1
      refine stepS rfl fun K hK => ?_
      go_simp
      exact hK _ _ { h with e2 := fun _ => rfl }
    · intro L s w2 h hk hd hn
      have s19 := h.e2 hd.1
      refine stepS rfl fun K hK => ?_
      go_simp
      exact hK _ _ { h with e3 := fun _ => rfl }
    · intro L s w2 h hk hd hn
      have gq := h.e3 hd.1
      have s2 : s 2 = _ := hk 2 (by kernel_rfl)
      have b := (h.bel.block _ (lt_of_block HBB.out)).trans HBB.out
      obtain ⟨c0, c1, c2, c3, c4, c5⟩ := vobj_six b
      refine stepS (by simp [Region.wanted, yieldS, gq]) fun K hK => ?_
      go_simp
      exact hK _ _ { h with e4 := fun _ => rfl }
    · intro L s w2 h hk hd hn
      have gq := h.e3 hd.2.1
      have s21 := h.e4 hd.1
      refine stepS (by simp [Region.wanted, yieldS, gq]) fun K hK => ?_
      go_simp
      refine (vx6_5 _).mono ?_
      rintro e w3 ⟨rfl, hb⟩
      exact ⟨_, rfl, hK _ _ { h with bel := below_step h.bel hb, e16 := fun d => (h.e16 d).on hb, e24 := fun d => (h.e24 d).on hb, e33 := fun d => (h.e33 d).on hb, e42 := fun d => (h.e42 d).on hb, e5 := fun _ => rfl }⟩
    · intro L s w2 h hk hd hn
      have gq := h.e3 hd.2.1
      have s22 := h.e5 hd.1
      refine stepS (by simp [Region.wanted, yieldS, gq]) fun K hK => ?_
      go_simp
      exact hK _ _ { h with e6 := fun _ => rfl }
    · intro L s w2 h hk hd hn
      have s20 := h.e3 hd.1
      have s23 := h.e6 hd.2.1
      refine stepS rfl fun K hK => ?_
      go_simp
      exact hK _ _ { h with e7 := fun _ => rfl }
    · intro L s w2 h hk hd hn
      have s24 := h.e7 hd.1
      refine stepS rfl fun K hK => ?_
      go_simp
      exact hK _ _ { h with e8 := fun _ => rfl }
    · intro L s w2 h hk hd hn
      have gq := h.e8 hd.1
      refine stepS (by simp [Region.wanted, yieldS, gq]) fun K hK => ?_
      go_simp
      exact hK _ _ { h with e9 := fun _ => rfl }
    · intro L s w2 h hk hd hn
      have gq := h.e8 hd.2.1
      have s26 := h.e9 hd.1
      refine stepS (by simp [Region.wanted, yieldS, gq]) fun K hK => ?_
      go_simp
      exact hK _ _ { h with e10 := fun _ => rfl }
    · intro L s w2 h hk hd hn
      have gq := h.e8 hd.2.1
      have s27 := h.e10 hd.1
      refine stepS (by simp [Region.wanted, yieldS, gq]) fun K hK => ?_
      go_simp
      refine (vx6_11 _).mono ?_
      rintro e w3 ⟨rfl, hb⟩
      exact ⟨_, rfl, hK _ _ { h with bel := below_step h.bel hb, e16 := fun d => (h.e16 d).on hb, e24 := fun d => (h.e24 d).on hb, e33 := fun d => (h.e33 d).on hb, e42 := fun d => (h.e42 d).on hb, e11 := fun _ => rfl }⟩
    · intro L s w2 h hk hd hn
      have gq := h.e8 hd.2.1
      have s28 := h.e11 hd.1
      refine stepS (by simp [Region.wanted, yieldS, gq]) fun K hK => ?_
      go_simp
      exact hK _ _ { h with e12 := fun _ => rfl }
    · intro L s w2 h hk hd hn
      have s25 := h.e8 hd.1
      have s29 := h.e12 hd.2.1
      refine stepS rfl fun K hK => ?_
      go_simp
      exact hK _ _ { h with e13 := fun _ => rfl }
    · intro L s w2 h hk hd hn
      have s30 := h.e13 hd.1
      refine stepS rfl fun K hK => ?_
      go_simp
      exact hK _ _ { h with e14 := fun _ => rfl }
    · intro L s w2 h hk hd hn
      have gq := h.e14 hd.1
      have s3 : s 3 = _ := hk 3 (by kernel_rfl)
      have b := (h.bel.block _ (lt_of_block HBO.out)).trans HBO.out
      obtain ⟨c0, c1, c2, c3, c4, c5⟩ := vobj_six b
      refine stepS (by simp [Region.wanted, yieldS, gq]) fun K hK => ?_
      go_simp
      exact hK _ _ { h with e15 := fun _ => rfl }
    · intro L s w2 h hk hd hn
      have gq := h.e14 hd.2.1
      have s32 := h.e15 hd.1
      refine stepS (by simp [Region.wanted, yieldS, gq]) fun K hK => ?_
      go_simp
      refine (law6_is (((-4503599627370496), 4503599627370496), ((-4503599627370496), 4503599627370496), ((-4503599627370496), 4503599627370496)) _).mono ?_
      rintro e w3 ⟨rfl, hb, hB⟩
      exact ⟨_, rfl, hK _ _ { h with bel := below_step h.bel hb, e24 := fun d => (h.e24 d).on hb, e33 := fun d => (h.e33 d).on hb, e42 := fun d => (h.e42 d).on hb, e16 := fun _ => ⟨_, rfl, hB⟩ }⟩
    · intro L s w2 h hk hd hn
      have gq := h.e14 hd.1
      have s3 : s 3 = _ := hk 3 (by kernel_rfl)
      have b := (h.bel.block _ (lt_of_block HBO.out)).trans HBO.out
      obtain ⟨c0, c1, c2, c3, c4, c5⟩ := vobj_six b
      refine stepS (by simp [Region.wanted, yieldS, gq]) fun K hK => ?_
      go_simp
      exact hK _ _ { h with e17 := fun _ => rfl }
    · intro L s w2 h hk hd hn
      have gq := h.e14 hd.2.2.1
      have s34 := h.e17 hd.1
      refine stepS (by simp [Region.wanted, yieldS, gq]) fun K hK => ?_
      go_simp
      refine (vx6_18 _).mono ?_
      rintro e w3 ⟨rfl, hb⟩
      exact ⟨_, rfl, hK _ _ { h with bel := below_step h.bel hb, e16 := fun d => (h.e16 d).on hb, e24 := fun d => (h.e24 d).on hb, e33 := fun d => (h.e33 d).on hb, e42 := fun d => (h.e42 d).on hb, e18 := fun _ => rfl }⟩
    · intro L s w2 h hk hd hn
      have gq := h.e14 hd.2.1
      have s35 := h.e18 hd.1
      refine stepS (by simp [Region.wanted, yieldS, gq]) fun K hK => ?_
      go_simp
      exact hK _ _ { h with e19 := fun _ => rfl }
    · intro L s w2 h hk hd hn
      have gq := h.e14 hd.2.1
      have s35 := h.e18 hd.1
      refine stepS (by simp [Region.wanted, yieldS, gq]) fun K hK => ?_
      go_simp
      exact hK _ _ { h with e20 := fun _ => rfl }
    · intro L s w2 h hk hd hn
      have gq := h.e14 hd.2.2.2.2.1
      have s36 := h.e19 hd.2.1
      have s37 := h.e20 hd.2.2.1
      obtain ⟨Q, sF, hQ⟩ := h.e16 hd.1
      refine stepS (by simp [Region.wanted, yieldS, gq]) fun K hK => ?_
      go_simp
      refine (law6_is1 (((-4503599627370496), 4503599627370496), ((-4503599627370496), 4503599627370496), ((-4503599627370496), 4503599627370496)) Q _ hQ).mono ?_
      rintro e w3 ⟨rfl, hb⟩
      exact ⟨_, rfl, hK _ _ { h with bel := below_step h.bel hb, e16 := fun d => (h.e16 d).on hb, e24 := fun d => (h.e24 d).on hb, e33 := fun d => (h.e33 d).on hb, e42 := fun d => (h.e42 d).on hb, e21 := fun _ => rfl }⟩
    · intro L s w2 h hk hd hn
      have s31 := h.e14 hd.1
      have s38 := h.e21 hd.2.1
      refine stepS rfl fun K hK => ?_
      go_simp
      exact hK _ _ { h with e22 := fun _ => rfl }
    · intro L s w2 h hk hd hn
      have s39 := h.e22 hd.1
      refine stepS rfl fun K hK => ?_
      go_simp
      exact hK _ _ { h with e23 := fun _ => rfl }
    · intro L s w2 h hk hd hn
      have gq := h.e23 hd.1
      refine stepS (by simp [Region.wanted, yieldS, gq]) fun K hK => ?_
      go_simp
      refine (law6_fails 6 _).mono ?_
      rintro e w3 ⟨rfl, hb, hB⟩
      exact ⟨_, rfl, hK _ _ { h with bel := below_step h.bel hb, e16 := fun d => (h.e16 d).on hb, e33 := fun d => (h.e33 d).on hb, e42 := fun d => (h.e42 d).on hb, e24 := fun _ => ⟨_, rfl, hB⟩ }⟩
    · intro L s w2 h hk hd hn
      have gq := h.e23 hd.1
      have s3 : s 3 = _ := hk 3 (by kernel_rfl)
      have b := (h.bel.block _ (lt_of_block HBO.out)).trans HBO.out
      obtain ⟨c0, c1, c2, c3, c4, c5⟩ := vobj_six b
      refine stepS (by simp [Region.wanted, yieldS, gq]) fun K hK => ?_
      go_simp
      exact hK _ _ { h with e25 := fun _ => rfl }
    · intro L s w2 h hk hd hn
      have gq := h.e23 hd.2.1
      refine stepS (by simp [Region.wanted, yieldS, gq]) fun K hK => ?_
      go_simp
      refine (vx6_26 _).mono ?_
      rintro e w3 ⟨rfl, hb⟩
      exact ⟨_, rfl, hK _ _ { h with bel := below_step h.bel hb, e16 := fun d => (h.e16 d).on hb, e24 := fun d => (h.e24 d).on hb, e33 := fun d => (h.e33 d).on hb, e42 := fun d => (h.e42 d).on hb, e26 := fun _ => rfl }⟩
    · intro L s w2 h hk hd hn
      have gq := h.e23 hd.2.2.2.1
      have s42 := h.e25 hd.1
      have s43 := h.e26 hd.2.1
      refine stepS (by simp [Region.wanted, yieldS, gq]) fun K hK => ?_
      go_simp
      refine (vx6_27 _).mono ?_
      rintro e w3 ⟨rfl, hb⟩
      exact ⟨_, rfl, hK _ _ { h with bel := below_step h.bel hb, e16 := fun d => (h.e16 d).on hb, e24 := fun d => (h.e24 d).on hb, e33 := fun d => (h.e33 d).on hb, e42 := fun d => (h.e42 d).on hb, e27 := fun _ => rfl }⟩
    · intro L s w2 h hk hd hn
      have gq := h.e23 hd.2.1
      have s44 := h.e27 hd.1
      refine stepS (by simp [Region.wanted, yieldS, gq]) fun K hK => ?_
      go_simp
      exact hK _ _ { h with e28 := fun _ => rfl }
    · intro L s w2 h hk hd hn
      have gq := h.e23 hd.2.1
      have s44 := h.e27 hd.1
      refine stepS (by simp [Region.wanted, yieldS, gq]) fun K hK => ?_
      go_simp
      exact hK _ _ { h with e29 := fun _ => rfl }
    · intro L s w2 h hk hd hn
      have gq := h.e23 hd.2.2.2.2.1
      have s45 := h.e28 hd.2.1
      have s46 := h.e29 hd.2.2.1
      obtain ⟨Q, sF, hQ⟩ := h.e24 hd.1
      refine stepS (by simp [Region.wanted, yieldS, gq]) fun K hK => ?_
      go_simp
      refine (law6_fails1 6 Q _ hQ).mono ?_
      rintro e w3 ⟨rfl, hb⟩
      exact ⟨_, rfl, hK _ _ { h with bel := below_step h.bel hb, e16 := fun d => (h.e16 d).on hb, e24 := fun d => (h.e24 d).on hb, e33 := fun d => (h.e33 d).on hb, e42 := fun d => (h.e42 d).on hb, e30 := fun _ => rfl }⟩
    · intro L s w2 h hk hd hn
      have s40 := h.e23 hd.1
      have s47 := h.e30 hd.2.1
      refine stepS rfl fun K hK => ?_
      go_simp
      exact hK _ _ { h with e31 := fun _ => rfl }
    · intro L s w2 h hk hd hn
      have s48 := h.e31 hd.1
      refine stepS rfl fun K hK => ?_
      go_simp
      exact hK _ _ { h with e32 := fun _ => rfl }
    · intro L s w2 h hk hd hn
      have gq := h.e32 hd.1
      refine stepS (by simp [Region.wanted, yieldS, gq]) fun K hK => ?_
      go_simp
      refine (law6_fails 20 _).mono ?_
      rintro e w3 ⟨rfl, hb, hB⟩
      exact ⟨_, rfl, hK _ _ { h with bel := below_step h.bel hb, e16 := fun d => (h.e16 d).on hb, e24 := fun d => (h.e24 d).on hb, e42 := fun d => (h.e42 d).on hb, e33 := fun _ => ⟨_, rfl, hB⟩ }⟩
    · intro L s w2 h hk hd hn
      have gq := h.e32 hd.1
      have s3 : s 3 = _ := hk 3 (by kernel_rfl)
      have b := (h.bel.block _ (lt_of_block HBO.out)).trans HBO.out
      obtain ⟨c0, c1, c2, c3, c4, c5⟩ := vobj_six b
      refine stepS (by simp [Region.wanted, yieldS, gq]) fun K hK => ?_
      go_simp
      exact hK _ _ { h with e34 := fun _ => rfl }
    · intro L s w2 h hk hd hn
      have gq := h.e32 hd.1
      have s2 : s 2 = _ := hk 2 (by kernel_rfl)
      have b := (h.bel.block _ (lt_of_block HBB.out)).trans HBB.out
      obtain ⟨c0, c1, c2, c3, c4, c5⟩ := vobj_six b
      refine stepS (by simp [Region.wanted, yieldS, gq]) fun K hK => ?_
      go_simp
      exact hK _ _ { h with e35 := fun _ => rfl }
    · intro L s w2 h hk hd hn
      have gq := h.e32 hd.2.2.2.1
      have s51 := h.e34 hd.1
      have s52 := h.e35 hd.2.1
      refine stepS (by simp [Region.wanted, yieldS, gq]) fun K hK => ?_
      go_simp
      refine (vx6_36 _).mono ?_
      rintro e w3 ⟨rfl, hb⟩
      exact ⟨_, rfl, hK _ _ { h with bel := below_step h.bel hb, e16 := fun d => (h.e16 d).on hb, e24 := fun d => (h.e24 d).on hb, e33 := fun d => (h.e33 d).on hb, e42 := fun d => (h.e42 d).on hb, e36 := fun _ => rfl }⟩
    · intro L s w2 h hk hd hn
      have gq := h.e32 hd.2.1
      have s53 := h.e36 hd.1
      refine stepS (by simp [Region.wanted, yieldS, gq]) fun K hK => ?_
      go_simp
      exact hK _ _ { h with e37 := fun _ => rfl }
    · intro L s w2 h hk hd hn
      have gq := h.e32 hd.2.1
      have s53 := h.e36 hd.1
      refine stepS (by simp [Region.wanted, yieldS, gq]) fun K hK => ?_
      go_simp
      exact hK _ _ { h with e38 := fun _ => rfl }
    · intro L s w2 h hk hd hn
      have gq := h.e32 hd.2.2.2.2.1
      have s54 := h.e37 hd.2.1
      have s55 := h.e38 hd.2.2.1
      obtain ⟨Q, sF, hQ⟩ := h.e33 hd.1
      refine stepS (by simp [Region.wanted, yieldS, gq]) fun K hK => ?_
      go_simp
      refine (law6_fails1 20 Q _ hQ).mono ?_
      rintro e w3 ⟨rfl, hb⟩
      exact ⟨_, rfl, hK _ _ { h with bel := below_step h.bel hb, e16 := fun d => (h.e16 d).on hb, e24 := fun d => (h.e24 d).on hb, e33 := fun d => (h.e33 d).on hb, e42 := fun d => (h.e42 d).on hb, e39 := fun _ => rfl }⟩
    · intro L s w2 h hk hd hn
      have s49 := h.e32 hd.1
      have s56 := h.e39 hd.2.1
      refine stepS rfl fun K hK => ?_
      go_simp
      exact hK _ _ { h with e40 := fun _ => rfl }
    · intro L s w2 h hk hd hn
      have s57 := h.e40 hd.1
      refine stepS rfl fun K hK => ?_
      go_simp
      exact hK _ _ { h with e41 := fun _ => rfl }
    · intro L s w2 h hk hd hn
      have gq := h.e41 hd.1
      refine stepS (by simp [Region.wanted, yieldS, gq]) fun K hK => ?_
      go_simp
      refine (law6_fails 20 _).mono ?_
      rintro e w3 ⟨rfl, hb, hB⟩
      exact ⟨_, rfl, hK _ _ { h with bel := below_step h.bel hb, e16 := fun d => (h.e16 d).on hb, e24 := fun d => (h.e24 d).on hb, e33 := fun d => (h.e33 d).on hb, e42 := fun _ => ⟨_, rfl, hB⟩ }⟩
    · intro L s w2 h hk hd hn
      have gq := h.e41 hd.1
      have s2 : s 2 = _ := hk 2 (by kernel_rfl)
      have b := (h.bel.block _ (lt_of_block HBB.out)).trans HBB.out
      obtain ⟨c0, c1, c2, c3, c4, c5⟩ := vobj_six b
      refine stepS (by simp [Region.wanted, yieldS, gq]) fun K hK => ?_
      go_simp
      exact hK _ _ { h with e43 := fun _ => rfl }
    · intro L s w2 h hk hd hn
      have gq := h.e41 hd.2.2.1
      have s60 := h.e43 hd.1
      refine stepS (by simp [Region.wanted, yieldS, gq]) fun K hK => ?_
      go_simp
      refine (vx6_44 _).mono ?_
      rintro e w3 ⟨rfl, hb⟩
      exact ⟨_, rfl, hK _ _ { h with bel := below_step h.bel hb, e16 := fun d => (h.e16 d).on hb, e24 := fun d => (h.e24 d).on hb, e33 := fun d => (h.e33 d).on hb, e42 := fun d => (h.e42 d).on hb, e44 := fun _ => rfl }⟩
    · intro L s w2 h hk hd hn
      have gq := h.e41 hd.2.1
      have s61 := h.e44 hd.1
      refine stepS (by simp [Region.wanted, yieldS, gq]) fun K hK => ?_
      go_simp
      exact hK _ _ { h with e45 := fun _ => rfl }
    · intro L s w2 h hk hd hn
      have gq := h.e41 hd.2.1
      have s61 := h.e44 hd.1
      refine stepS (by simp [Region.wanted, yieldS, gq]) fun K hK => ?_
      go_simp
      exact hK _ _ { h with e46 := fun _ => rfl }
    · intro L s w2 h hk hd hn
      have gq := h.e41 hd.2.2.2.2.1
      have s62 := h.e45 hd.2.1
      have s63 := h.e46 hd.2.2.1
      obtain ⟨Q, sF, hQ⟩ := h.e42 hd.1
      refine stepS (by simp [Region.wanted, yieldS, gq]) fun K hK => ?_
      go_simp
      refine (law6_fails1 20 Q _ hQ).mono ?_
      rintro e w3 ⟨rfl, hb⟩
      exact ⟨_, rfl, hK _ _ { h with bel := below_step h.bel hb, e16 := fun d => (h.e16 d).on hb, e24 := fun d => (h.e24 d).on hb, e33 := fun d => (h.e33 d).on hb, e42 := fun d => (h.e42 d).on hb, e47 := fun _ => rfl }⟩
    · intro L s w2 h hk hd hn
      have s58 := h.e41 hd.1
      have s64 := h.e47 hd.2.1
      refine stepS rfl fun K hK => ?_
      go_simp
      exact hK _ _ { h with e48 := fun _ => rfl }
    · intro L s w2 h hk hd hn
      have s65 := h.e48 hd.1
      refine stepS rfl fun K hK => ?_
      go_simp
      exact hK _ _ { h with e49 := fun _ => rfl }
  intro L s wc h hk hl a ha
  have k1 : s 1 = .pointer (some ⟨M, 0, none⟩) := hk 1 (by kernel_rfl)
  have k2 : s 2 = .pointer (some ⟨B, 0, none⟩) := hk 2 (by kernel_rfl)
  have k3 : s 3 = .pointer (some ⟨O, 0, none⟩) := hk 3 (by kernel_rfl)
  have k4 : s 4 = .bool true := h.e49 (hl 49 (by decide))
  replace ha := ha.trans (show actS _ s [] = ⟨#[s 0, s 1, s 2, s 3, s 4, s 5, s 6, s 7, s 8, s 9, s 10, s 11, s 12, s 13, s 14, s 15, s 16, s 17, s 18, s 19, s 20, s 21, s 22, s 23, s 24, s 25, s 26, s 27, s 28, s 29, s 30, s 31, s 32, s 33, s 34, s 35, s 36, s 37, s 38, s 39, s 40, s 41, s 42, s 43, s 44, s 45, s 46, s 47, s 48, s 49, s 50, s 51, s 52, s 53, s 54, s 55, s 56, s 57, s 58, s 59, s 60, s 61, s 62, s 63, s 64, s 65, s 66, s 67, s 68, s 69, s 70, s 71, s 72, s 73, s 74, s 75, s 76, s 77, s 78, s 79, s 80, s 81, s 82, s 83, s 84, s 85, s 86, s 87, s 88, s 89, s 90, s 91, s 92, s 93, s 94, s 95, s 96, s 97, s 98, s 99, s 100, s 101, s 102, s 103, s 104, s 105, s 106, s 107, s 108, s 109, s 110, s 111, s 112, s 113, s 114, s 115, s 116, s 117, s 118, s 119, s 120, s 121, s 122, s 123, s 124, s 125, s 126, s 127, s 128, s 129, s 130, s 131, s 132, s 133, s 134, s 135, s 136, s 137, s 138, s 139, s 140, s 141, s 142, s 143, s 144, s 145, s 146, s 147, s 148, s 149, s 150, s 151, s 152, s 153, s 154, s 155, s 156, s 157, s 158, s 159, s 160, s 161, s 162, s 163, s 164, s 165, s 166, s 167, s 168, s 169, s 170, s 171, s 172, s 173, s 174, s 175, s 176, s 177, s 178, s 179, s 180, s 181, s 182, s 183, s 184, s 185, s 186, s 187, s 188, s 189, s 190, s 191, s 192, s 193, s 194, s 195, s 196, s 197, s 198, s 199, s 200, s 201, s 202, s 203, s 204, s 205, s 206, s 207, s 208, s 209, s 210, s 211, s 212, s 213, s 214, s 215, s 216, s 217, s 218, s 219, s 220, s 221, s 222, s 223, s 224, s 225], []⟩ by kernel_rfl)
  rw [k1, k2, k3, k4] at ha
  subst ha
  replace HK := Lib.hid (HK.out.on h.bel)
  clear h hk hl k1 k2 k3 k4 HBO HBB HBM
  go_upto_region 7 with (fail)
  have HBO := Lib.hid (HK.out.blk (O, vobj (vl (((-4503599627370496), 4503599627370496), ((-4503599627370496), 4503599627370496), ((-4503599627370496), 4503599627370496)))) (.head _))
  have HBB := Lib.hid (HK.out.blk (B, vobj (vl ((0, 0), (0, 0), (1, 0)))) (.tail _ (.head _)))
  have HBM := Lib.hid (HK.out.blk (M, .cells #[.int .i64 (-4503599627370496), .int .i64 4503599627370496] 23 (0, 0)) (.tail _ (.tail _ (.head _))))
  refine wp_region_go (Vx7 wc M B O) (by kernel_rfl) (by kernel_rfl) ?_ ?_ ?_
  · exact ⟨(Below.refl _ _).drew, fun _ => rfl, fun h => absurd h Bool.false_ne_true, fun h => absurd h Bool.false_ne_true, fun h => absurd h Bool.false_ne_true, fun h => absurd h Bool.false_ne_true, fun h => absurd h Bool.false_ne_true, fun h => absurd h Bool.false_ne_true, fun h => absurd h Bool.false_ne_true, fun h => absurd h Bool.false_ne_true, fun h => absurd h Bool.false_ne_true, fun h => absurd h Bool.false_ne_true, fun h => absurd h Bool.false_ne_true, fun h => absurd h Bool.false_ne_true, fun h => absurd h Bool.false_ne_true, fun h => absurd h Bool.false_ne_true, fun h => absurd h Bool.false_ne_true, fun h => absurd h Bool.false_ne_true, fun h => absurd h Bool.false_ne_true, fun h => absurd h Bool.false_ne_true, fun h => absurd h Bool.false_ne_true, fun h => absurd h Bool.false_ne_true, fun h => absurd h Bool.false_ne_true, fun h => absurd h Bool.false_ne_true, fun h => absurd h Bool.false_ne_true, fun h => absurd h Bool.false_ne_true, fun h => absurd h Bool.false_ne_true, fun h => absurd h Bool.false_ne_true, fun h => absurd h Bool.false_ne_true, fun h => absurd h Bool.false_ne_true, fun h => absurd h Bool.false_ne_true, fun h => absurd h Bool.false_ne_true, fun h => absurd h Bool.false_ne_true, fun h => absurd h Bool.false_ne_true, fun h => absurd h Bool.false_ne_true, fun h => absurd h Bool.false_ne_true, fun h => absurd h Bool.false_ne_true, fun h => absurd h Bool.false_ne_true, fun h => absurd h Bool.false_ne_true, fun h => absurd h Bool.false_ne_true, fun h => absurd h Bool.false_ne_true, fun h => absurd h Bool.false_ne_true, fun h => absurd h Bool.false_ne_true, fun h => absurd h Bool.false_ne_true, fun h => absurd h Bool.false_ne_true, fun h => absurd h Bool.false_ne_true, fun h => absurd h Bool.false_ne_true, fun h => absurd h Bool.false_ne_true, fun h => absurd h Bool.false_ne_true, fun h => absurd h Bool.false_ne_true, fun h => absurd h Bool.false_ne_true, fun h => absurd h Bool.false_ne_true, fun h => absurd h Bool.false_ne_true, fun h => absurd h Bool.false_ne_true, fun h => absurd h Bool.false_ne_true, fun h => absurd h Bool.false_ne_true, fun h => absurd h Bool.false_ne_true, fun h => absurd h Bool.false_ne_true, fun h => absurd h Bool.false_ne_true, fun h => absurd h Bool.false_ne_true, fun h => absurd h Bool.false_ne_true, fun h => absurd h Bool.false_ne_true, fun h => absurd h Bool.false_ne_true, fun h => absurd h Bool.false_ne_true, fun h => absurd h Bool.false_ne_true, fun h => absurd h Bool.false_ne_true, fun h => absurd h Bool.false_ne_true⟩
  · refine AllS.consN 1 (some 66) rfl rfl ?_ (AllS.consN 2 (some 67) rfl rfl ?_ (AllS.consN 3 (some 68) rfl rfl ?_ (AllS.consN 4 (some 69) rfl rfl ?_ (AllS.consN 5 (some 70) rfl rfl ?_ (AllS.consN 6 (some 71) rfl rfl ?_ (AllS.consN 7 (some 72) rfl rfl ?_ (AllS.consN 8 (some 73) rfl rfl ?_ (AllS.consN 9 (some 74) rfl rfl ?_ (AllS.consN 10 (some 75) rfl rfl ?_ (AllS.consN 11 (some 76) rfl rfl ?_ (AllS.consN 12 (some 77) rfl rfl ?_ (AllS.consN 13 (some 78) rfl rfl ?_ (AllS.consN 14 (some 79) rfl rfl ?_ (AllS.consN 15 (some 80) rfl rfl ?_ (AllS.consN 16 (some 81) rfl rfl ?_ (AllS.consN 17 (some 82) rfl rfl ?_ (AllS.consN 18 (some 83) rfl rfl ?_ (AllS.consN 19 (some 84) rfl rfl ?_ (AllS.consN 20 (some 85) rfl rfl ?_ (AllS.consN 21 (some 86) rfl rfl ?_ (AllS.consN 22 (some 87) rfl rfl ?_ (AllS.consN 23 (some 88) rfl rfl ?_ (AllS.consN 24 (some 89) rfl rfl ?_ (AllS.consN 25 (some 90) rfl rfl ?_ (AllS.consN 26 (some 91) rfl rfl ?_ (AllS.consN 27 (some 92) rfl rfl ?_ (AllS.consN 28 (some 93) rfl rfl ?_ (AllS.consN 29 (some 94) rfl rfl ?_ (AllS.consN 30 (some 95) rfl rfl ?_ (AllS.consN 31 (some 96) rfl rfl ?_ (AllS.consN 32 (some 97) rfl rfl ?_ (AllS.consN 33 (some 98) rfl rfl ?_ (AllS.consN 34 (some 99) rfl rfl ?_ (AllS.consN 35 (some 100) rfl rfl ?_ (AllS.consN 36 (some 101) rfl rfl ?_ (AllS.consN 37 (some 102) rfl rfl ?_ (AllS.consN 38 (some 103) rfl rfl ?_ (AllS.consN 39 (some 104) rfl rfl ?_ (AllS.consN 40 (some 105) rfl rfl ?_ (AllS.consN 41 (some 106) rfl rfl ?_ (AllS.consN 42 (some 107) rfl rfl ?_ (AllS.consN 43 (some 108) rfl rfl ?_ (AllS.consN 44 (some 109) rfl rfl ?_ (AllS.consN 45 (some 110) rfl rfl ?_ (AllS.consN 46 (some 111) rfl rfl ?_ (AllS.consN 47 (some 112) rfl rfl ?_ (AllS.consN 48 (some 113) rfl rfl ?_ (AllS.consN 49 (some 114) rfl rfl ?_ (AllS.consN 50 (some 115) rfl rfl ?_ (AllS.consN 51 (some 116) rfl rfl ?_ (AllS.consN 52 (some 117) rfl rfl ?_ (AllS.consN 53 (some 118) rfl rfl ?_ (AllS.consN 54 (some 119) rfl rfl ?_ (AllS.consN 55 (some 120) rfl rfl ?_ (AllS.consN 56 (some 121) rfl rfl ?_ (AllS.consN 57 (some 122) rfl rfl ?_ (AllS.consN 58 (some 123) rfl rfl ?_ (AllS.consN 59 (some 124) rfl rfl ?_ (AllS.consN 60 (some 125) rfl rfl ?_ (AllS.consN 61 (some 126) rfl rfl ?_ (AllS.consN 62 (some 127) rfl rfl ?_ (AllS.consN 63 (some 128) rfl rfl ?_ (AllS.consN 64 (some 4) rfl rfl ?_ AllS.nil)))))))))))))))))))))))))))))))))))))))))))))))))))))))))))))))
    · intro L s w2 h hk hd hn
      have s4 : s 4 = .bool true := h.o4 (by
            cases hx : L 63
            · rfl
            · exact absurd (h.dl hx) (by rw [hn]; exact Bool.false_ne_true))
      refine stepS rfl fun K hK => ?_
      go_simp
      exact hK _ _ { h with e0 := fun _ => rfl, dl := fun _ => rfl }
    · intro L s w2 h hk hd hn
      have s66 := h.e0 hd.1
      refine stepS rfl fun K hK => ?_
      go_simp
      exact hK _ _ { h with e1 := fun _ => rfl }
    · intro L s w2 h hk hd hn
      have gq := h.e1 hd.1
      refine stepS (by simp [Region.wanted, yieldS, gq]) fun K hK => ?_
      go_simp
      refine (law6_fails 20 _).mono ?_
      rintro e w3 ⟨rfl, hb, hB⟩
      exact ⟨_, rfl, hK _ _ { h with bel := below_step h.bel hb, e12 := fun d => (h.e12 d).on hb, e21 := fun d => (h.e21 d).on hb, e30 := fun d => (h.e30 d).on hb, e39 := fun d => (h.e39 d).on hb, e47 := fun d => (h.e47 d).on hb, e55 := fun d => (h.e55 d).on hb, e2 := fun _ => ⟨_, rfl, hB⟩ }⟩
    · intro L s w2 h hk hd hn
      have gq := h.e1 hd.1
      have s3 : s 3 = _ := hk 3 (by kernel_rfl)
      have b := (h.bel.block _ (lt_of_block HBO.out)).trans HBO.out
      obtain ⟨c0, c1, c2, c3, c4, c5⟩ := vobj_six b
      refine stepS (by simp [Region.wanted, yieldS, gq]) fun K hK => ?_
      go_simp
      exact hK _ _ { h with e3 := fun _ => rfl }
    · intro L s w2 h hk hd hn
      have gq := h.e1 hd.1
      refine stepS (by simp [Region.wanted, yieldS, gq]) fun K hK => ?_
      go_simp
      exact hK _ _ { h with e4 := fun _ => rfl }
    · intro L s w2 h hk hd hn
      have gq := h.e1 hd.2.2.2.1
      have s69 := h.e3 hd.1
      have s70 := h.e4 hd.2.1
      refine stepS (by simp [Region.wanted, yieldS, gq]) fun K hK => ?_
      go_simp
      refine (vx7_5 _).mono ?_
      rintro e w3 ⟨rfl, hb⟩
      exact ⟨_, rfl, hK _ _ { h with bel := below_step h.bel hb, e2 := fun d => (h.e2 d).on hb, e12 := fun d => (h.e12 d).on hb, e21 := fun d => (h.e21 d).on hb, e30 := fun d => (h.e30 d).on hb, e39 := fun d => (h.e39 d).on hb, e47 := fun d => (h.e47 d).on hb, e55 := fun d => (h.e55 d).on hb, e5 := fun _ => rfl }⟩
    · intro L s w2 h hk hd hn
      have gq := h.e1 hd.2.1
      have s71 := h.e5 hd.1
      refine stepS (by simp [Region.wanted, yieldS, gq]) fun K hK => ?_
      go_simp
      exact hK _ _ { h with e6 := fun _ => rfl }
    · intro L s w2 h hk hd hn
      have gq := h.e1 hd.2.1
      have s71 := h.e5 hd.1
      refine stepS (by simp [Region.wanted, yieldS, gq]) fun K hK => ?_
      go_simp
      exact hK _ _ { h with e7 := fun _ => rfl }
    · intro L s w2 h hk hd hn
      have gq := h.e1 hd.2.2.2.2.1
      have s72 := h.e6 hd.2.1
      have s73 := h.e7 hd.2.2.1
      obtain ⟨Q, sF, hQ⟩ := h.e2 hd.1
      refine stepS (by simp [Region.wanted, yieldS, gq]) fun K hK => ?_
      go_simp
      refine (law6_fails1 20 Q _ hQ).mono ?_
      rintro e w3 ⟨rfl, hb⟩
      exact ⟨_, rfl, hK _ _ { h with bel := below_step h.bel hb, e2 := fun d => (h.e2 d).on hb, e12 := fun d => (h.e12 d).on hb, e21 := fun d => (h.e21 d).on hb, e30 := fun d => (h.e30 d).on hb, e39 := fun d => (h.e39 d).on hb, e47 := fun d => (h.e47 d).on hb, e55 := fun d => (h.e55 d).on hb, e8 := fun _ => rfl }⟩
    · intro L s w2 h hk hd hn
      have s67 := h.e1 hd.1
      have s74 := h.e8 hd.2.1
      refine stepS rfl fun K hK => ?_
      go_simp
      exact hK _ _ { h with e9 := fun _ => rfl }
    · intro L s w2 h hk hd hn
      have s75 := h.e9 hd.1
      refine stepS rfl fun K hK => ?_
      go_simp
      exact hK _ _ { h with e10 := fun _ => rfl }
    · intro L s w2 h hk hd hn
      have gq := h.e10 hd.1
      refine stepS (by simp [Region.wanted, yieldS, gq]) fun K hK => ?_
      go_simp
      exact hK _ _ { h with e11 := fun _ => rfl }
    · intro L s w2 h hk hd hn
      have gq := h.e10 hd.2.1
      have s77 := h.e11 hd.1
      refine stepS (by simp [Region.wanted, yieldS, gq]) fun K hK => ?_
      go_simp
      refine (law6_is ((0, 0), (0, 0), (0, 0)) _).mono ?_
      rintro e w3 ⟨rfl, hb, hB⟩
      exact ⟨_, rfl, hK _ _ { h with bel := below_step h.bel hb, e2 := fun d => (h.e2 d).on hb, e21 := fun d => (h.e21 d).on hb, e30 := fun d => (h.e30 d).on hb, e39 := fun d => (h.e39 d).on hb, e47 := fun d => (h.e47 d).on hb, e55 := fun d => (h.e55 d).on hb, e12 := fun _ => ⟨_, rfl, hB⟩ }⟩
    · intro L s w2 h hk hd hn
      have gq := h.e10 hd.1
      have s3 : s 3 = _ := hk 3 (by kernel_rfl)
      have b := (h.bel.block _ (lt_of_block HBO.out)).trans HBO.out
      obtain ⟨c0, c1, c2, c3, c4, c5⟩ := vobj_six b
      refine stepS (by simp [Region.wanted, yieldS, gq]) fun K hK => ?_
      go_simp
      exact hK _ _ { h with e13 := fun _ => rfl }
    · intro L s w2 h hk hd hn
      have gq := h.e10 hd.1
      refine stepS (by simp [Region.wanted, yieldS, gq]) fun K hK => ?_
      go_simp
      exact hK _ _ { h with e14 := fun _ => rfl }
    · intro L s w2 h hk hd hn
      have gq := h.e10 hd.2.2.2.1
      have s79 := h.e13 hd.1
      have s80 := h.e14 hd.2.1
      refine stepS (by simp [Region.wanted, yieldS, gq]) fun K hK => ?_
      go_simp
      refine (vx7_15 _).mono ?_
      rintro e w3 ⟨rfl, hb⟩
      exact ⟨_, rfl, hK _ _ { h with bel := below_step h.bel hb, e2 := fun d => (h.e2 d).on hb, e12 := fun d => (h.e12 d).on hb, e21 := fun d => (h.e21 d).on hb, e30 := fun d => (h.e30 d).on hb, e39 := fun d => (h.e39 d).on hb, e47 := fun d => (h.e47 d).on hb, e55 := fun d => (h.e55 d).on hb, e15 := fun _ => rfl }⟩
    · intro L s w2 h hk hd hn
      have gq := h.e10 hd.2.1
      have s81 := h.e15 hd.1
      refine stepS (by simp [Region.wanted, yieldS, gq]) fun K hK => ?_
      go_simp
      exact hK _ _ { h with e16 := fun _ => rfl }
    · intro L s w2 h hk hd hn
      have gq := h.e10 hd.2.1
      have s81 := h.e15 hd.1
      refine stepS (by simp [Region.wanted, yieldS, gq]) fun K hK => ?_
      go_simp
      exact hK _ _ { h with e17 := fun _ => rfl }
    · intro L s w2 h hk hd hn
      have gq := h.e10 hd.2.2.2.2.1
      have s82 := h.e16 hd.2.1
      have s83 := h.e17 hd.2.2.1
      obtain ⟨Q, sF, hQ⟩ := h.e12 hd.1
      refine stepS (by simp [Region.wanted, yieldS, gq]) fun K hK => ?_
      go_simp
      refine (law6_is1 ((0, 0), (0, 0), (0, 0)) Q _ hQ).mono ?_
      rintro e w3 ⟨rfl, hb⟩
      exact ⟨_, rfl, hK _ _ { h with bel := below_step h.bel hb, e2 := fun d => (h.e2 d).on hb, e12 := fun d => (h.e12 d).on hb, e21 := fun d => (h.e21 d).on hb, e30 := fun d => (h.e30 d).on hb, e39 := fun d => (h.e39 d).on hb, e47 := fun d => (h.e47 d).on hb, e55 := fun d => (h.e55 d).on hb, e18 := fun _ => rfl }⟩
    · intro L s w2 h hk hd hn
      have s76 := h.e10 hd.1
      have s84 := h.e18 hd.2.1
      refine stepS rfl fun K hK => ?_
      go_simp
      exact hK _ _ { h with e19 := fun _ => rfl }
    · intro L s w2 h hk hd hn
      have s85 := h.e19 hd.1
      refine stepS rfl fun K hK => ?_
      go_simp
      exact hK _ _ { h with e20 := fun _ => rfl }
    · intro L s w2 h hk hd hn
      have gq := h.e20 hd.1
      refine stepS (by simp [Region.wanted, yieldS, gq]) fun K hK => ?_
      go_simp
      refine (law6_fails 6 _).mono ?_
      rintro e w3 ⟨rfl, hb, hB⟩
      exact ⟨_, rfl, hK _ _ { h with bel := below_step h.bel hb, e2 := fun d => (h.e2 d).on hb, e12 := fun d => (h.e12 d).on hb, e30 := fun d => (h.e30 d).on hb, e39 := fun d => (h.e39 d).on hb, e47 := fun d => (h.e47 d).on hb, e55 := fun d => (h.e55 d).on hb, e21 := fun _ => ⟨_, rfl, hB⟩ }⟩
    · intro L s w2 h hk hd hn
      have gq := h.e20 hd.1
      have s3 : s 3 = _ := hk 3 (by kernel_rfl)
      have b := (h.bel.block _ (lt_of_block HBO.out)).trans HBO.out
      obtain ⟨c0, c1, c2, c3, c4, c5⟩ := vobj_six b
      refine stepS (by simp [Region.wanted, yieldS, gq]) fun K hK => ?_
      go_simp
      exact hK _ _ { h with e22 := fun _ => rfl }
    · intro L s w2 h hk hd hn
      have gq := h.e20 hd.2.1
      refine stepS (by simp [Region.wanted, yieldS, gq]) fun K hK => ?_
      go_simp
      refine (vx7_23 _).mono ?_
      rintro e w3 ⟨rfl, hb⟩
      exact ⟨_, rfl, hK _ _ { h with bel := below_step h.bel hb, e2 := fun d => (h.e2 d).on hb, e12 := fun d => (h.e12 d).on hb, e21 := fun d => (h.e21 d).on hb, e30 := fun d => (h.e30 d).on hb, e39 := fun d => (h.e39 d).on hb, e47 := fun d => (h.e47 d).on hb, e55 := fun d => (h.e55 d).on hb, e23 := fun _ => rfl }⟩
    · intro L s w2 h hk hd hn
      have gq := h.e20 hd.2.2.2.1
      have s88 := h.e22 hd.1
      have s89 := h.e23 hd.2.1
      refine stepS (by simp [Region.wanted, yieldS, gq]) fun K hK => ?_
      go_simp
      refine (vx7_24 _).mono ?_
      rintro e w3 ⟨rfl, hb⟩
      exact ⟨_, rfl, hK _ _ { h with bel := below_step h.bel hb, e2 := fun d => (h.e2 d).on hb, e12 := fun d => (h.e12 d).on hb, e21 := fun d => (h.e21 d).on hb, e30 := fun d => (h.e30 d).on hb, e39 := fun d => (h.e39 d).on hb, e47 := fun d => (h.e47 d).on hb, e55 := fun d => (h.e55 d).on hb, e24 := fun _ => rfl }⟩
    · intro L s w2 h hk hd hn
      have gq := h.e20 hd.2.1
      have s90 := h.e24 hd.1
      refine stepS (by simp [Region.wanted, yieldS, gq]) fun K hK => ?_
      go_simp
      exact hK _ _ { h with e25 := fun _ => rfl }
    · intro L s w2 h hk hd hn
      have gq := h.e20 hd.2.1
      have s90 := h.e24 hd.1
      refine stepS (by simp [Region.wanted, yieldS, gq]) fun K hK => ?_
      go_simp
      exact hK _ _ { h with e26 := fun _ => rfl }
    · intro L s w2 h hk hd hn
      have gq := h.e20 hd.2.2.2.2.1
      have s91 := h.e25 hd.2.1
      have s92 := h.e26 hd.2.2.1
      obtain ⟨Q, sF, hQ⟩ := h.e21 hd.1
      refine stepS (by simp [Region.wanted, yieldS, gq]) fun K hK => ?_
      go_simp
      refine (law6_fails1 6 Q _ hQ).mono ?_
      rintro e w3 ⟨rfl, hb⟩
      exact ⟨_, rfl, hK _ _ { h with bel := below_step h.bel hb, e2 := fun d => (h.e2 d).on hb, e12 := fun d => (h.e12 d).on hb, e21 := fun d => (h.e21 d).on hb, e30 := fun d => (h.e30 d).on hb, e39 := fun d => (h.e39 d).on hb, e47 := fun d => (h.e47 d).on hb, e55 := fun d => (h.e55 d).on hb, e27 := fun _ => rfl }⟩
    · intro L s w2 h hk hd hn
      have s86 := h.e20 hd.1
      have s93 := h.e27 hd.2.1
      refine stepS rfl fun K hK => ?_
      go_simp
      exact hK _ _ { h with e28 := fun _ => rfl }
    · intro L s w2 h hk hd hn
      have s94 := h.e28 hd.1
      refine stepS rfl fun K hK => ?_
      go_simp
      exact hK _ _ { h with e29 := fun _ => rfl }
    · intro L s w2 h hk hd hn
      have gq := h.e29 hd.1
      refine stepS (by simp [Region.wanted, yieldS, gq]) fun K hK => ?_
      go_simp
      refine (law6_refuses 6 _).mono ?_
      rintro e w3 ⟨rfl, hb, hB⟩
      exact ⟨_, rfl, hK _ _ { h with bel := below_step h.bel hb, e2 := fun d => (h.e2 d).on hb, e12 := fun d => (h.e12 d).on hb, e21 := fun d => (h.e21 d).on hb, e39 := fun d => (h.e39 d).on hb, e47 := fun d => (h.e47 d).on hb, e55 := fun d => (h.e55 d).on hb, e30 := fun _ => ⟨_, rfl, hB⟩ }⟩
    · intro L s w2 h hk hd hn
      have gq := h.e29 hd.2.1
      refine stepS (by simp [Region.wanted, yieldS, gq]) fun K hK => ?_
      go_simp
      refine (vx7_31 _).mono ?_
      rintro e w3 ⟨rfl, hb⟩
      exact ⟨_, rfl, hK _ _ { h with bel := below_step h.bel hb, e2 := fun d => (h.e2 d).on hb, e12 := fun d => (h.e12 d).on hb, e21 := fun d => (h.e21 d).on hb, e30 := fun d => (h.e30 d).on hb, e39 := fun d => (h.e39 d).on hb, e47 := fun d => (h.e47 d).on hb, e55 := fun d => (h.e55 d).on hb, e31 := fun _ => rfl }⟩
    · intro L s w2 h hk hd hn
      have gq := h.e29 hd.2.2.1
      have s97 := h.e31 hd.1
      refine stepS (by simp [Region.wanted, yieldS, gq]) fun K hK => ?_
      go_simp
      refine (vx7_32 _).mono ?_
      rintro e w3 ⟨rfl, hb⟩
      exact ⟨_, rfl, hK _ _ { h with bel := below_step h.bel hb, e2 := fun d => (h.e2 d).on hb, e12 := fun d => (h.e12 d).on hb, e21 := fun d => (h.e21 d).on hb, e30 := fun d => (h.e30 d).on hb, e39 := fun d => (h.e39 d).on hb, e47 := fun d => (h.e47 d).on hb, e55 := fun d => (h.e55 d).on hb, e32 := fun _ => rfl }⟩
    · intro L s w2 h hk hd hn
      have gq := h.e29 hd.2.1
      have s98 := h.e32 hd.1
      refine stepS (by simp [Region.wanted, yieldS, gq]) fun K hK => ?_
      go_simp
      exact hK _ _ { h with e33 := fun _ => rfl }
    · intro L s w2 h hk hd hn
      have gq := h.e29 hd.2.1
      have s98 := h.e32 hd.1
      refine stepS (by simp [Region.wanted, yieldS, gq]) fun K hK => ?_
      go_simp
      exact hK _ _ { h with e34 := fun _ => rfl }
    · intro L s w2 h hk hd hn
      have gq := h.e29 hd.2.2.2.2.1
      have s99 := h.e33 hd.2.1
      have s100 := h.e34 hd.2.2.1
      obtain ⟨Q, sF, hQ⟩ := h.e30 hd.1
      refine stepS (by simp [Region.wanted, yieldS, gq]) fun K hK => ?_
      go_simp
      refine (law6_refuses1 6 Q _ hQ).mono ?_
      rintro e w3 ⟨rfl, hb⟩
      exact ⟨_, rfl, hK _ _ { h with bel := below_step h.bel hb, e2 := fun d => (h.e2 d).on hb, e12 := fun d => (h.e12 d).on hb, e21 := fun d => (h.e21 d).on hb, e30 := fun d => (h.e30 d).on hb, e39 := fun d => (h.e39 d).on hb, e47 := fun d => (h.e47 d).on hb, e55 := fun d => (h.e55 d).on hb, e35 := fun _ => rfl }⟩
    · intro L s w2 h hk hd hn
      have s95 := h.e29 hd.1
      have s101 := h.e35 hd.2.1
      refine stepS rfl fun K hK => ?_
      go_simp
      exact hK _ _ { h with e36 := fun _ => rfl }
    · intro L s w2 h hk hd hn
      have s102 := h.e36 hd.1
      refine stepS rfl fun K hK => ?_
      go_simp
      exact hK _ _ { h with e37 := fun _ => rfl }
    · intro L s w2 h hk hd hn
      have gq := h.e37 hd.1
      refine stepS (by simp [Region.wanted, yieldS, gq]) fun K hK => ?_
      go_simp
      refine (vx7_38 _).mono ?_
      rintro e w3 ⟨rfl, hb⟩
      exact ⟨_, rfl, hK _ _ { h with bel := below_step h.bel hb, e2 := fun d => (h.e2 d).on hb, e12 := fun d => (h.e12 d).on hb, e21 := fun d => (h.e21 d).on hb, e30 := fun d => (h.e30 d).on hb, e39 := fun d => (h.e39 d).on hb, e47 := fun d => (h.e47 d).on hb, e55 := fun d => (h.e55 d).on hb, e38 := fun _ => rfl }⟩
    · intro L s w2 h hk hd hn
      have gq := h.e37 hd.2.2.1
      have s104 := h.e38 hd.1
      refine stepS (by simp [Region.wanted, yieldS, gq]) fun K hK => ?_
      go_simp
      refine (law6_says (4398046511104, 4398046511104) _).mono ?_
      rintro e w3 ⟨rfl, hb, hB⟩
      exact ⟨_, rfl, hK _ _ { h with bel := below_step h.bel hb, e2 := fun d => (h.e2 d).on hb, e12 := fun d => (h.e12 d).on hb, e21 := fun d => (h.e21 d).on hb, e30 := fun d => (h.e30 d).on hb, e47 := fun d => (h.e47 d).on hb, e55 := fun d => (h.e55 d).on hb, e39 := fun _ => ⟨_, rfl, hB⟩ }⟩
    · intro L s w2 h hk hd hn
      have gq := h.e37 hd.2.1
      refine stepS (by simp [Region.wanted, yieldS, gq]) fun K hK => ?_
      go_simp
      refine (vx7_40 _).mono ?_
      rintro e w3 ⟨rfl, hb⟩
      exact ⟨_, rfl, hK _ _ { h with bel := below_step h.bel hb, e2 := fun d => (h.e2 d).on hb, e12 := fun d => (h.e12 d).on hb, e21 := fun d => (h.e21 d).on hb, e30 := fun d => (h.e30 d).on hb, e39 := fun d => (h.e39 d).on hb, e47 := fun d => (h.e47 d).on hb, e55 := fun d => (h.e55 d).on hb, e40 := fun _ => rfl }⟩
    · intro L s w2 h hk hd hn
      have gq := h.e37 hd.2.2.1
      have s106 := h.e40 hd.1
      refine stepS (by simp [Region.wanted, yieldS, gq]) fun K hK => ?_
      go_simp
      refine (vx7_41 _).mono ?_
      rintro e w3 ⟨rfl, hb⟩
      exact ⟨_, rfl, hK _ _ { h with bel := below_step h.bel hb, e2 := fun d => (h.e2 d).on hb, e12 := fun d => (h.e12 d).on hb, e21 := fun d => (h.e21 d).on hb, e30 := fun d => (h.e30 d).on hb, e39 := fun d => (h.e39 d).on hb, e47 := fun d => (h.e47 d).on hb, e55 := fun d => (h.e55 d).on hb, e41 := fun _ => rfl }⟩
    · intro L s w2 h hk hd hn
      have gq := h.e37 hd.2.1
      have s107 := h.e41 hd.1
      refine stepS (by simp [Region.wanted, yieldS, gq]) fun K hK => ?_
      go_simp
      exact hK _ _ { h with e42 := fun _ => rfl }
    · intro L s w2 h hk hd hn
      have gq := h.e37 hd.2.1
      have s107 := h.e41 hd.1
      refine stepS (by simp [Region.wanted, yieldS, gq]) fun K hK => ?_
      go_simp
      exact hK _ _ { h with e43 := fun _ => rfl }
    · intro L s w2 h hk hd hn
      have gq := h.e37 hd.2.2.2.2.1
      have s108 := h.e42 hd.2.1
      have s109 := h.e43 hd.2.2.1
      obtain ⟨Q, sF, hQ⟩ := h.e39 hd.1
      refine stepS (by simp [Region.wanted, yieldS, gq]) fun K hK => ?_
      go_simp
      refine (law6_says1 (4398046511104, 4398046511104) Q _ hQ).mono ?_
      rintro e w3 ⟨rfl, hb⟩
      exact ⟨_, rfl, hK _ _ { h with bel := below_step h.bel hb, e2 := fun d => (h.e2 d).on hb, e12 := fun d => (h.e12 d).on hb, e21 := fun d => (h.e21 d).on hb, e30 := fun d => (h.e30 d).on hb, e39 := fun d => (h.e39 d).on hb, e47 := fun d => (h.e47 d).on hb, e55 := fun d => (h.e55 d).on hb, e44 := fun _ => rfl }⟩
    · intro L s w2 h hk hd hn
      have s103 := h.e37 hd.1
      have s110 := h.e44 hd.2.1
      refine stepS rfl fun K hK => ?_
      go_simp
      exact hK _ _ { h with e45 := fun _ => rfl }
    · intro L s w2 h hk hd hn
      have s111 := h.e45 hd.1
      refine stepS rfl fun K hK => ?_
      go_simp
      exact hK _ _ { h with e46 := fun _ => rfl }
    · intro L s w2 h hk hd hn
      have gq := h.e46 hd.1
      refine stepS (by simp [Region.wanted, yieldS, gq]) fun K hK => ?_
      go_simp
      refine (law6_refuses 20 _).mono ?_
      rintro e w3 ⟨rfl, hb, hB⟩
      exact ⟨_, rfl, hK _ _ { h with bel := below_step h.bel hb, e2 := fun d => (h.e2 d).on hb, e12 := fun d => (h.e12 d).on hb, e21 := fun d => (h.e21 d).on hb, e30 := fun d => (h.e30 d).on hb, e39 := fun d => (h.e39 d).on hb, e55 := fun d => (h.e55 d).on hb, e47 := fun _ => ⟨_, rfl, hB⟩ }⟩
    · intro L s w2 h hk hd hn
      have gq := h.e46 hd.1
      have s2 : s 2 = _ := hk 2 (by kernel_rfl)
      have b := (h.bel.block _ (lt_of_block HBB.out)).trans HBB.out
      obtain ⟨c0, c1, c2, c3, c4, c5⟩ := vobj_six b
      refine stepS (by simp [Region.wanted, yieldS, gq]) fun K hK => ?_
      go_simp
      exact hK _ _ { h with e48 := fun _ => rfl }
    · intro L s w2 h hk hd hn
      have gq := h.e46 hd.2.2.1
      have s114 := h.e48 hd.1
      refine stepS (by simp [Region.wanted, yieldS, gq]) fun K hK => ?_
      go_simp
      refine (vx7_49 _).mono ?_
      rintro e w3 ⟨rfl, hb⟩
      exact ⟨_, rfl, hK _ _ { h with bel := below_step h.bel hb, e2 := fun d => (h.e2 d).on hb, e12 := fun d => (h.e12 d).on hb, e21 := fun d => (h.e21 d).on hb, e30 := fun d => (h.e30 d).on hb, e39 := fun d => (h.e39 d).on hb, e47 := fun d => (h.e47 d).on hb, e55 := fun d => (h.e55 d).on hb, e49 := fun _ => rfl }⟩
    · intro L s w2 h hk hd hn
      have gq := h.e46 hd.2.1
      have s115 := h.e49 hd.1
      refine stepS (by simp [Region.wanted, yieldS, gq]) fun K hK => ?_
      go_simp
      exact hK _ _ { h with e50 := fun _ => rfl }
    · intro L s w2 h hk hd hn
      have gq := h.e46 hd.2.1
      have s115 := h.e49 hd.1
      refine stepS (by simp [Region.wanted, yieldS, gq]) fun K hK => ?_
      go_simp
      exact hK _ _ { h with e51 := fun _ => rfl }
    · intro L s w2 h hk hd hn
      have gq := h.e46 hd.2.2.2.2.1
      have s116 := h.e50 hd.2.1
      have s117 := h.e51 hd.2.2.1
      obtain ⟨Q, sF, hQ⟩ := h.e47 hd.1
      refine stepS (by simp [Region.wanted, yieldS, gq]) fun K hK => ?_
      go_simp
      refine (law6_refuses1 20 Q _ hQ).mono ?_
      rintro e w3 ⟨rfl, hb⟩
      exact ⟨_, rfl, hK _ _ { h with bel := below_step h.bel hb, e2 := fun d => (h.e2 d).on hb, e12 := fun d => (h.e12 d).on hb, e21 := fun d => (h.e21 d).on hb, e30 := fun d => (h.e30 d).on hb, e39 := fun d => (h.e39 d).on hb, e47 := fun d => (h.e47 d).on hb, e55 := fun d => (h.e55 d).on hb, e52 := fun _ => rfl }⟩
    · intro L s w2 h hk hd hn
      have s112 := h.e46 hd.1
      have s118 := h.e52 hd.2.1
      refine stepS rfl fun K hK => ?_
      go_simp
      exact hK _ _ { h with e53 := fun _ => rfl }
    · intro L s w2 h hk hd hn
      have s119 := h.e53 hd.1
      refine stepS rfl fun K hK => ?_
      go_simp
      exact hK _ _ { h with e54 := fun _ => rfl }
    · intro L s w2 h hk hd hn
      have gq := h.e54 hd.1
      refine stepS (by simp [Region.wanted, yieldS, gq]) fun K hK => ?_
      go_simp
      refine (law6_refuses 20 _).mono ?_
      rintro e w3 ⟨rfl, hb, hB⟩
      exact ⟨_, rfl, hK _ _ { h with bel := below_step h.bel hb, e2 := fun d => (h.e2 d).on hb, e12 := fun d => (h.e12 d).on hb, e21 := fun d => (h.e21 d).on hb, e30 := fun d => (h.e30 d).on hb, e39 := fun d => (h.e39 d).on hb, e47 := fun d => (h.e47 d).on hb, e55 := fun _ => ⟨_, rfl, hB⟩ }⟩
    · intro L s w2 h hk hd hn
      have gq := h.e54 hd.1
      have s2 : s 2 = _ := hk 2 (by kernel_rfl)
      have b := (h.bel.block _ (lt_of_block HBB.out)).trans HBB.out
      obtain ⟨c0, c1, c2, c3, c4, c5⟩ := vobj_six b
      refine stepS (by simp [Region.wanted, yieldS, gq]) fun K hK => ?_
      go_simp
      exact hK _ _ { h with e56 := fun _ => rfl }
    · intro L s w2 h hk hd hn
      have gq := h.e54 hd.1
      have s3 : s 3 = _ := hk 3 (by kernel_rfl)
      have b := (h.bel.block _ (lt_of_block HBO.out)).trans HBO.out
      obtain ⟨c0, c1, c2, c3, c4, c5⟩ := vobj_six b
      refine stepS (by simp [Region.wanted, yieldS, gq]) fun K hK => ?_
      go_simp
      exact hK _ _ { h with e57 := fun _ => rfl }
    · intro L s w2 h hk hd hn
      have gq := h.e54 hd.2.2.2.1
      have s122 := h.e56 hd.1
      have s123 := h.e57 hd.2.1
      refine stepS (by simp [Region.wanted, yieldS, gq]) fun K hK => ?_
      go_simp
      refine (vx7_58 _).mono ?_
      rintro e w3 ⟨rfl, hb⟩
      exact ⟨_, rfl, hK _ _ { h with bel := below_step h.bel hb, e2 := fun d => (h.e2 d).on hb, e12 := fun d => (h.e12 d).on hb, e21 := fun d => (h.e21 d).on hb, e30 := fun d => (h.e30 d).on hb, e39 := fun d => (h.e39 d).on hb, e47 := fun d => (h.e47 d).on hb, e55 := fun d => (h.e55 d).on hb, e58 := fun _ => rfl }⟩
    · intro L s w2 h hk hd hn
      have gq := h.e54 hd.2.1
      have s124 := h.e58 hd.1
      refine stepS (by simp [Region.wanted, yieldS, gq]) fun K hK => ?_
      go_simp
      exact hK _ _ { h with e59 := fun _ => rfl }
    · intro L s w2 h hk hd hn
      have gq := h.e54 hd.2.1
      have s124 := h.e58 hd.1
      refine stepS (by simp [Region.wanted, yieldS, gq]) fun K hK => ?_
      go_simp
      exact hK _ _ { h with e60 := fun _ => rfl }
    · intro L s w2 h hk hd hn
      have gq := h.e54 hd.2.2.2.2.1
      have s125 := h.e59 hd.2.1
      have s126 := h.e60 hd.2.2.1
      obtain ⟨Q, sF, hQ⟩ := h.e55 hd.1
      refine stepS (by simp [Region.wanted, yieldS, gq]) fun K hK => ?_
      go_simp
      refine (law6_refuses1 20 Q _ hQ).mono ?_
      rintro e w3 ⟨rfl, hb⟩
      exact ⟨_, rfl, hK _ _ { h with bel := below_step h.bel hb, e2 := fun d => (h.e2 d).on hb, e12 := fun d => (h.e12 d).on hb, e21 := fun d => (h.e21 d).on hb, e30 := fun d => (h.e30 d).on hb, e39 := fun d => (h.e39 d).on hb, e47 := fun d => (h.e47 d).on hb, e55 := fun d => (h.e55 d).on hb, e61 := fun _ => rfl }⟩
    · intro L s w2 h hk hd hn
      have s120 := h.e54 hd.1
      have s127 := h.e61 hd.2.1
      refine stepS rfl fun K hK => ?_
      go_simp
      exact hK _ _ { h with e62 := fun _ => rfl }
    · intro L s w2 h hk hd hn
      have s128 := h.e62 hd.1
      refine stepS rfl fun K hK => ?_
      go_simp
      exact hK _ _ { h with e63 := fun _ => rfl, o4 := fun d => Bool.noConfusion (show true = false from d), dl := fun _ => hd.2.2.1 }
  intro L s wc h hk hl a ha
  have k1 : s 1 = .pointer (some ⟨M, 0, none⟩) := hk 1 (by kernel_rfl)
  have k2 : s 2 = .pointer (some ⟨B, 0, none⟩) := hk 2 (by kernel_rfl)
  have k3 : s 3 = .pointer (some ⟨O, 0, none⟩) := hk 3 (by kernel_rfl)
  have k4 : s 4 = .bool true := h.e63 (hl 63 (by decide))
  replace ha := ha.trans (show actS _ s [] = ⟨#[s 0, s 1, s 2, s 3, s 4, s 5, s 6, s 7, s 8, s 9, s 10, s 11, s 12, s 13, s 14, s 15, s 16, s 17, s 18, s 19, s 20, s 21, s 22, s 23, s 24, s 25, s 26, s 27, s 28, s 29, s 30, s 31, s 32, s 33, s 34, s 35, s 36, s 37, s 38, s 39, s 40, s 41, s 42, s 43, s 44, s 45, s 46, s 47, s 48, s 49, s 50, s 51, s 52, s 53, s 54, s 55, s 56, s 57, s 58, s 59, s 60, s 61, s 62, s 63, s 64, s 65, s 66, s 67, s 68, s 69, s 70, s 71, s 72, s 73, s 74, s 75, s 76, s 77, s 78, s 79, s 80, s 81, s 82, s 83, s 84, s 85, s 86, s 87, s 88, s 89, s 90, s 91, s 92, s 93, s 94, s 95, s 96, s 97, s 98, s 99, s 100, s 101, s 102, s 103, s 104, s 105, s 106, s 107, s 108, s 109, s 110, s 111, s 112, s 113, s 114, s 115, s 116, s 117, s 118, s 119, s 120, s 121, s 122, s 123, s 124, s 125, s 126, s 127, s 128, s 129, s 130, s 131, s 132, s 133, s 134, s 135, s 136, s 137, s 138, s 139, s 140, s 141, s 142, s 143, s 144, s 145, s 146, s 147, s 148, s 149, s 150, s 151, s 152, s 153, s 154, s 155, s 156, s 157, s 158, s 159, s 160, s 161, s 162, s 163, s 164, s 165, s 166, s 167, s 168, s 169, s 170, s 171, s 172, s 173, s 174, s 175, s 176, s 177, s 178, s 179, s 180, s 181, s 182, s 183, s 184, s 185, s 186, s 187, s 188, s 189, s 190, s 191, s 192, s 193, s 194, s 195, s 196, s 197, s 198, s 199, s 200, s 201, s 202, s 203, s 204, s 205, s 206, s 207, s 208, s 209, s 210, s 211, s 212, s 213, s 214, s 215, s 216, s 217, s 218, s 219, s 220, s 221, s 222, s 223, s 224, s 225], []⟩ by kernel_rfl)
  rw [k1, k2, k3, k4] at ha
  subst ha
  replace HK := Lib.hid (HK.out.on h.bel)
  clear h hk hl k1 k2 k3 k4 HBO HBB HBM
  go_upto_region 8 with (fail)
  have HBO := Lib.hid (HK.out.blk (O, vobj (vl (((-4503599627370496), 4503599627370496), ((-4503599627370496), 4503599627370496), ((-4503599627370496), 4503599627370496)))) (.head _))
  have HBB := Lib.hid (HK.out.blk (B, vobj (vl ((0, 0), (0, 0), (1, 0)))) (.tail _ (.head _)))
  have HBM := Lib.hid (HK.out.blk (M, .cells #[.int .i64 (-4503599627370496), .int .i64 4503599627370496] 23 (0, 0)) (.tail _ (.tail _ (.head _))))
  refine wp_region_go (Vx8 wc M B O) (by kernel_rfl) (by kernel_rfl) ?_ ?_ ?_
  · exact ⟨(Below.refl _ _).drew, fun _ => rfl, fun h => absurd h Bool.false_ne_true, fun h => absurd h Bool.false_ne_true, fun h => absurd h Bool.false_ne_true, fun h => absurd h Bool.false_ne_true, fun h => absurd h Bool.false_ne_true, fun h => absurd h Bool.false_ne_true, fun h => absurd h Bool.false_ne_true, fun h => absurd h Bool.false_ne_true, fun h => absurd h Bool.false_ne_true, fun h => absurd h Bool.false_ne_true, fun h => absurd h Bool.false_ne_true, fun h => absurd h Bool.false_ne_true, fun h => absurd h Bool.false_ne_true, fun h => absurd h Bool.false_ne_true, fun h => absurd h Bool.false_ne_true, fun h => absurd h Bool.false_ne_true, fun h => absurd h Bool.false_ne_true, fun h => absurd h Bool.false_ne_true, fun h => absurd h Bool.false_ne_true, fun h => absurd h Bool.false_ne_true, fun h => absurd h Bool.false_ne_true, fun h => absurd h Bool.false_ne_true, fun h => absurd h Bool.false_ne_true, fun h => absurd h Bool.false_ne_true, fun h => absurd h Bool.false_ne_true, fun h => absurd h Bool.false_ne_true, fun h => absurd h Bool.false_ne_true, fun h => absurd h Bool.false_ne_true, fun h => absurd h Bool.false_ne_true, fun h => absurd h Bool.false_ne_true, fun h => absurd h Bool.false_ne_true, fun h => absurd h Bool.false_ne_true, fun h => absurd h Bool.false_ne_true, fun h => absurd h Bool.false_ne_true, fun h => absurd h Bool.false_ne_true, fun h => absurd h Bool.false_ne_true, fun h => absurd h Bool.false_ne_true, fun h => absurd h Bool.false_ne_true, fun h => absurd h Bool.false_ne_true, fun h => absurd h Bool.false_ne_true, fun h => absurd h Bool.false_ne_true, fun h => absurd h Bool.false_ne_true, fun h => absurd h Bool.false_ne_true, fun h => absurd h Bool.false_ne_true, fun h => absurd h Bool.false_ne_true, fun h => absurd h Bool.false_ne_true, fun h => absurd h Bool.false_ne_true, fun h => absurd h Bool.false_ne_true, fun h => absurd h Bool.false_ne_true⟩
  · refine AllS.consN 1 (some 129) rfl rfl ?_ (AllS.consN 2 (some 130) rfl rfl ?_ (AllS.consN 3 (some 131) rfl rfl ?_ (AllS.consN 4 (some 132) rfl rfl ?_ (AllS.consN 5 (some 133) rfl rfl ?_ (AllS.consN 6 (some 134) rfl rfl ?_ (AllS.consN 7 (some 135) rfl rfl ?_ (AllS.consN 8 (some 136) rfl rfl ?_ (AllS.consN 9 (some 137) rfl rfl ?_ (AllS.consN 10 (some 138) rfl rfl ?_ (AllS.consN 11 (some 139) rfl rfl ?_ (AllS.consN 12 (some 140) rfl rfl ?_ (AllS.consN 13 (some 141) rfl rfl ?_ (AllS.consN 14 (some 142) rfl rfl ?_ (AllS.consN 15 (some 143) rfl rfl ?_ (AllS.consN 16 (some 144) rfl rfl ?_ (AllS.consN 17 (some 145) rfl rfl ?_ (AllS.consN 18 (some 146) rfl rfl ?_ (AllS.consN 19 (some 147) rfl rfl ?_ (AllS.consN 20 (some 148) rfl rfl ?_ (AllS.consN 21 (some 149) rfl rfl ?_ (AllS.consN 22 (some 150) rfl rfl ?_ (AllS.consN 23 (some 151) rfl rfl ?_ (AllS.consN 24 (some 152) rfl rfl ?_ (AllS.consN 25 (some 153) rfl rfl ?_ (AllS.consN 26 (some 154) rfl rfl ?_ (AllS.consN 27 (some 155) rfl rfl ?_ (AllS.consN 28 (some 156) rfl rfl ?_ (AllS.consN 29 (some 157) rfl rfl ?_ (AllS.consN 30 (some 158) rfl rfl ?_ (AllS.consN 31 (some 159) rfl rfl ?_ (AllS.consN 32 (some 160) rfl rfl ?_ (AllS.consN 33 (some 161) rfl rfl ?_ (AllS.consN 34 (some 162) rfl rfl ?_ (AllS.consN 35 (some 163) rfl rfl ?_ (AllS.consN 36 (some 164) rfl rfl ?_ (AllS.consN 37 (some 165) rfl rfl ?_ (AllS.consN 38 (some 166) rfl rfl ?_ (AllS.consN 39 (some 167) rfl rfl ?_ (AllS.consN 40 (some 168) rfl rfl ?_ (AllS.consN 41 (some 169) rfl rfl ?_ (AllS.consN 42 (some 170) rfl rfl ?_ (AllS.consN 43 (some 171) rfl rfl ?_ (AllS.consN 44 (some 172) rfl rfl ?_ (AllS.consN 45 (some 173) rfl rfl ?_ (AllS.consN 46 (some 174) rfl rfl ?_ (AllS.consN 47 (some 175) rfl rfl ?_ (AllS.consN 48 (some 4) rfl rfl ?_ AllS.nil)))))))))))))))))))))))))))))))))))))))))))))))
    · intro L s w2 h hk hd hn
      have s4 : s 4 = .bool true := h.o4 (by
            cases hx : L 47
            · rfl
            · exact absurd (h.dl hx) (by rw [hn]; exact Bool.false_ne_true))
      refine stepS rfl fun K hK => ?_
      go_simp
      exact hK _ _ { h with e0 := fun _ => rfl, dl := fun _ => rfl }
    · intro L s w2 h hk hd hn
      have s129 := h.e0 hd.1
      refine stepS rfl fun K hK => ?_
      go_simp
      exact hK _ _ { h with e1 := fun _ => rfl }
    · intro L s w2 h hk hd hn
      have gq := h.e1 hd.1
      refine stepS (by simp [Region.wanted, yieldS, gq]) fun K hK => ?_
      go_simp
      refine (law6_fails 6 _).mono ?_
      rintro e w3 ⟨rfl, hb, hB⟩
      exact ⟨_, rfl, hK _ _ { h with bel := below_step h.bel hb, e10 := fun d => (h.e10 d).on hb, e19 := fun d => (h.e19 d).on hb, e28 := fun d => (h.e28 d).on hb, e37 := fun d => (h.e37 d).on hb, e2 := fun _ => ⟨_, rfl, hB⟩ }⟩
    · intro L s w2 h hk hd hn
      have gq := h.e1 hd.2.1
      refine stepS (by simp [Region.wanted, yieldS, gq]) fun K hK => ?_
      go_simp
      refine (vx8_3 _).mono ?_
      rintro e w3 ⟨rfl, hb⟩
      exact ⟨_, rfl, hK _ _ { h with bel := below_step h.bel hb, e2 := fun d => (h.e2 d).on hb, e10 := fun d => (h.e10 d).on hb, e19 := fun d => (h.e19 d).on hb, e28 := fun d => (h.e28 d).on hb, e37 := fun d => (h.e37 d).on hb, e3 := fun _ => rfl }⟩
    · intro L s w2 h hk hd hn
      have gq := h.e1 hd.2.2.1
      have s132 := h.e3 hd.1
      refine stepS (by simp [Region.wanted, yieldS, gq]) fun K hK => ?_
      go_simp
      refine (vx8_4 _).mono ?_
      rintro e w3 ⟨rfl, hb⟩
      exact ⟨_, rfl, hK _ _ { h with bel := below_step h.bel hb, e2 := fun d => (h.e2 d).on hb, e10 := fun d => (h.e10 d).on hb, e19 := fun d => (h.e19 d).on hb, e28 := fun d => (h.e28 d).on hb, e37 := fun d => (h.e37 d).on hb, e4 := fun _ => rfl }⟩
    · intro L s w2 h hk hd hn
      have gq := h.e1 hd.2.1
      have s133 := h.e4 hd.1
      refine stepS (by simp [Region.wanted, yieldS, gq]) fun K hK => ?_
      go_simp
      exact hK _ _ { h with e5 := fun _ => rfl }
    · intro L s w2 h hk hd hn
      have gq := h.e1 hd.2.1
      have s133 := h.e4 hd.1
      refine stepS (by simp [Region.wanted, yieldS, gq]) fun K hK => ?_
      go_simp
      exact hK _ _ { h with e6 := fun _ => rfl }
    · intro L s w2 h hk hd hn
      have gq := h.e1 hd.2.2.2.2.1
      have s134 := h.e5 hd.2.1
      have s135 := h.e6 hd.2.2.1
      obtain ⟨Q, sF, hQ⟩ := h.e2 hd.1
      refine stepS (by simp [Region.wanted, yieldS, gq]) fun K hK => ?_
      go_simp
      refine (law6_fails1 6 Q _ hQ).mono ?_
      rintro e w3 ⟨rfl, hb⟩
      exact ⟨_, rfl, hK _ _ { h with bel := below_step h.bel hb, e2 := fun d => (h.e2 d).on hb, e10 := fun d => (h.e10 d).on hb, e19 := fun d => (h.e19 d).on hb, e28 := fun d => (h.e28 d).on hb, e37 := fun d => (h.e37 d).on hb, e7 := fun _ => rfl }⟩
    · intro L s w2 h hk hd hn
      have s130 := h.e1 hd.1
      have s136 := h.e7 hd.2.1
      refine stepS rfl fun K hK => ?_
      go_simp
      exact hK _ _ { h with e8 := fun _ => rfl }
    · intro L s w2 h hk hd hn
      have s137 := h.e8 hd.1
      refine stepS rfl fun K hK => ?_
      go_simp
      exact hK _ _ { h with e9 := fun _ => rfl }
    · intro L s w2 h hk hd hn
      have gq := h.e9 hd.1
      refine stepS (by simp [Region.wanted, yieldS, gq]) fun K hK => ?_
      go_simp
      refine (law6_fails 7 _).mono ?_
      rintro e w3 ⟨rfl, hb, hB⟩
      exact ⟨_, rfl, hK _ _ { h with bel := below_step h.bel hb, e2 := fun d => (h.e2 d).on hb, e19 := fun d => (h.e19 d).on hb, e28 := fun d => (h.e28 d).on hb, e37 := fun d => (h.e37 d).on hb, e10 := fun _ => ⟨_, rfl, hB⟩ }⟩
    · intro L s w2 h hk hd hn
      have gq := h.e9 hd.1
      refine stepS (by simp [Region.wanted, yieldS, gq]) fun K hK => ?_
      go_simp
      exact hK _ _ { h with e11 := fun _ => rfl }
    · intro L s w2 h hk hd hn
      have gq := h.e9 hd.2.1
      have s140 := h.e11 hd.1
      refine stepS (by simp [Region.wanted, yieldS, gq]) fun K hK => ?_
      go_simp
      exact hK _ _ { h with e12 := fun _ => rfl }
    · intro L s w2 h hk hd hn
      have gq := h.e9 hd.2.2.1
      have s141 := h.e12 hd.1
      refine stepS (by simp [Region.wanted, yieldS, gq]) fun K hK => ?_
      go_simp
      refine (vx8_13 _).mono ?_
      rintro e w3 ⟨rfl, hb⟩
      exact ⟨_, rfl, hK _ _ { h with bel := below_step h.bel hb, e2 := fun d => (h.e2 d).on hb, e10 := fun d => (h.e10 d).on hb, e19 := fun d => (h.e19 d).on hb, e28 := fun d => (h.e28 d).on hb, e37 := fun d => (h.e37 d).on hb, e13 := fun _ => rfl }⟩
    · intro L s w2 h hk hd hn
      have gq := h.e9 hd.2.1
      have s142 := h.e13 hd.1
      refine stepS (by simp [Region.wanted, yieldS, gq]) fun K hK => ?_
      go_simp
      exact hK _ _ { h with e14 := fun _ => rfl }
    · intro L s w2 h hk hd hn
      have gq := h.e9 hd.2.1
      have s142 := h.e13 hd.1
      refine stepS (by simp [Region.wanted, yieldS, gq]) fun K hK => ?_
      go_simp
      exact hK _ _ { h with e15 := fun _ => rfl }
    · intro L s w2 h hk hd hn
      have gq := h.e9 hd.2.2.2.2.1
      have s143 := h.e14 hd.2.1
      have s144 := h.e15 hd.2.2.1
      obtain ⟨Q, sF, hQ⟩ := h.e10 hd.1
      refine stepS (by simp [Region.wanted, yieldS, gq]) fun K hK => ?_
      go_simp
      refine (law6_fails1 7 Q _ hQ).mono ?_
      rintro e w3 ⟨rfl, hb⟩
      exact ⟨_, rfl, hK _ _ { h with bel := below_step h.bel hb, e2 := fun d => (h.e2 d).on hb, e10 := fun d => (h.e10 d).on hb, e19 := fun d => (h.e19 d).on hb, e28 := fun d => (h.e28 d).on hb, e37 := fun d => (h.e37 d).on hb, e16 := fun _ => rfl }⟩
    · intro L s w2 h hk hd hn
      have s138 := h.e9 hd.1
      have s145 := h.e16 hd.2.1
      refine stepS rfl fun K hK => ?_
      go_simp
      exact hK _ _ { h with e17 := fun _ => rfl }
    · intro L s w2 h hk hd hn
      have s146 := h.e17 hd.1
      refine stepS rfl fun K hK => ?_
      go_simp
      exact hK _ _ { h with e18 := fun _ => rfl }
    · intro L s w2 h hk hd hn
      have gq := h.e18 hd.1
      refine stepS (by simp [Region.wanted, yieldS, gq]) fun K hK => ?_
      go_simp
      refine (law6_fails 20 _).mono ?_
      rintro e w3 ⟨rfl, hb, hB⟩
      exact ⟨_, rfl, hK _ _ { h with bel := below_step h.bel hb, e2 := fun d => (h.e2 d).on hb, e10 := fun d => (h.e10 d).on hb, e28 := fun d => (h.e28 d).on hb, e37 := fun d => (h.e37 d).on hb, e19 := fun _ => ⟨_, rfl, hB⟩ }⟩
    · intro L s w2 h hk hd hn
      have gq := h.e18 hd.1
      have s2 : s 2 = _ := hk 2 (by kernel_rfl)
      have b := (h.bel.block _ (lt_of_block HBB.out)).trans HBB.out
      obtain ⟨c0, c1, c2, c3, c4, c5⟩ := vobj_six b
      refine stepS (by simp [Region.wanted, yieldS, gq]) fun K hK => ?_
      go_simp
      exact hK _ _ { h with e20 := fun _ => rfl }
    · intro L s w2 h hk hd hn
      have gq := h.e18 hd.2.2.1
      have s149 := h.e20 hd.1
      refine stepS (by simp [Region.wanted, yieldS, gq]) fun K hK => ?_
      go_simp
      refine (vx8_21 _).mono ?_
      rintro e w3 ⟨rfl, hb⟩
      exact ⟨_, rfl, hK _ _ { h with bel := below_step h.bel hb, e2 := fun d => (h.e2 d).on hb, e10 := fun d => (h.e10 d).on hb, e19 := fun d => (h.e19 d).on hb, e28 := fun d => (h.e28 d).on hb, e37 := fun d => (h.e37 d).on hb, e21 := fun _ => rfl }⟩
    · intro L s w2 h hk hd hn
      have gq := h.e18 hd.2.1
      have s150 := h.e21 hd.1
      refine stepS (by simp [Region.wanted, yieldS, gq]) fun K hK => ?_
      go_simp
      exact hK _ _ { h with e22 := fun _ => rfl }
    · intro L s w2 h hk hd hn
      have gq := h.e18 hd.2.1
      have s150 := h.e21 hd.1
      refine stepS (by simp [Region.wanted, yieldS, gq]) fun K hK => ?_
      go_simp
      exact hK _ _ { h with e23 := fun _ => rfl }
    · intro L s w2 h hk hd hn
      have gq := h.e18 hd.2.2.2.2.1
      have s151 := h.e22 hd.2.1
      have s152 := h.e23 hd.2.2.1
      obtain ⟨Q, sF, hQ⟩ := h.e19 hd.1
      refine stepS (by simp [Region.wanted, yieldS, gq]) fun K hK => ?_
      go_simp
      refine (law6_fails1 20 Q _ hQ).mono ?_
      rintro e w3 ⟨rfl, hb⟩
      exact ⟨_, rfl, hK _ _ { h with bel := below_step h.bel hb, e2 := fun d => (h.e2 d).on hb, e10 := fun d => (h.e10 d).on hb, e19 := fun d => (h.e19 d).on hb, e28 := fun d => (h.e28 d).on hb, e37 := fun d => (h.e37 d).on hb, e24 := fun _ => rfl }⟩
    · intro L s w2 h hk hd hn
      have s147 := h.e18 hd.1
      have s153 := h.e24 hd.2.1
      refine stepS rfl fun K hK => ?_
      go_simp
      exact hK _ _ { h with e25 := fun _ => rfl }
    · intro L s w2 h hk hd hn
      have s154 := h.e25 hd.1
      refine stepS rfl fun K hK => ?_
      go_simp
      exact hK _ _ { h with e26 := fun _ => rfl }
    · intro L s w2 h hk hd hn
      have gq := h.e26 hd.1
      refine stepS (by simp [Region.wanted, yieldS, gq]) fun K hK => ?_
      go_simp
      refine (vx8_27 _).mono ?_
      rintro e w3 ⟨rfl, hb⟩
      exact ⟨_, rfl, hK _ _ { h with bel := below_step h.bel hb, e2 := fun d => (h.e2 d).on hb, e10 := fun d => (h.e10 d).on hb, e19 := fun d => (h.e19 d).on hb, e28 := fun d => (h.e28 d).on hb, e37 := fun d => (h.e37 d).on hb, e27 := fun _ => rfl }⟩
    · intro L s w2 h hk hd hn
      have gq := h.e26 hd.2.2.1
      have s156 := h.e27 hd.1
      refine stepS (by simp [Region.wanted, yieldS, gq]) fun K hK => ?_
      go_simp
      refine (law6_is ((4294967296, 4294967296), (0, 0), (0, 0)) _).mono ?_
      rintro e w3 ⟨rfl, hb, hB⟩
      exact ⟨_, rfl, hK _ _ { h with bel := below_step h.bel hb, e2 := fun d => (h.e2 d).on hb, e10 := fun d => (h.e10 d).on hb, e19 := fun d => (h.e19 d).on hb, e37 := fun d => (h.e37 d).on hb, e28 := fun _ => ⟨_, rfl, hB⟩ }⟩
    · intro L s w2 h hk hd hn
      have gq := h.e26 hd.2.1
      refine stepS (by simp [Region.wanted, yieldS, gq]) fun K hK => ?_
      go_simp
      refine (vx8_29 _).mono ?_
      rintro e w3 ⟨rfl, hb⟩
      exact ⟨_, rfl, hK _ _ { h with bel := below_step h.bel hb, e2 := fun d => (h.e2 d).on hb, e10 := fun d => (h.e10 d).on hb, e19 := fun d => (h.e19 d).on hb, e28 := fun d => (h.e28 d).on hb, e37 := fun d => (h.e37 d).on hb, e29 := fun _ => rfl }⟩
    · intro L s w2 h hk hd hn
      have gq := h.e26 hd.2.2.1
      have s158 := h.e29 hd.1
      refine stepS (by simp [Region.wanted, yieldS, gq]) fun K hK => ?_
      go_simp
      refine (vx8_30 _).mono ?_
      rintro e w3 ⟨rfl, hb⟩
      exact ⟨_, rfl, hK _ _ { h with bel := below_step h.bel hb, e2 := fun d => (h.e2 d).on hb, e10 := fun d => (h.e10 d).on hb, e19 := fun d => (h.e19 d).on hb, e28 := fun d => (h.e28 d).on hb, e37 := fun d => (h.e37 d).on hb, e30 := fun _ => rfl }⟩
    · intro L s w2 h hk hd hn
      have gq := h.e26 hd.2.1
      have s159 := h.e30 hd.1
      refine stepS (by simp [Region.wanted, yieldS, gq]) fun K hK => ?_
      go_simp
      exact hK _ _ { h with e31 := fun _ => rfl }
    · intro L s w2 h hk hd hn
      have gq := h.e26 hd.2.1
      have s159 := h.e30 hd.1
      refine stepS (by simp [Region.wanted, yieldS, gq]) fun K hK => ?_
      go_simp
      exact hK _ _ { h with e32 := fun _ => rfl }
    · intro L s w2 h hk hd hn
      have gq := h.e26 hd.2.2.2.2.1
      have s160 := h.e31 hd.2.1
      have s161 := h.e32 hd.2.2.1
      obtain ⟨Q, sF, hQ⟩ := h.e28 hd.1
      refine stepS (by simp [Region.wanted, yieldS, gq]) fun K hK => ?_
      go_simp
      refine (law6_is1 ((4294967296, 4294967296), (0, 0), (0, 0)) Q _ hQ).mono ?_
      rintro e w3 ⟨rfl, hb⟩
      exact ⟨_, rfl, hK _ _ { h with bel := below_step h.bel hb, e2 := fun d => (h.e2 d).on hb, e10 := fun d => (h.e10 d).on hb, e19 := fun d => (h.e19 d).on hb, e28 := fun d => (h.e28 d).on hb, e37 := fun d => (h.e37 d).on hb, e33 := fun _ => rfl }⟩
    · intro L s w2 h hk hd hn
      have s155 := h.e26 hd.1
      have s162 := h.e33 hd.2.1
      refine stepS rfl fun K hK => ?_
      go_simp
      exact hK _ _ { h with e34 := fun _ => rfl }
    · intro L s w2 h hk hd hn
      have s163 := h.e34 hd.1
      refine stepS rfl fun K hK => ?_
      go_simp
      exact hK _ _ { h with e35 := fun _ => rfl }
    · intro L s w2 h hk hd hn
      have gq := h.e35 hd.1
      refine stepS (by simp [Region.wanted, yieldS, gq]) fun K hK => ?_
      go_simp
      exact hK _ _ { h with e36 := fun _ => rfl }
    · intro L s w2 h hk hd hn
      have gq := h.e35 hd.2.1
      have s165 := h.e36 hd.1
      refine stepS (by simp [Region.wanted, yieldS, gq]) fun K hK => ?_
      go_simp
      refine (law6_says ((-2), 2) _).mono ?_
      rintro e w3 ⟨rfl, hb, hB⟩
      exact ⟨_, rfl, hK _ _ { h with bel := below_step h.bel hb, e2 := fun d => (h.e2 d).on hb, e10 := fun d => (h.e10 d).on hb, e19 := fun d => (h.e19 d).on hb, e28 := fun d => (h.e28 d).on hb, e37 := fun _ => ⟨_, rfl, hB⟩ }⟩
    · intro L s w2 h hk hd hn
      have gq := h.e35 hd.1
      refine stepS (by simp [Region.wanted, yieldS, gq]) fun K hK => ?_
      go_simp
      exact hK _ _ { h with e38 := fun _ => rfl }
    · intro L s w2 h hk hd hn
      have gq := h.e35 hd.1
      refine stepS (by simp [Region.wanted, yieldS, gq]) fun K hK => ?_
      go_simp
      exact hK _ _ { h with e39 := fun _ => rfl }
    · intro L s w2 h hk hd hn
      have gq := h.e35 hd.2.2.1
      have s167 := h.e38 hd.1
      have s168 := h.e39 hd.2.1
      refine stepS (by simp [Region.wanted, yieldS, gq]) fun K hK => ?_
      go_simp
      exact hK _ _ { h with e40 := fun _ => rfl }
    · intro L s w2 h hk hd hn
      have gq := h.e35 hd.2.1
      refine stepS (by simp [Region.wanted, yieldS, gq]) fun K hK => ?_
      go_simp
      refine (vx8_41 _).mono ?_
      rintro e w3 ⟨rfl, hb⟩
      exact ⟨_, rfl, hK _ _ { h with bel := below_step h.bel hb, e2 := fun d => (h.e2 d).on hb, e10 := fun d => (h.e10 d).on hb, e19 := fun d => (h.e19 d).on hb, e28 := fun d => (h.e28 d).on hb, e37 := fun d => (h.e37 d).on hb, e41 := fun _ => rfl }⟩
    · intro L s w2 h hk hd hn
      have gq := h.e35 hd.2.2.2.1
      have s169 := h.e40 hd.1
      have s170 := h.e41 hd.2.1
      refine stepS (by simp [Region.wanted, yieldS, gq]) fun K hK => ?_
      go_simp
      refine (vx8_42 _).mono ?_
      rintro e w3 ⟨rfl, hb⟩
      exact ⟨_, rfl, hK _ _ { h with bel := below_step h.bel hb, e2 := fun d => (h.e2 d).on hb, e10 := fun d => (h.e10 d).on hb, e19 := fun d => (h.e19 d).on hb, e28 := fun d => (h.e28 d).on hb, e37 := fun d => (h.e37 d).on hb, e42 := fun _ => rfl }⟩
    · intro L s w2 h hk hd hn
      have gq := h.e35 hd.2.1
      have s171 := h.e42 hd.1
      refine stepS (by simp [Region.wanted, yieldS, gq]) fun K hK => ?_
      go_simp
      exact hK _ _ { h with e43 := fun _ => rfl }
    · intro L s w2 h hk hd hn
      have gq := h.e35 hd.2.1
      have s171 := h.e42 hd.1
      refine stepS (by simp [Region.wanted, yieldS, gq]) fun K hK => ?_
      go_simp
      exact hK _ _ { h with e44 := fun _ => rfl }
    · intro L s w2 h hk hd hn
      have gq := h.e35 hd.2.2.2.2.1
      have s172 := h.e43 hd.2.1
      have s173 := h.e44 hd.2.2.1
      obtain ⟨Q, sF, hQ⟩ := h.e37 hd.1
      refine stepS (by simp [Region.wanted, yieldS, gq]) fun K hK => ?_
      go_simp
      refine (law6_says1 ((-2), 2) Q _ hQ).mono ?_
      rintro e w3 ⟨rfl, hb⟩
      exact ⟨_, rfl, hK _ _ { h with bel := below_step h.bel hb, e2 := fun d => (h.e2 d).on hb, e10 := fun d => (h.e10 d).on hb, e19 := fun d => (h.e19 d).on hb, e28 := fun d => (h.e28 d).on hb, e37 := fun d => (h.e37 d).on hb, e45 := fun _ => rfl }⟩
    · intro L s w2 h hk hd hn
      have s164 := h.e35 hd.1
      have s174 := h.e45 hd.2.1
      refine stepS rfl fun K hK => ?_
      go_simp
      exact hK _ _ { h with e46 := fun _ => rfl }
    · intro L s w2 h hk hd hn
      have s175 := h.e46 hd.1
      refine stepS rfl fun K hK => ?_
      go_simp
      exact hK _ _ { h with e47 := fun _ => rfl, o4 := fun d => Bool.noConfusion (show true = false from d), dl := fun _ => hd.2.2.1 }
  intro L s wc h hk hl a ha
  have k1 : s 1 = .pointer (some ⟨M, 0, none⟩) := hk 1 (by kernel_rfl)
  have k2 : s 2 = .pointer (some ⟨B, 0, none⟩) := hk 2 (by kernel_rfl)
  have k3 : s 3 = .pointer (some ⟨O, 0, none⟩) := hk 3 (by kernel_rfl)
  have k4 : s 4 = .bool true := h.e47 (hl 47 (by decide))
  replace ha := ha.trans (show actS _ s [] = ⟨#[s 0, s 1, s 2, s 3, s 4, s 5, s 6, s 7, s 8, s 9, s 10, s 11, s 12, s 13, s 14, s 15, s 16, s 17, s 18, s 19, s 20, s 21, s 22, s 23, s 24, s 25, s 26, s 27, s 28, s 29, s 30, s 31, s 32, s 33, s 34, s 35, s 36, s 37, s 38, s 39, s 40, s 41, s 42, s 43, s 44, s 45, s 46, s 47, s 48, s 49, s 50, s 51, s 52, s 53, s 54, s 55, s 56, s 57, s 58, s 59, s 60, s 61, s 62, s 63, s 64, s 65, s 66, s 67, s 68, s 69, s 70, s 71, s 72, s 73, s 74, s 75, s 76, s 77, s 78, s 79, s 80, s 81, s 82, s 83, s 84, s 85, s 86, s 87, s 88, s 89, s 90, s 91, s 92, s 93, s 94, s 95, s 96, s 97, s 98, s 99, s 100, s 101, s 102, s 103, s 104, s 105, s 106, s 107, s 108, s 109, s 110, s 111, s 112, s 113, s 114, s 115, s 116, s 117, s 118, s 119, s 120, s 121, s 122, s 123, s 124, s 125, s 126, s 127, s 128, s 129, s 130, s 131, s 132, s 133, s 134, s 135, s 136, s 137, s 138, s 139, s 140, s 141, s 142, s 143, s 144, s 145, s 146, s 147, s 148, s 149, s 150, s 151, s 152, s 153, s 154, s 155, s 156, s 157, s 158, s 159, s 160, s 161, s 162, s 163, s 164, s 165, s 166, s 167, s 168, s 169, s 170, s 171, s 172, s 173, s 174, s 175, s 176, s 177, s 178, s 179, s 180, s 181, s 182, s 183, s 184, s 185, s 186, s 187, s 188, s 189, s 190, s 191, s 192, s 193, s 194, s 195, s 196, s 197, s 198, s 199, s 200, s 201, s 202, s 203, s 204, s 205, s 206, s 207, s 208, s 209, s 210, s 211, s 212, s 213, s 214, s 215, s 216, s 217, s 218, s 219, s 220, s 221, s 222, s 223, s 224, s 225], []⟩ by kernel_rfl)
  rw [k1, k2, k3, k4] at ha
  subst ha
  replace HK := Lib.hid (HK.out.on h.bel)
  clear h hk hl k1 k2 k3 k4 HBO HBB HBM
  go_upto_region 9 with (fail)
  have hK := HK.out.sub (cs := []) (by simp)
  clear HK
  go_wp2_with fail
  refine (law6_of (-3) (6) (-3) (by decide) (by decide) (by decide) _).mono ?_; rintro e w1 ⟨rfl, hb⟩
  replace hK := hK.on hb
  go_wp2_with fail
  refine (law6_is ((-12884901888, -12884901888), (25769803776, 25769803776), (-12884901888, -12884901888)) _).mono ?_; rintro e w1 ⟨rfl, hb, hB⟩
  replace hK := hK.put hb hB
  go_wp2_with fail
  refine (law6_of (1) (2) (3) (by decide) (by decide) (by decide) _).mono ?_; rintro e w1 ⟨rfl, hb⟩
  replace hK := hK.on hb
  go_wp2_with fail
  refine (law6_of (4) (5) (6) (by decide) (by decide) (by decide) _).mono ?_; rintro e w1 ⟨rfl, hb⟩
  replace hK := hK.on hb
  go_wp2_with fail
  refine (vCrossK ((4294967296, 4294967296), (8589934592, 8589934592), (12884901888, 12884901888)) ((17179869184, 17179869184), (21474836480, 21474836480), (25769803776, 25769803776)) ((-12884901888, -12884901888), (25769803776, 25769803776), (-12884901888, -12884901888)) 0 k9_0 _).mono ?_; rintro e w1 ⟨rfl, hb⟩
  replace hK := hK.on hb
  go_wp2_with fail
  refine (law6_is1 ((-12884901888, -12884901888), (25769803776, 25769803776), (-12884901888, -12884901888)) _ _ (hK.blk _ (by first | exact List.mem_cons_self .. | simp))).mono ?_; rintro e w1 ⟨rfl, hb⟩
  replace hK := (hK.on hb).sub (cs := []) (by simp)
  go_wp2_with fail
  refine (law6_is ((0, 0), (0, 0), (-8589934592, 8589934592)) _).mono ?_; rintro e w1 ⟨rfl, hb, hB⟩
  replace hK := hK.put hb hB
  go_wp2_with fail
  refine (law6_of (0) (2) (0) (by decide) (by decide) (by decide) _).mono ?_; rintro e w1 ⟨rfl, hb⟩
  replace hK := hK.on hb
  go_wp2_with fail
  refine (vCrossK ((-4294967296, 4294967296), (0, 0), (0, 0)) ((0, 0), (8589934592, 8589934592), (0, 0)) ((0, 0), (0, 0), (-8589934592, 8589934592)) 0 k9_1 _).mono ?_; rintro e w1 ⟨rfl, hb⟩
  replace hK := hK.on hb
  go_wp2_with fail
  refine (law6_is1 ((0, 0), (0, 0), (-8589934592, 8589934592)) _ _ (hK.blk _ (by first | exact List.mem_cons_self .. | simp))).mono ?_; rintro e w1 ⟨rfl, hb⟩
  replace hK := (hK.on hb).sub (cs := []) (by simp)
  go_upto_region 12 with (fail)
  have hw : Dw.wf ((-9223372036854775808, 0, 0), (0, 255, 0), (0, 0, 4294967295)) := by simp [Dw.wf, Dn.wf]
  obtain ⟨rV, HV⟩ : ∃ r, Hid (drV ((-9223372036854775808, 0, 0), (0, 255, 0), (0, 0, 4294967295)) = r) := ⟨_, Lib.hid rfl⟩
  obtain ⟨rS, HS⟩ : ∃ r, Hid (drS ((-9223372036854775808, 0, 0), (0, 255, 0), (0, 0, 4294967295)) = r) := ⟨_, Lib.hid rfl⟩
  have HCV := Lib.hid (fun W => draft6_Vec ((-9223372036854775808, 0, 0), (0, 255, 0), (0, 0, 4294967295)) hw W)
  have HCS := Lib.hid (fun W => draft6_Small ((-9223372036854775808, 0, 0), (0, 255, 0), (0, 0, 4294967295)) hw W)
  have HKV := Lib.hid (vNote_ok (drV_ok hw))
  have HKS := Lib.hid (vNote_ok (drS_ok hw))
  rw [HV.out] at HCV HKV
  rw [HS.out] at HCS HKS
  clear hw HV HS
  replace hK : Kv w (w1.alloc (.cells #[.int .i64 (-9223372036854775808), .int .u8 0, .int .u32 0, .int .i64 0, .int .u8 255, .int .u32 0, .int .i64 0, .int .u8 0, .int .u32 4294967295] 30)) [(w1.heap.size, .cells #[.int .i64 (-9223372036854775808), .int .u8 0, .int .u32 0, .int .i64 0, .int .u8 255, .int .u32 0, .int .i64 0, .int .u8 0, .int .u32 4294967295] 30 (0, 0))] := hK.al (.cells #[.int .i64 (-9223372036854775808), .int .u8 0, .int .u32 0, .int .i64 0, .int .u8 255, .int .u32 0, .int .i64 0, .int .u8 0, .int .u32 4294967295] 30 (0, 0)) (n := w1.heap.size) rfl
  go_wp2_with fail
  refine (law6_works _).mono ?_; rintro e w2 ⟨rfl, hb⟩
  replace hK := hK.on hb
  clear hb
  have b := hK.blk _ (List.Mem.head _)
  have lb := lt_of_block b
  have b0 := cell_of_row _ _ 0 _ _ _ b
  have b1 := cell_of_row _ _ 1 _ _ _ b
  have b2 := cell_of_row _ _ 2 _ _ _ b
  have b3 := cell_of_row _ _ 3 _ _ _ b
  have b4 := cell_of_row _ _ 4 _ _ _ b
  have b5 := cell_of_row _ _ 5 _ _ _ b
  have b6 := cell_of_row _ _ 6 _ _ _ b
  have b7 := cell_of_row _ _ 7 _ _ _ b
  have b8 := cell_of_row _ _ 8 _ _ _ b
  clear b
  go_wp2_with fail
  refine (HCV.out _).mono ?_; rintro e w3 ⟨rfl, hb⟩
  replace hK := hK.on hb
  clear hb
  clear lb b0 b1 b2 b3 b4 b5 b6 b7 b8
  go_wp2_with fail
  refine (vCheckK rV 0 HKV.out _).mono ?_; rintro e w4 ⟨rfl, hb⟩
  replace hK := hK.on hb
  clear hb
  have b := hK.blk _ (List.Mem.head _)
  have lb := lt_of_block b
  have b0 := cell_of_row _ _ 0 _ _ _ b
  have b1 := cell_of_row _ _ 1 _ _ _ b
  have b2 := cell_of_row _ _ 2 _ _ _ b
  have b3 := cell_of_row _ _ 3 _ _ _ b
  have b4 := cell_of_row _ _ 4 _ _ _ b
  have b5 := cell_of_row _ _ 5 _ _ _ b
  have b6 := cell_of_row _ _ 6 _ _ _ b
  have b7 := cell_of_row _ _ 7 _ _ _ b
  have b8 := cell_of_row _ _ 8 _ _ _ b
  clear b
  go_wp2_with fail
  refine (HCS.out _).mono ?_; rintro e w5 ⟨rfl, hb⟩
  replace hK := hK.on hb
  clear hb
  clear lb b0 b1 b2 b3 b4 b5 b6 b7 b8
  go_wp2_with fail
  refine (vCheckK rS 0 HKS.out _).mono ?_; rintro e w6 ⟨rfl, hb⟩
  replace hK := hK.on hb
  go_wp2_with fail
  go_ret
  exact ⟨rfl, hK.bel⟩
end Go.Proofs.Ytmnccbhlllnlbaa.vecKnown
