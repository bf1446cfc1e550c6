/- The walk of monoclelaw08.PolyKnown. Printed by wip/genPK.py. -/
import Derived.Test.YtgpaillkekhmdaaLawPW
import Derived.Test.YtgpaillkekhmdaaLawR
namespace Go.Proofs.Ytgpaillkekhmdaa.polyKnown
open Go.RowKit Go.Shelf Mnc
attribute [local go_sem] RunS_value RunS_skip RunS_enter evS_tmp evS_const evS_global evS_func

/-- A closure over a box. -/
def Cl (w : World) (v : Value) (F : Nat) (o : Obj) : Prop := ∃ B, v = .func (.func F) #[] #[.pointer (some ⟨B, 0, none⟩)] ∧ w.heap[B]? = some o
/-- A slice of a block of its own, made since B. -/
def Sl (w : World) (B : Nat) (v : Value) (n : Nat) (o : Obj) : Prop := ∃ g, v = .slice (some ⟨g, 0, none⟩) n n ∧ B ≤ g ∧ w.heap[g]? = some o
/-- A slice of intervals. -/
def Sp (w : World) (v : Value) (l : List (Int × Int)) : Prop := ∃ ao cap, v = .slice ao l.length cap ∧ SpSl w ao cap l
section
variable {w w' : World} {v : Value} {F B n g : Nat} {o o1 : Obj} {l : List (Int × Int)}
theorem Cl.on (h : Cl w v F o) (k : Below w.heap.size w w') : Cl w' v F o := let ⟨B, h1, h2⟩ := h; ⟨B, h1, (k.block _ (lt_of_block h2)).trans h2⟩
theorem Sl.on (h : Sl w B v n o) (k : Below w.heap.size w w') : Sl w' B v n o := let ⟨g, h1, h2, h3⟩ := h; ⟨g, h1, h2, (k.block _ (lt_of_block h3)).trans h3⟩
theorem Sp.on (h : Sp w v l) (k : Below w.heap.size w w') : Sp w' v l := let ⟨ao, cap, h1, h2⟩ := h; ⟨ao, cap, h1, h2.on k⟩
theorem grown_blk {x c : Nat} (hg : w.grownBy w' (Value.slice (some ⟨g, 0, none⟩) x c).ownBlock) (h1 : w.heap[g]? = some o1) (h : w.heap[B]? = some o) (ne : o ≠ o1) : w'.heap[B]? = some o :=
  (hg.block _ (lt_of_block h) (fun e => by
    have e2 : g = B := Option.some.inj e.symm
    subst e2
    rw [h] at h1
    exact ne (Option.some.inj h1))).trans h
theorem Cl.grown {x c : Nat} (h : Cl w v F o) (hg : w.grownBy w' (Value.slice (some ⟨g, 0, none⟩) x c).ownBlock) (h1 : w.heap[g]? = some o1) (ne : o ≠ o1) : Cl w' v F o := let ⟨B, k1, k2⟩ := h; ⟨B, k1, grown_blk hg h1 k2 ne⟩
theorem Sl.grown {x c : Nat} (h : Sl w B v n o) (hg : w.grownBy w' (Value.slice (some ⟨g, 0, none⟩) x c).ownBlock) (h1 : w.heap[g]? = some o1) (ne : o ≠ o1) : Sl w' B v n o := let ⟨g, k1, k2, k3⟩ := h; ⟨g, k1, k2, grown_blk hg h1 k3 ne⟩
theorem _root_.Go.Proofs.Ytgpaillkekhmdaa.St.box (h : w.heap[B]? = some o) : St w w [(B, o)] none 0 [] := ⟨Below.refl _ _, fun p hp => by
  rcases List.mem_cons.1 hp with rfl | hp
  · exact h
  · exact absurd hp List.not_mem_nil, SpSl.none_ _⟩
theorem _root_.Go.Proofs.Ytgpaillkekhmdaa.St.at {ao : Option Addr} {cap : Nat} (h : SpSl w ao cap l) : St w w [] ao cap l := ⟨Below.refl _ _, fun _ hp => absurd hp List.not_mem_nil, h⟩
end
theorem mk8 : ∀ W : World, (Instr.makeSlice 30 (.int .i64 8) (.int .i64 8)).run Try.prog W = .ok (.slice (some ⟨W.heap.size, 0, none⟩) 8 8) (W.alloc (.cells #[.int .i64 0, .int .i64 0, .int .i64 0, .int .i64 0, .int .i64 0, .int .i64 0, .int .i64 0, .int .i64 0, .int .i64 0, .int .i64 0, .int .i64 0, .int .i64 0, .int .i64 0, .int .i64 0, .int .i64 0, .int .i64 0] 33)) := fun _ => by kernel_rfl
theorem k5_6 : pEval ([(0, 0), (0, 0), (0, 0), (0, 0), (0, 0), (0, 0), (0, 0), (0, 0), (1, 0)]) (1, 0) = ((0, 0), 3) := by decide +kernel
theorem k5_14 : pSlope (List.replicate 9 (0, 0)) (1, 0) = ((0, 0), 3) := by decide +kernel
theorem k5_24 : pEval ([(1, 0)]) (0, 0) = ((0, 0), 20) := by decide +kernel
theorem k5_32 : pEval [] (1, 0) = ((0, 0), 20) := by decide +kernel
theorem k5_42 : pSlope ([(1, 0)]) (0, 0) = ((0, 0), 20) := by decide +kernel
theorem k5_50 : pSlope [] (1, 0) = ((0, 0), 20) := by decide +kernel
theorem k6_7 : pEval ([(4503599627370496, 4503599627370496)]) (4503599627370496, 4503599627370496) = ((4503599627370496, 4503599627370496), 0) := by decide +kernel
theorem k6_19 : pEval ([(4503599627370496, 4503599627370496), (0, 0)]) (4503599627370496, 4503599627370496) = ((4503599627370496, 4503599627370496), 0) := by decide +kernel
theorem k6_30 : pEval ([(1, 1), (4294967296, 4294967296)]) (4503599627370496, 4503599627370496) = ((0, 0), 6) := by decide +kernel
theorem k6_42 : pSlope ([(4503599627370496, 4503599627370496), (4503599627370496, 4503599627370496)]) (4503599627370496, 4503599627370496) = ((4503599627370496, 4503599627370496), 0) := by decide +kernel
theorem k6_54 : pSlope ([(0, 0), (0, 0), (4503599627370496, 4503599627370496)]) (0, 0) = ((0, 0), 6) := by decide +kernel
theorem k6_65 : pEval (List.map wh [1, 1, 1, 1, 1, 1, 1, 1]) (8589934592, 8589934592) = ((1095216660480, 1095216660480), 0) := by decide +kernel
theorem k7_0 : pSlope (List.map wh [1, 1, 1, 1, 1, 1, 1, 1]) (8589934592, 8589934592) = ((3302829850624, 3302829850624), 0) := by decide +kernel
theorem k7_1 : pEval (List.map wh [0, 0, 0, 1]) (-8589934592, 8589934592) = ((-34359738368, 34359738368), 0) := by decide +kernel
theorem k7_2 : pEval (List.map wh [0, 0, 1]) (4294967296, 8589934592) = ((4294967296, 17179869184), 0) := by decide +kernel
theorem k7_3 : pSlope [] (4294967296, 8589934592) = ((0, 0), 0) := by decide +kernel
structure Kn5 (W : World) (K1 K2 : Nat) (L : Nat → Bool) (s : Nat → Value) (w : World) : Prop where
  bel : Below W.heap.size W w
  e0 : L 0 = true → Cl w (s 8) 22 (.cells #[.int .i64 3] 39 (0, 0))
  e1 : L 1 = true → L 4 = false → Sl w W.heap.size (s 9) 8 (.cells #[.int .i64 0, .int .i64 0, .int .i64 0, .int .i64 0, .int .i64 0, .int .i64 0, .int .i64 0, .int .i64 0, .int .i64 0, .int .i64 0, .int .i64 0, .int .i64 0, .int .i64 0, .int .i64 0, .int .i64 0, .int .i64 0] 33 (0, 0))
  e2 : L 2 = true → s 10 = .agg #[.int .i64 1, .int .i64 0]
  e3 : L 3 = true → Sl w W.heap.size (s 11) 1 (.cells #[.int .i64 1, .int .i64 0] 33 (0, 0))
  e4 : L 4 = true → Sp w (s 12) ([(0, 0), (0, 0), (0, 0), (0, 0), (0, 0), (0, 0), (0, 0), (0, 0), (1, 0)])
  e5 : L 5 = true → s 13 = .agg #[.int .i64 1, .int .i64 0]
  e6 : L 6 = true → s 14 = .tuple #[.agg #[.int .i64 0, .int .i64 0], .int .i64 3]
  e7 : L 7 = true → s 15 = .agg #[.int .i64 0, .int .i64 0]
  e8 : L 8 = true → s 16 = .int .i64 3
  e9 : L 9 = true → s 17 = .bool true
  e10 : L 10 = true → s 18 = .bool true
  e11 : L 11 = true → Cl w (s 19) 22 (.cells #[.int .i64 3] 39 (0, 0))
  e12 : L 12 = true → Sl w W.heap.size (s 20) 9 (.cells #[.int .i64 0, .int .i64 0, .int .i64 0, .int .i64 0, .int .i64 0, .int .i64 0, .int .i64 0, .int .i64 0, .int .i64 0, .int .i64 0, .int .i64 0, .int .i64 0, .int .i64 0, .int .i64 0, .int .i64 0, .int .i64 0, .int .i64 0, .int .i64 0] 33 (0, 0))
  e13 : L 13 = true → s 21 = .agg #[.int .i64 1, .int .i64 0]
  e14 : L 14 = true → s 22 = .tuple #[.agg #[.int .i64 0, .int .i64 0], .int .i64 3]
  e15 : L 15 = true → s 23 = .agg #[.int .i64 0, .int .i64 0]
  e16 : L 16 = true → s 24 = .int .i64 3
  e17 : L 17 = true → s 25 = .bool true
  e18 : L 18 = true → s 26 = .bool true
  e19 : L 19 = true → s 27 = .bool true
  e20 : L 20 = true → Cl w (s 28) 22 (.cells #[.int .i64 20] 39 (0, 0))
  e21 : L 21 = true → s 29 = .agg #[.int .i64 1, .int .i64 0]
  e22 : L 22 = true → Sl w W.heap.size (s 30) 1 (.cells #[.int .i64 1, .int .i64 0] 33 (0, 0))
  e23 : L 23 = true → s 31 = .agg #[.int .i64 0, .int .i64 0]
  e24 : L 24 = true → s 32 = .tuple #[.agg #[.int .i64 0, .int .i64 0], .int .i64 20]
  e25 : L 25 = true → s 33 = .agg #[.int .i64 0, .int .i64 0]
  e26 : L 26 = true → s 34 = .int .i64 20
  e27 : L 27 = true → s 35 = .bool true
  e28 : L 28 = true → s 36 = .bool true
  e29 : L 29 = true → s 37 = .bool true
  e30 : L 30 = true → Cl w (s 38) 22 (.cells #[.int .i64 20] 39 (0, 0))
  e31 : L 31 = true → s 39 = .agg #[.int .i64 1, .int .i64 0]
  e32 : L 32 = true → s 40 = .tuple #[.agg #[.int .i64 0, .int .i64 0], .int .i64 20]
  e33 : L 33 = true → s 41 = .agg #[.int .i64 0, .int .i64 0]
  e34 : L 34 = true → s 42 = .int .i64 20
  e35 : L 35 = true → s 43 = .bool true
  e36 : L 36 = true → s 44 = .bool true
  e37 : L 37 = true → s 45 = .bool true
  e38 : L 38 = true → Cl w (s 46) 22 (.cells #[.int .i64 20] 39 (0, 0))
  e39 : L 39 = true → s 47 = .agg #[.int .i64 1, .int .i64 0]
  e40 : L 40 = true → Sl w W.heap.size (s 48) 1 (.cells #[.int .i64 1, .int .i64 0] 33 (0, 0))
  e41 : L 41 = true → s 49 = .agg #[.int .i64 0, .int .i64 0]
  e42 : L 42 = true → s 50 = .tuple #[.agg #[.int .i64 0, .int .i64 0], .int .i64 20]
  e43 : L 43 = true → s 51 = .agg #[.int .i64 0, .int .i64 0]
  e44 : L 44 = true → s 52 = .int .i64 20
  e45 : L 45 = true → s 53 = .bool true
  e46 : L 46 = true → s 54 = .bool true
  e47 : L 47 = true → s 55 = .bool true
  e48 : L 48 = true → Cl w (s 56) 22 (.cells #[.int .i64 20] 39 (0, 0))
  e49 : L 49 = true → s 57 = .agg #[.int .i64 1, .int .i64 0]
  e50 : L 50 = true → s 58 = .tuple #[.agg #[.int .i64 0, .int .i64 0], .int .i64 20]
  e51 : L 51 = true → s 59 = .agg #[.int .i64 0, .int .i64 0]
  e52 : L 52 = true → s 60 = .int .i64 20
  e53 : L 53 = true → s 61 = .bool true
  e54 : L 54 = true → s 62 = .bool true
  e55 : L 55 = true → s 3 = .bool true
structure Kn6 (W : World) (K1 K2 : Nat) (L : Nat → Bool) (s : Nat → Value) (w : World) : Prop where
  bel : Below W.heap.size W w
  o3 : L 70 = false → s 3 = .bool true
  dl : L 70 = true → L 0 = true
  e0 : L 0 = true → s 63 = .bool true
  e1 : L 1 = true → s 64 = .bool true
  e2 : L 2 = true → s 65 = .agg #[.int .i64 4503599627370496, .int .i64 4503599627370496]
  e3 : L 3 = true → Cl w (s 66) 23 (.cells #[.int .i64 4503599627370496, .int .i64 4503599627370496] 33 (0, 0))
  e4 : L 4 = true → s 67 = .agg #[.int .i64 4503599627370496, .int .i64 4503599627370496]
  e5 : L 5 = true → Sl w W.heap.size (s 68) 1 (.cells #[.int .i64 4503599627370496, .int .i64 4503599627370496] 33 (0, 0))
  e6 : L 6 = true → s 69 = .agg #[.int .i64 4503599627370496, .int .i64 4503599627370496]
  e7 : L 7 = true → s 70 = .tuple #[.agg #[.int .i64 4503599627370496, .int .i64 4503599627370496], .int .i64 0]
  e8 : L 8 = true → s 71 = .agg #[.int .i64 4503599627370496, .int .i64 4503599627370496]
  e9 : L 9 = true → s 72 = .int .i64 0
  e10 : L 10 = true → s 73 = .bool true
  e11 : L 11 = true → s 74 = .bool true
  e12 : L 12 = true → s 75 = .bool true
  e13 : L 13 = true → s 76 = .agg #[.int .i64 4503599627370496, .int .i64 4503599627370496]
  e14 : L 14 = true → Cl w (s 77) 23 (.cells #[.int .i64 4503599627370496, .int .i64 4503599627370496] 33 (0, 0))
  e15 : L 15 = true → s 78 = .agg #[.int .i64 4503599627370496, .int .i64 4503599627370496]
  e16 : L 16 = true → s 79 = .agg #[.int .i64 0, .int .i64 0]
  e17 : L 17 = true → Sl w W.heap.size (s 80) 2 (.cells #[.int .i64 4503599627370496, .int .i64 4503599627370496, .int .i64 0, .int .i64 0] 33 (0, 0))
  e18 : L 18 = true → s 81 = .agg #[.int .i64 4503599627370496, .int .i64 4503599627370496]
  e19 : L 19 = true → s 82 = .tuple #[.agg #[.int .i64 4503599627370496, .int .i64 4503599627370496], .int .i64 0]
  e20 : L 20 = true → s 83 = .agg #[.int .i64 4503599627370496, .int .i64 4503599627370496]
  e21 : L 21 = true → s 84 = .int .i64 0
  e22 : L 22 = true → s 85 = .bool true
  e23 : L 23 = true → s 86 = .bool true
  e24 : L 24 = true → s 87 = .bool true
  e25 : L 25 = true → Cl w (s 88) 22 (.cells #[.int .i64 6] 39 (0, 0))
  e26 : L 26 = true → s 89 = .agg #[.int .i64 1, .int .i64 1]
  e27 : L 27 = true → s 90 = .agg #[.int .i64 4294967296, .int .i64 4294967296]
  e28 : L 28 = true → Sl w W.heap.size (s 91) 2 (.cells #[.int .i64 1, .int .i64 1, .int .i64 4294967296, .int .i64 4294967296] 33 (0, 0))
  e29 : L 29 = true → s 92 = .agg #[.int .i64 4503599627370496, .int .i64 4503599627370496]
  e30 : L 30 = true → s 93 = .tuple #[.agg #[.int .i64 0, .int .i64 0], .int .i64 6]
  e31 : L 31 = true → s 94 = .agg #[.int .i64 0, .int .i64 0]
  e32 : L 32 = true → s 95 = .int .i64 6
  e33 : L 33 = true → s 96 = .bool true
  e34 : L 34 = true → s 97 = .bool true
  e35 : L 35 = true → s 98 = .bool true
  e36 : L 36 = true → s 99 = .agg #[.int .i64 4503599627370496, .int .i64 4503599627370496]
  e37 : L 37 = true → Cl w (s 100) 23 (.cells #[.int .i64 4503599627370496, .int .i64 4503599627370496] 33 (0, 0))
  e38 : L 38 = true → s 101 = .agg #[.int .i64 4503599627370496, .int .i64 4503599627370496]
  e39 : L 39 = true → s 102 = .agg #[.int .i64 4503599627370496, .int .i64 4503599627370496]
  e40 : L 40 = true → Sl w W.heap.size (s 103) 2 (.cells #[.int .i64 4503599627370496, .int .i64 4503599627370496, .int .i64 4503599627370496, .int .i64 4503599627370496] 33 (0, 0))
  e41 : L 41 = true → s 104 = .agg #[.int .i64 4503599627370496, .int .i64 4503599627370496]
  e42 : L 42 = true → s 105 = .tuple #[.agg #[.int .i64 4503599627370496, .int .i64 4503599627370496], .int .i64 0]
  e43 : L 43 = true → s 106 = .agg #[.int .i64 4503599627370496, .int .i64 4503599627370496]
  e44 : L 44 = true → s 107 = .int .i64 0
  e45 : L 45 = true → s 108 = .bool true
  e46 : L 46 = true → s 109 = .bool true
  e47 : L 47 = true → s 110 = .bool true
  e48 : L 48 = true → Cl w (s 111) 22 (.cells #[.int .i64 6] 39 (0, 0))
  e49 : L 49 = true → s 112 = .agg #[.int .i64 0, .int .i64 0]
  e50 : L 50 = true → s 113 = .agg #[.int .i64 0, .int .i64 0]
  e51 : L 51 = true → s 114 = .agg #[.int .i64 4503599627370496, .int .i64 4503599627370496]
  e52 : L 52 = true → Sl w W.heap.size (s 115) 3 (.cells #[.int .i64 0, .int .i64 0, .int .i64 0, .int .i64 0, .int .i64 4503599627370496, .int .i64 4503599627370496] 33 (0, 0))
  e53 : L 53 = true → s 116 = .agg #[.int .i64 0, .int .i64 0]
  e54 : L 54 = true → s 117 = .tuple #[.agg #[.int .i64 0, .int .i64 0], .int .i64 6]
  e55 : L 55 = true → s 118 = .agg #[.int .i64 0, .int .i64 0]
  e56 : L 56 = true → s 119 = .int .i64 6
  e57 : L 57 = true → s 120 = .bool true
  e58 : L 58 = true → s 121 = .bool true
  e59 : L 59 = true → s 122 = .bool true
  e60 : L 60 = true → s 123 = .agg #[.int .i64 1095216660480, .int .i64 1095216660480]
  e61 : L 61 = true → Cl w (s 124) 23 (.cells #[.int .i64 1095216660480, .int .i64 1095216660480] 33 (0, 0))
  e62 : L 62 = true → Sl w W.heap.size (s 125) 8 (.cells #[.int .i64 1, .int .i64 1, .int .i64 1, .int .i64 1, .int .i64 1, .int .i64 1, .int .i64 1, .int .i64 1] 3 (0, 0))
  e63 : L 63 = true → Sp w (s 126) (List.map wh [1, 1, 1, 1, 1, 1, 1, 1])
  e64 : L 64 = true → s 127 = .agg #[.int .i64 8589934592, .int .i64 8589934592]
  e65 : L 65 = true → s 128 = .tuple #[.agg #[.int .i64 1095216660480, .int .i64 1095216660480], .int .i64 0]
  e66 : L 66 = true → s 129 = .agg #[.int .i64 1095216660480, .int .i64 1095216660480]
  e67 : L 67 = true → s 130 = .int .i64 0
  e68 : L 68 = true → s 131 = .bool true
  e69 : L 69 = true → s 132 = .bool true
  e70 : L 70 = true → s 3 = .bool true

set_option maxRecDepth 100000 in
set_option maxHeartbeats 8000000 in
theorem walk (w : World) : Calls Try.prog 5 #[] w fun e w' => e = .returned (.bool true) ∧ Below w.heap.size w w' := by
  obtain ⟨i0, hi, hz0, hz1, hz2⟩ := info_parts spanInfo
  go_enter Try.func5, Try.ntmps5
  go_wp2_with fail
  refine (law8_works _).mono ?_; rintro e w1 ⟨rfl, hbel⟩
  have hS := (St.start w).on hbel
  replace hS := hS.al (.cells #[.int .i64 1, .int .i64 0] 33)
  clear hbel
  go_wp2_with fail
  refine (law8_whole _ _ hS (by decide) (by decide)).mono ?_; rintro e w2 ⟨rfl, hS, -⟩
  have HK := Lib.hid (hS.al (.cells #[.int .i64 4503599627370496, .int .i64 4503599627370496] 33))
  clear hS
  go_upto_region 5 with (fail)
  --M1
  obtain ⟨wc, hwc⟩ : ∃ wc, wc = w2.alloc (.cells #[.int .i64 4503599627370496, .int .i64 4503599627370496] 33) := ⟨_, rfl⟩
  rw [← hwc] at HK ⊢
  clear hwc
  generalize w2.heap.size = K2 at *
  generalize w1.heap.size = K1 at *
  have HB1 := Lib.hid (HK.out.blk (K1, .cells #[.int .i64 1, .int .i64 0] 33 (0, 0)) (by simp))
  have HB2 := Lib.hid (HK.out.blk (K2, .cells #[.int .i64 4503599627370496, .int .i64 4503599627370496] 33 (0, 0)) (by simp))
  refine wp_region_go (Kn5 wc K1 K2) (by kernel_rfl) (by kernel_rfl) ?_ ?_ ?_
  · exact ⟨(Below.refl _ _).drew, fun h => absurd h Bool.false_ne_true, fun h _ => absurd h Bool.false_ne_true, fun h => absurd h Bool.false_ne_true, fun h => absurd h Bool.false_ne_true, fun h => absurd h Bool.false_ne_true, fun h => absurd h Bool.false_ne_true, fun h => absurd h Bool.false_ne_true, fun h => absurd h Bool.false_ne_true, fun h => absurd h Bool.false_ne_true, fun h => absurd h Bool.false_ne_true, fun h => absurd h Bool.false_ne_true, fun h => absurd h Bool.false_ne_true, fun h => absurd h Bool.false_ne_true, fun h => absurd h Bool.false_ne_true, fun h => absurd h Bool.false_ne_true, fun h => absurd h Bool.false_ne_true, fun h => absurd h Bool.false_ne_true, fun h => absurd h Bool.false_ne_true, fun h => absurd h Bool.false_ne_true, fun h => absurd h Bool.false_ne_true, fun h => absurd h Bool.false_ne_true, fun h => absurd h Bool.false_ne_true, fun h => absurd h Bool.false_ne_true, fun h => absurd h Bool.false_ne_true, fun h => absurd h Bool.false_ne_true, fun h => absurd h Bool.false_ne_true, fun h => absurd h Bool.false_ne_true, fun h => absurd h Bool.false_ne_true, fun h => absurd h Bool.false_ne_true, fun h => absurd h Bool.false_ne_true, fun h => absurd h Bool.false_ne_true, fun h => absurd h Bool.false_ne_true, fun h => absurd h Bool.false_ne_true, fun h => absurd h Bool.false_ne_true, fun h => absurd h Bool.false_ne_true, fun h => absurd h Bool.false_ne_true, fun h => absurd h Bool.false_ne_true, fun h => absurd h Bool.false_ne_true, fun h => absurd h Bool.false_ne_true, fun h => absurd h Bool.false_ne_true, fun h => absurd h Bool.false_ne_true, fun h => absurd h Bool.false_ne_true, fun h => absurd h Bool.false_ne_true, fun h => absurd h Bool.false_ne_true, fun h => absurd h Bool.false_ne_true, fun h => absurd h Bool.false_ne_true, fun h => absurd h Bool.false_ne_true, fun h => absurd h Bool.false_ne_true, fun h => absurd h Bool.false_ne_true, fun h => absurd h Bool.false_ne_true, fun h => absurd h Bool.false_ne_true, fun h => absurd h Bool.false_ne_true, fun h => absurd h Bool.false_ne_true, fun h => absurd h Bool.false_ne_true, fun h => absurd h Bool.false_ne_true, fun h => absurd h Bool.false_ne_true⟩
  · refine AllS.consN 1 (some 8) rfl rfl ?_ (AllS.consN 2 (some 9) rfl rfl ?_ (AllS.consN 3 (some 10) rfl rfl ?_ (AllS.consN 4 (some 11) rfl rfl ?_ (AllS.consN 5 (some 12) rfl rfl ?_ (AllS.consN 6 (some 13) rfl rfl ?_ (AllS.consN 7 (some 14) rfl rfl ?_ (AllS.consN 8 (some 15) rfl rfl ?_ (AllS.consN 9 (some 16) rfl rfl ?_ (AllS.consN 10 (some 17) rfl rfl ?_ (AllS.consN 11 (some 18) rfl rfl ?_ (AllS.consN 12 (some 19) rfl rfl ?_ (AllS.consN 13 (some 20) rfl rfl ?_ (AllS.consN 14 (some 21) rfl rfl ?_ (AllS.consN 15 (some 22) rfl rfl ?_ (AllS.consN 16 (some 23) rfl rfl ?_ (AllS.consN 17 (some 24) rfl rfl ?_ (AllS.consN 18 (some 25) rfl rfl ?_ (AllS.consN 19 (some 26) rfl rfl ?_ (AllS.consN 20 (some 27) rfl rfl ?_ (AllS.consN 21 (some 28) rfl rfl ?_ (AllS.consN 22 (some 29) rfl rfl ?_ (AllS.consN 23 (some 30) rfl rfl ?_ (AllS.consN 24 (some 31) rfl rfl ?_ (AllS.consN 25 (some 32) rfl rfl ?_ (AllS.consN 26 (some 33) rfl rfl ?_ (AllS.consN 27 (some 34) rfl rfl ?_ (AllS.consN 28 (some 35) rfl rfl ?_ (AllS.consN 29 (some 36) rfl rfl ?_ (AllS.consN 30 (some 37) rfl rfl ?_ (AllS.consN 31 (some 38) rfl rfl ?_ (AllS.consN 32 (some 39) rfl rfl ?_ (AllS.consN 33 (some 40) rfl rfl ?_ (AllS.consN 34 (some 41) rfl rfl ?_ (AllS.consN 35 (some 42) rfl rfl ?_ (AllS.consN 36 (some 43) rfl rfl ?_ (AllS.consN 37 (some 44) rfl rfl ?_ (AllS.consN 38 (some 45) rfl rfl ?_ (AllS.consN 39 (some 46) rfl rfl ?_ (AllS.consN 40 (some 47) rfl rfl ?_ (AllS.consN 41 (some 48) rfl rfl ?_ (AllS.consN 42 (some 49) rfl rfl ?_ (AllS.consN 43 (some 50) rfl rfl ?_ (AllS.consN 44 (some 51) rfl rfl ?_ (AllS.consN 45 (some 52) rfl rfl ?_ (AllS.consN 46 (some 53) rfl rfl ?_ (AllS.consN 47 (some 54) rfl rfl ?_ (AllS.consN 48 (some 55) rfl rfl ?_ (AllS.consN 49 (some 56) rfl rfl ?_ (AllS.consN 50 (some 57) rfl rfl ?_ (AllS.consN 51 (some 58) rfl rfl ?_ (AllS.consN 52 (some 59) rfl rfl ?_ (AllS.consN 53 (some 60) rfl rfl ?_ (AllS.consN 54 (some 61) rfl rfl ?_ (AllS.consN 55 (some 62) rfl rfl ?_ (AllS.consN 56 (some 3) rfl rfl ?_ AllS.nil)))))))))))))))))))))))))))))))))))))))))))))))))))))))
    · intro L s w2 h hk hd hn
      refine stepS rfl fun K hK => ?_
      go_simp
      refine (law8_fails (3) (St.start _)).mono ?_
      rintro e w3 ⟨rfl, hs⟩
      have hb := hs.bel
      exact ⟨_, rfl, hK _ _ { h with bel := below_step h.bel hb, e1 := fun a b => (h.e1 a b).on hb, e3 := fun a => (h.e3 a).on hb, e4 := fun a => (h.e4 a).on hb, e11 := fun a => (h.e11 a).on hb, e12 := fun a => (h.e12 a).on hb, e20 := fun a => (h.e20 a).on hb, e22 := fun a => (h.e22 a).on hb, e30 := fun a => (h.e30 a).on hb, e38 := fun a => (h.e38 a).on hb, e40 := fun a => (h.e40 a).on hb, e48 := fun a => (h.e48 a).on hb, e0 := fun _ => ⟨_, rfl, hs.blk _ (List.mem_cons_self ..)⟩ }⟩
    · intro L s w2 h hk hd hn
      have mk := mk8
      refine stepS rfl fun K hK => ?_
      go_simp
      have hb := below_alloc (Below.refl w2.heap.size w2) (.cells #[.int .i64 0, .int .i64 0, .int .i64 0, .int .i64 0, .int .i64 0, .int .i64 0, .int .i64 0, .int .i64 0, .int .i64 0, .int .i64 0, .int .i64 0, .int .i64 0, .int .i64 0, .int .i64 0, .int .i64 0, .int .i64 0] 33)
      exact hK _ _ { h with bel := below_step h.bel hb, e0 := fun a => (h.e0 a).on hb, e3 := fun a => (h.e3 a).on hb, e4 := fun a => (h.e4 a).on hb, e11 := fun a => (h.e11 a).on hb, e12 := fun a => (h.e12 a).on hb, e20 := fun a => (h.e20 a).on hb, e22 := fun a => (h.e22 a).on hb, e30 := fun a => (h.e30 a).on hb, e38 := fun a => (h.e38 a).on hb, e40 := fun a => (h.e40 a).on hb, e48 := fun a => (h.e48 a).on hb, e1 := fun _ _ => ⟨_, rfl, h.bel.size, heap_at _ rfl⟩ }
    · intro L s w2 h hk hd hn
      have s1 : s 1 = _ := hk 1 (by kernel_rfl)
      have b := (h.bel.block _ (lt_of_block HB1.out)).trans HB1.out
      have c0 := cell_two0 b
      have c1 := cell_two1 b
      refine stepS rfl fun K hK => ?_
      go_simp
      exact hK _ _ { h with e2 := fun _ => rfl }
    · intro L s w2 h hk hd hn
      have s10 := h.e2 hd.1
      refine stepS rfl fun K hK => ?_
      go_simp
      have hb := below_alloc (Below.refl w2.heap.size w2) (.cells #[.int .i64 1, .int .i64 0] 33)
      exact hK _ _ { h with bel := below_step h.bel hb, e0 := fun a => (h.e0 a).on hb, e1 := fun a b => (h.e1 a b).on hb, e4 := fun a => (h.e4 a).on hb, e11 := fun a => (h.e11 a).on hb, e12 := fun a => (h.e12 a).on hb, e20 := fun a => (h.e20 a).on hb, e22 := fun a => (h.e22 a).on hb, e30 := fun a => (h.e30 a).on hb, e38 := fun a => (h.e38 a).on hb, e40 := fun a => (h.e40 a).on hb, e48 := fun a => (h.e48 a).on hb, e3 := fun _ => ⟨_, rfl, h.bel.size, heap_at _ rfl⟩ }
    · intro L s w2 h hk hd hn
      obtain ⟨g1, s9, hg1, h9⟩ := h.e1 hd.1 hn
      obtain ⟨g3, s11, -, h11⟩ := h.e3 hd.2.1
      refine stepS_append _ _ 30 rfl rfl g1 33 i0 (.agg #[.int .i64 0, .int .i64 0]) 2 16 Try.underlying30 hi hz0 hz1 hz2 rfl (by decide) _ 8 _ s9 ⟨rfl, Or.inr ⟨g1, 8, _, rfl, Nat.le_refl _, h9, Nat.le_refl _, by decide, rfl, rfl⟩⟩ ⟨g3, 0, none⟩ 1 1 [.int .i64 1, .int .i64 0] s11 rfl (row_two h11) (by simp [Value.oneCell']) (by decide) (by decide) (Nat.le_of_lt (lt_of_block h9)) ?_
      intro v' w3 hown hgrow _
      have hsp := SpSl.of_own (l := [(0, 0), (0, 0), (0, 0), (0, 0), (0, 0), (0, 0), (0, 0), (0, 0), (1, 0)]) hown (by decide)
      exact { h with bel := h.bel.grown hgrow h.bel.size (fun k e => by cases e; exact hg1), e1 := fun _ a => absurd a.symm Bool.false_ne_true, e4 := fun _ => hsp, e0 := fun a => (h.e0 a).grown hgrow h9 (by simp), e3 := fun a => (h.e3 a).grown hgrow h9 (by simp), e11 := fun a => (h.e11 a).grown hgrow h9 (by simp), e12 := fun a => (h.e12 a).grown hgrow h9 (by simp), e20 := fun a => (h.e20 a).grown hgrow h9 (by simp), e22 := fun a => (h.e22 a).grown hgrow h9 (by simp), e30 := fun a => (h.e30 a).grown hgrow h9 (by simp), e38 := fun a => (h.e38 a).grown hgrow h9 (by simp), e40 := fun a => (h.e40 a).grown hgrow h9 (by simp), e48 := fun a => (h.e48 a).grown hgrow h9 (by simp) }
    · intro L s w2 h hk hd hn
      have s1 : s 1 = _ := hk 1 (by kernel_rfl)
      have b := (h.bel.block _ (lt_of_block HB1.out)).trans HB1.out
      have c0 := cell_two0 b
      have c1 := cell_two1 b
      refine stepS rfl fun K hK => ?_
      go_simp
      exact hK _ _ { h with e5 := fun _ => rfl }
    · intro L s w2 h hk hd hn
      have s13 := h.e5 hd.2.1
      obtain ⟨ao, cap, s12, hsp⟩ := h.e4 hd.1
      simp only [List.length_cons, List.length_nil] at s12
      refine stepS rfl fun K hK => ?_
      go_simp
      refine (evalC (1) (0) (0) (0) 3 9 (St.at (hsp)) rfl k5_6).mono ?_
      rintro e w3 ⟨rfl, hs⟩
      have hb := hs.bel
      exact ⟨_, rfl, hK _ _ { h with bel := below_step h.bel hb, e0 := fun a => (h.e0 a).on hb, e1 := fun a b => (h.e1 a b).on hb, e3 := fun a => (h.e3 a).on hb, e4 := fun a => (h.e4 a).on hb, e11 := fun a => (h.e11 a).on hb, e12 := fun a => (h.e12 a).on hb, e20 := fun a => (h.e20 a).on hb, e22 := fun a => (h.e22 a).on hb, e30 := fun a => (h.e30 a).on hb, e38 := fun a => (h.e38 a).on hb, e40 := fun a => (h.e40 a).on hb, e48 := fun a => (h.e48 a).on hb, e6 := fun _ => rfl }⟩
    · intro L s w2 h hk hd hn
      have s14 := h.e6 hd.1
      refine stepS rfl fun K hK => ?_
      go_simp
      exact hK _ _ { h with e7 := fun _ => rfl }
    · intro L s w2 h hk hd hn
      have s14 := h.e6 hd.1
      refine stepS rfl fun K hK => ?_
      go_simp
      exact hK _ _ { h with e8 := fun _ => rfl }
    · intro L s w2 h hk hd hn
      obtain ⟨B, s8, hB⟩ := h.e0 hd.1
      have s15 := h.e7 hd.2.1
      have s16 := h.e8 hd.2.2.1
      refine stepS rfl fun K hK => ?_
      go_simp
      refine (law8_fails1 (3) B (St.box hB) (List.mem_cons_self ..)).mono ?_
      rintro e w3 ⟨rfl, hs⟩
      have hb := hs.bel
      exact ⟨_, rfl, hK _ _ { h with bel := below_step h.bel hb, e0 := fun a => (h.e0 a).on hb, e1 := fun a b => (h.e1 a b).on hb, e3 := fun a => (h.e3 a).on hb, e4 := fun a => (h.e4 a).on hb, e11 := fun a => (h.e11 a).on hb, e12 := fun a => (h.e12 a).on hb, e20 := fun a => (h.e20 a).on hb, e22 := fun a => (h.e22 a).on hb, e30 := fun a => (h.e30 a).on hb, e38 := fun a => (h.e38 a).on hb, e40 := fun a => (h.e40 a).on hb, e48 := fun a => (h.e48 a).on hb, e9 := fun _ => rfl }⟩
    · intro L s w2 h hk hd hn
      have s17 := h.e9 hd.1
      refine stepS rfl fun K hK => ?_
      go_simp
      exact hK _ _ { h with e10 := fun _ => rfl }
    · intro L s w2 h hk hd hn
      have gq := h.e10 hd.1
      refine stepS (by simp [Region.wanted, yieldS, gq]) fun K hK => ?_
      go_simp
      refine (law8_fails (3) (St.start _)).mono ?_
      rintro e w3 ⟨rfl, hs⟩
      have hb := hs.bel
      exact ⟨_, rfl, hK _ _ { h with bel := below_step h.bel hb, e0 := fun a => (h.e0 a).on hb, e1 := fun a b => (h.e1 a b).on hb, e3 := fun a => (h.e3 a).on hb, e4 := fun a => (h.e4 a).on hb, e12 := fun a => (h.e12 a).on hb, e20 := fun a => (h.e20 a).on hb, e22 := fun a => (h.e22 a).on hb, e30 := fun a => (h.e30 a).on hb, e38 := fun a => (h.e38 a).on hb, e40 := fun a => (h.e40 a).on hb, e48 := fun a => (h.e48 a).on hb, e11 := fun _ => ⟨_, rfl, hs.blk _ (List.mem_cons_self ..)⟩ }⟩
    · intro L s w2 h hk hd hn
      have gq := h.e10 hd.1
      have mk := mk9
      refine stepS (by simp [Region.wanted, yieldS, gq]) fun K hK => ?_
      go_simp
      have hb := below_alloc (Below.refl w2.heap.size w2) (.cells #[.int .i64 0, .int .i64 0, .int .i64 0, .int .i64 0, .int .i64 0, .int .i64 0, .int .i64 0, .int .i64 0, .int .i64 0, .int .i64 0, .int .i64 0, .int .i64 0, .int .i64 0, .int .i64 0, .int .i64 0, .int .i64 0, .int .i64 0, .int .i64 0] 33)
      exact hK _ _ { h with bel := below_step h.bel hb, e0 := fun a => (h.e0 a).on hb, e1 := fun a b => (h.e1 a b).on hb, e3 := fun a => (h.e3 a).on hb, e4 := fun a => (h.e4 a).on hb, e11 := fun a => (h.e11 a).on hb, e20 := fun a => (h.e20 a).on hb, e22 := fun a => (h.e22 a).on hb, e30 := fun a => (h.e30 a).on hb, e38 := fun a => (h.e38 a).on hb, e40 := fun a => (h.e40 a).on hb, e48 := fun a => (h.e48 a).on hb, e12 := fun _ => ⟨_, rfl, h.bel.size, heap_at _ rfl⟩ }
    · intro L s w2 h hk hd hn
      have gq := h.e10 hd.1
      have s1 : s 1 = _ := hk 1 (by kernel_rfl)
      have b := (h.bel.block _ (lt_of_block HB1.out)).trans HB1.out
      have c0 := cell_two0 b
      have c1 := cell_two1 b
      refine stepS (by simp [Region.wanted, yieldS, gq]) fun K hK => ?_
      go_simp
      exact hK _ _ { h with e13 := fun _ => rfl }
    · intro L s w2 h hk hd hn
      have gq := h.e10 hd.2.2.2.1
      have s21 := h.e13 hd.2.1
      obtain ⟨g, s20, -, hg⟩ := h.e12 hd.1
      refine stepS (by simp [Region.wanted, yieldS, gq]) fun K hK => ?_
      go_simp
      refine (slopeC (1) (0) (0) (0) 3 9 (St.at ((SpSl.of_blk (l := (List.replicate 9 (0, 0))) hg (by decide)))) rfl k5_14).mono ?_
      rintro e w3 ⟨rfl, hs⟩
      have hb := hs.bel
      exact ⟨_, rfl, hK _ _ { h with bel := below_step h.bel hb, e0 := fun a => (h.e0 a).on hb, e1 := fun a b => (h.e1 a b).on hb, e3 := fun a => (h.e3 a).on hb, e4 := fun a => (h.e4 a).on hb, e11 := fun a => (h.e11 a).on hb, e12 := fun a => (h.e12 a).on hb, e20 := fun a => (h.e20 a).on hb, e22 := fun a => (h.e22 a).on hb, e30 := fun a => (h.e30 a).on hb, e38 := fun a => (h.e38 a).on hb, e40 := fun a => (h.e40 a).on hb, e48 := fun a => (h.e48 a).on hb, e14 := fun _ => rfl }⟩
    · intro L s w2 h hk hd hn
      have gq := h.e10 hd.2.1
      have s22 := h.e14 hd.1
      refine stepS (by simp [Region.wanted, yieldS, gq]) fun K hK => ?_
      go_simp
      exact hK _ _ { h with e15 := fun _ => rfl }
    · intro L s w2 h hk hd hn
      have gq := h.e10 hd.2.1
      have s22 := h.e14 hd.1
      refine stepS (by simp [Region.wanted, yieldS, gq]) fun K hK => ?_
      go_simp
      exact hK _ _ { h with e16 := fun _ => rfl }
    · intro L s w2 h hk hd hn
      have gq := h.e10 hd.2.2.2.2.1
      obtain ⟨B, s19, hB⟩ := h.e11 hd.1
      have s23 := h.e15 hd.2.1
      have s24 := h.e16 hd.2.2.1
      refine stepS (by simp [Region.wanted, yieldS, gq]) fun K hK => ?_
      go_simp
      refine (law8_fails1 (3) B (St.box hB) (List.mem_cons_self ..)).mono ?_
      rintro e w3 ⟨rfl, hs⟩
      have hb := hs.bel
      exact ⟨_, rfl, hK _ _ { h with bel := below_step h.bel hb, e0 := fun a => (h.e0 a).on hb, e1 := fun a b => (h.e1 a b).on hb, e3 := fun a => (h.e3 a).on hb, e4 := fun a => (h.e4 a).on hb, e11 := fun a => (h.e11 a).on hb, e12 := fun a => (h.e12 a).on hb, e20 := fun a => (h.e20 a).on hb, e22 := fun a => (h.e22 a).on hb, e30 := fun a => (h.e30 a).on hb, e38 := fun a => (h.e38 a).on hb, e40 := fun a => (h.e40 a).on hb, e48 := fun a => (h.e48 a).on hb, e17 := fun _ => rfl }⟩
    · intro L s w2 h hk hd hn
      have s18 := h.e10 hd.1
      have s25 := h.e17 hd.2.1
      refine stepS rfl fun K hK => ?_
      go_simp
      exact hK _ _ { h with e18 := fun _ => rfl }
    · intro L s w2 h hk hd hn
      have s26 := h.e18 hd.1
      refine stepS rfl fun K hK => ?_
      go_simp
      exact hK _ _ { h with e19 := fun _ => rfl }
    · intro L s w2 h hk hd hn
      have gq := h.e19 hd.1
      refine stepS (by simp [Region.wanted, yieldS, gq]) fun K hK => ?_
      go_simp
      refine (law8_fails (20) (St.start _)).mono ?_
      rintro e w3 ⟨rfl, hs⟩
      have hb := hs.bel
      exact ⟨_, rfl, hK _ _ { h with bel := below_step h.bel hb, e0 := fun a => (h.e0 a).on hb, e1 := fun a b => (h.e1 a b).on hb, e3 := fun a => (h.e3 a).on hb, e4 := fun a => (h.e4 a).on hb, e11 := fun a => (h.e11 a).on hb, e12 := fun a => (h.e12 a).on hb, e22 := fun a => (h.e22 a).on hb, e30 := fun a => (h.e30 a).on hb, e38 := fun a => (h.e38 a).on hb, e40 := fun a => (h.e40 a).on hb, e48 := fun a => (h.e48 a).on hb, e20 := fun _ => ⟨_, rfl, hs.blk _ (List.mem_cons_self ..)⟩ }⟩
    · intro L s w2 h hk hd hn
      have gq := h.e19 hd.1
      have s1 : s 1 = _ := hk 1 (by kernel_rfl)
      have b := (h.bel.block _ (lt_of_block HB1.out)).trans HB1.out
      have c0 := cell_two0 b
      have c1 := cell_two1 b
      refine stepS (by simp [Region.wanted, yieldS, gq]) fun K hK => ?_
      go_simp
      exact hK _ _ { h with e21 := fun _ => rfl }
    · intro L s w2 h hk hd hn
      have gq := h.e19 hd.2.1
      have s29 := h.e21 hd.1
      refine stepS (by simp [Region.wanted, yieldS, gq]) fun K hK => ?_
      go_simp
      have hb := below_alloc (Below.refl w2.heap.size w2) (.cells #[.int .i64 1, .int .i64 0] 33)
      exact hK _ _ { h with bel := below_step h.bel hb, e0 := fun a => (h.e0 a).on hb, e1 := fun a b => (h.e1 a b).on hb, e3 := fun a => (h.e3 a).on hb, e4 := fun a => (h.e4 a).on hb, e11 := fun a => (h.e11 a).on hb, e12 := fun a => (h.e12 a).on hb, e20 := fun a => (h.e20 a).on hb, e30 := fun a => (h.e30 a).on hb, e38 := fun a => (h.e38 a).on hb, e40 := fun a => (h.e40 a).on hb, e48 := fun a => (h.e48 a).on hb, e22 := fun _ => ⟨_, rfl, h.bel.size, heap_at _ rfl⟩ }
    · intro L s w2 h hk hd hn
      have gq := h.e19 hd.1
      refine stepS (by simp [Region.wanted, yieldS, gq]) fun K hK => ?_
      go_simp
      exact hK _ _ { h with e23 := fun _ => rfl }
    · intro L s w2 h hk hd hn
      have gq := h.e19 hd.2.2.2.1
      have s31 := h.e23 hd.2.1
      obtain ⟨g, s30, -, hg⟩ := h.e22 hd.1
      refine stepS (by simp [Region.wanted, yieldS, gq]) fun K hK => ?_
      go_simp
      refine (evalC (0) (0) (0) (0) 20 1 (St.at ((SpSl.of_blk (l := ([(1, 0)])) hg (by decide)))) rfl k5_24).mono ?_
      rintro e w3 ⟨rfl, hs⟩
      have hb := hs.bel
      exact ⟨_, rfl, hK _ _ { h with bel := below_step h.bel hb, e0 := fun a => (h.e0 a).on hb, e1 := fun a b => (h.e1 a b).on hb, e3 := fun a => (h.e3 a).on hb, e4 := fun a => (h.e4 a).on hb, e11 := fun a => (h.e11 a).on hb, e12 := fun a => (h.e12 a).on hb, e20 := fun a => (h.e20 a).on hb, e22 := fun a => (h.e22 a).on hb, e30 := fun a => (h.e30 a).on hb, e38 := fun a => (h.e38 a).on hb, e40 := fun a => (h.e40 a).on hb, e48 := fun a => (h.e48 a).on hb, e24 := fun _ => rfl }⟩
    · intro L s w2 h hk hd hn
      have gq := h.e19 hd.2.1
      have s32 := h.e24 hd.1
      refine stepS (by simp [Region.wanted, yieldS, gq]) fun K hK => ?_
      go_simp
      exact hK _ _ { h with e25 := fun _ => rfl }
    · intro L s w2 h hk hd hn
      have gq := h.e19 hd.2.1
      have s32 := h.e24 hd.1
      refine stepS (by simp [Region.wanted, yieldS, gq]) fun K hK => ?_
      go_simp
      exact hK _ _ { h with e26 := fun _ => rfl }
    · intro L s w2 h hk hd hn
      have gq := h.e19 hd.2.2.2.2.1
      obtain ⟨B, s28, hB⟩ := h.e20 hd.1
      have s33 := h.e25 hd.2.1
      have s34 := h.e26 hd.2.2.1
      refine stepS (by simp [Region.wanted, yieldS, gq]) fun K hK => ?_
      go_simp
      refine (law8_fails1 (20) B (St.box hB) (List.mem_cons_self ..)).mono ?_
      rintro e w3 ⟨rfl, hs⟩
      have hb := hs.bel
      exact ⟨_, rfl, hK _ _ { h with bel := below_step h.bel hb, e0 := fun a => (h.e0 a).on hb, e1 := fun a b => (h.e1 a b).on hb, e3 := fun a => (h.e3 a).on hb, e4 := fun a => (h.e4 a).on hb, e11 := fun a => (h.e11 a).on hb, e12 := fun a => (h.e12 a).on hb, e20 := fun a => (h.e20 a).on hb, e22 := fun a => (h.e22 a).on hb, e30 := fun a => (h.e30 a).on hb, e38 := fun a => (h.e38 a).on hb, e40 := fun a => (h.e40 a).on hb, e48 := fun a => (h.e48 a).on hb, e27 := fun _ => rfl }⟩
    · intro L s w2 h hk hd hn
      have s27 := h.e19 hd.1
      have s35 := h.e27 hd.2.1
      refine stepS rfl fun K hK => ?_
      go_simp
      exact hK _ _ { h with e28 := fun _ => rfl }
    · intro L s w2 h hk hd hn
      have s36 := h.e28 hd.1
      refine stepS rfl fun K hK => ?_
      go_simp
      exact hK _ _ { h with e29 := fun _ => rfl }
    · intro L s w2 h hk hd hn
      have gq := h.e29 hd.1
      refine stepS (by simp [Region.wanted, yieldS, gq]) fun K hK => ?_
      go_simp
      refine (law8_fails (20) (St.start _)).mono ?_
      rintro e w3 ⟨rfl, hs⟩
      have hb := hs.bel
      exact ⟨_, rfl, hK _ _ { h with bel := below_step h.bel hb, e0 := fun a => (h.e0 a).on hb, e1 := fun a b => (h.e1 a b).on hb, e3 := fun a => (h.e3 a).on hb, e4 := fun a => (h.e4 a).on hb, e11 := fun a => (h.e11 a).on hb, e12 := fun a => (h.e12 a).on hb, e20 := fun a => (h.e20 a).on hb, e22 := fun a => (h.e22 a).on hb, e38 := fun a => (h.e38 a).on hb, e40 := fun a => (h.e40 a).on hb, e48 := fun a => (h.e48 a).on hb, e30 := fun _ => ⟨_, rfl, hs.blk _ (List.mem_cons_self ..)⟩ }⟩
    · intro L s w2 h hk hd hn
      have gq := h.e29 hd.1
      have s1 : s 1 = _ := hk 1 (by kernel_rfl)
      have b := (h.bel.block _ (lt_of_block HB1.out)).trans HB1.out
      have c0 := cell_two0 b
      have c1 := cell_two1 b
      refine stepS (by simp [Region.wanted, yieldS, gq]) fun K hK => ?_
      go_simp
      exact hK _ _ { h with e31 := fun _ => rfl }
    · intro L s w2 h hk hd hn
      have gq := h.e29 hd.2.2.1
      have s39 := h.e31 hd.1
      refine stepS (by simp [Region.wanted, yieldS, gq]) fun K hK => ?_
      go_simp
      refine (evalC (1) (0) (0) (0) 20 0 (St.at (SpSl.none_ _)) rfl k5_32).mono ?_
      rintro e w3 ⟨rfl, hs⟩
      have hb := hs.bel
      exact ⟨_, rfl, hK _ _ { h with bel := below_step h.bel hb, e0 := fun a => (h.e0 a).on hb, e1 := fun a b => (h.e1 a b).on hb, e3 := fun a => (h.e3 a).on hb, e4 := fun a => (h.e4 a).on hb, e11 := fun a => (h.e11 a).on hb, e12 := fun a => (h.e12 a).on hb, e20 := fun a => (h.e20 a).on hb, e22 := fun a => (h.e22 a).on hb, e30 := fun a => (h.e30 a).on hb, e38 := fun a => (h.e38 a).on hb, e40 := fun a => (h.e40 a).on hb, e48 := fun a => (h.e48 a).on hb, e32 := fun _ => rfl }⟩
    · intro L s w2 h hk hd hn
      have gq := h.e29 hd.2.1
      have s40 := h.e32 hd.1
      refine stepS (by simp [Region.wanted, yieldS, gq]) fun K hK => ?_
      go_simp
      exact hK _ _ { h with e33 := fun _ => rfl }
    · intro L s w2 h hk hd hn
      have gq := h.e29 hd.2.1
      have s40 := h.e32 hd.1
      refine stepS (by simp [Region.wanted, yieldS, gq]) fun K hK => ?_
      go_simp
      exact hK _ _ { h with e34 := fun _ => rfl }
    · intro L s w2 h hk hd hn
      have gq := h.e29 hd.2.2.2.2.1
      obtain ⟨B, s38, hB⟩ := h.e30 hd.1
      have s41 := h.e33 hd.2.1
      have s42 := h.e34 hd.2.2.1
      refine stepS (by simp [Region.wanted, yieldS, gq]) fun K hK => ?_
      go_simp
      refine (law8_fails1 (20) B (St.box hB) (List.mem_cons_self ..)).mono ?_
      rintro e w3 ⟨rfl, hs⟩
      have hb := hs.bel
      exact ⟨_, rfl, hK _ _ { h with bel := below_step h.bel hb, e0 := fun a => (h.e0 a).on hb, e1 := fun a b => (h.e1 a b).on hb, e3 := fun a => (h.e3 a).on hb, e4 := fun a => (h.e4 a).on hb, e11 := fun a => (h.e11 a).on hb, e12 := fun a => (h.e12 a).on hb, e20 := fun a => (h.e20 a).on hb, e22 := fun a => (h.e22 a).on hb, e30 := fun a => (h.e30 a).on hb, e38 := fun a => (h.e38 a).on hb, e40 := fun a => (h.e40 a).on hb, e48 := fun a => (h.e48 a).on hb, e35 := fun _ => rfl }⟩
    · intro L s w2 h hk hd hn
      have s37 := h.e29 hd.1
      have s43 := h.e35 hd.2.1
      refine stepS rfl fun K hK => ?_
      go_simp
      exact hK _ _ { h with e36 := fun _ => rfl }
    · intro L s w2 h hk hd hn
      have s44 := h.e36 hd.1
      refine stepS rfl fun K hK => ?_
      go_simp
      exact hK _ _ { h with e37 := fun _ => rfl }
    · intro L s w2 h hk hd hn
      have gq := h.e37 hd.1
      refine stepS (by simp [Region.wanted, yieldS, gq]) fun K hK => ?_
      go_simp
      refine (law8_fails (20) (St.start _)).mono ?_
      rintro e w3 ⟨rfl, hs⟩
      have hb := hs.bel
      exact ⟨_, rfl, hK _ _ { h with bel := below_step h.bel hb, e0 := fun a => (h.e0 a).on hb, e1 := fun a b => (h.e1 a b).on hb, e3 := fun a => (h.e3 a).on hb, e4 := fun a => (h.e4 a).on hb, e11 := fun a => (h.e11 a).on hb, e12 := fun a => (h.e12 a).on hb, e20 := fun a => (h.e20 a).on hb, e22 := fun a => (h.e22 a).on hb, e30 := fun a => (h.e30 a).on hb, e40 := fun a => (h.e40 a).on hb, e48 := fun a => (h.e48 a).on hb, e38 := fun _ => ⟨_, rfl, hs.blk _ (List.mem_cons_self ..)⟩ }⟩
    · intro L s w2 h hk hd hn
      have gq := h.e37 hd.1
      have s1 : s 1 = _ := hk 1 (by kernel_rfl)
      have b := (h.bel.block _ (lt_of_block HB1.out)).trans HB1.out
      have c0 := cell_two0 b
      have c1 := cell_two1 b
      refine stepS (by simp [Region.wanted, yieldS, gq]) fun K hK => ?_
      go_simp
      exact hK _ _ { h with e39 := fun _ => rfl }
    · intro L s w2 h hk hd hn
      have gq := h.e37 hd.2.1
      have s47 := h.e39 hd.1
      refine stepS (by simp [Region.wanted, yieldS, gq]) fun K hK => ?_
      go_simp
      have hb := below_alloc (Below.refl w2.heap.size w2) (.cells #[.int .i64 1, .int .i64 0] 33)
      exact hK _ _ { h with bel := below_step h.bel hb, e0 := fun a => (h.e0 a).on hb, e1 := fun a b => (h.e1 a b).on hb, e3 := fun a => (h.e3 a).on hb, e4 := fun a => (h.e4 a).on hb, e11 := fun a => (h.e11 a).on hb, e12 := fun a => (h.e12 a).on hb, e20 := fun a => (h.e20 a).on hb, e22 := fun a => (h.e22 a).on hb, e30 := fun a => (h.e30 a).on hb, e38 := fun a => (h.e38 a).on hb, e48 := fun a => (h.e48 a).on hb, e40 := fun _ => ⟨_, rfl, h.bel.size, heap_at _ rfl⟩ }
    · intro L s w2 h hk hd hn
      have gq := h.e37 hd.1
      refine stepS (by simp [Region.wanted, yieldS, gq]) fun K hK => ?_
      go_simp
      exact hK _ _ { h with e41 := fun _ => rfl }
    · intro L s w2 h hk hd hn
      have gq := h.e37 hd.2.2.2.1
      have s49 := h.e41 hd.2.1
      obtain ⟨g, s48, -, hg⟩ := h.e40 hd.1
      refine stepS (by simp [Region.wanted, yieldS, gq]) fun K hK => ?_
      go_simp
      refine (slopeC (0) (0) (0) (0) 20 1 (St.at ((SpSl.of_blk (l := ([(1, 0)])) hg (by decide)))) rfl k5_42).mono ?_
      rintro e w3 ⟨rfl, hs⟩
      have hb := hs.bel
      exact ⟨_, rfl, hK _ _ { h with bel := below_step h.bel hb, e0 := fun a => (h.e0 a).on hb, e1 := fun a b => (h.e1 a b).on hb, e3 := fun a => (h.e3 a).on hb, e4 := fun a => (h.e4 a).on hb, e11 := fun a => (h.e11 a).on hb, e12 := fun a => (h.e12 a).on hb, e20 := fun a => (h.e20 a).on hb, e22 := fun a => (h.e22 a).on hb, e30 := fun a => (h.e30 a).on hb, e38 := fun a => (h.e38 a).on hb, e40 := fun a => (h.e40 a).on hb, e48 := fun a => (h.e48 a).on hb, e42 := fun _ => rfl }⟩
    · intro L s w2 h hk hd hn
      have gq := h.e37 hd.2.1
      have s50 := h.e42 hd.1
      refine stepS (by simp [Region.wanted, yieldS, gq]) fun K hK => ?_
      go_simp
      exact hK _ _ { h with e43 := fun _ => rfl }
    · intro L s w2 h hk hd hn
      have gq := h.e37 hd.2.1
      have s50 := h.e42 hd.1
      refine stepS (by simp [Region.wanted, yieldS, gq]) fun K hK => ?_
      go_simp
      exact hK _ _ { h with e44 := fun _ => rfl }
    · intro L s w2 h hk hd hn
      have gq := h.e37 hd.2.2.2.2.1
      obtain ⟨B, s46, hB⟩ := h.e38 hd.1
      have s51 := h.e43 hd.2.1
      have s52 := h.e44 hd.2.2.1
      refine stepS (by simp [Region.wanted, yieldS, gq]) fun K hK => ?_
      go_simp
      refine (law8_fails1 (20) B (St.box hB) (List.mem_cons_self ..)).mono ?_
      rintro e w3 ⟨rfl, hs⟩
      have hb := hs.bel
      exact ⟨_, rfl, hK _ _ { h with bel := below_step h.bel hb, e0 := fun a => (h.e0 a).on hb, e1 := fun a b => (h.e1 a b).on hb, e3 := fun a => (h.e3 a).on hb, e4 := fun a => (h.e4 a).on hb, e11 := fun a => (h.e11 a).on hb, e12 := fun a => (h.e12 a).on hb, e20 := fun a => (h.e20 a).on hb, e22 := fun a => (h.e22 a).on hb, e30 := fun a => (h.e30 a).on hb, e38 := fun a => (h.e38 a).on hb, e40 := fun a => (h.e40 a).on hb, e48 := fun a => (h.e48 a).on hb, e45 := fun _ => rfl }⟩
    · intro L s w2 h hk hd hn
      have s45 := h.e37 hd.1
      have s53 := h.e45 hd.2.1
      refine stepS rfl fun K hK => ?_
      go_simp
      exact hK _ _ { h with e46 := fun _ => rfl }
    · intro L s w2 h hk hd hn
      have s54 := h.e46 hd.1
      refine stepS rfl fun K hK => ?_
      go_simp
      exact hK _ _ { h with e47 := fun _ => rfl }
    · intro L s w2 h hk hd hn
      have gq := h.e47 hd.1
      refine stepS (by simp [Region.wanted, yieldS, gq]) fun K hK => ?_
      go_simp
      refine (law8_fails (20) (St.start _)).mono ?_
      rintro e w3 ⟨rfl, hs⟩
      have hb := hs.bel
      exact ⟨_, rfl, hK _ _ { h with bel := below_step h.bel hb, e0 := fun a => (h.e0 a).on hb, e1 := fun a b => (h.e1 a b).on hb, e3 := fun a => (h.e3 a).on hb, e4 := fun a => (h.e4 a).on hb, e11 := fun a => (h.e11 a).on hb, e12 := fun a => (h.e12 a).on hb, e20 := fun a => (h.e20 a).on hb, e22 := fun a => (h.e22 a).on hb, e30 := fun a => (h.e30 a).on hb, e38 := fun a => (h.e38 a).on hb, e40 := fun a => (h.e40 a).on hb, e48 := fun _ => ⟨_, rfl, hs.blk _ (List.mem_cons_self ..)⟩ }⟩
    · intro L s w2 h hk hd hn
      have gq := h.e47 hd.1
      have s1 : s 1 = _ := hk 1 (by kernel_rfl)
      have b := (h.bel.block _ (lt_of_block HB1.out)).trans HB1.out
      have c0 := cell_two0 b
      have c1 := cell_two1 b
      refine stepS (by simp [Region.wanted, yieldS, gq]) fun K hK => ?_
      go_simp
      exact hK _ _ { h with e49 := fun _ => rfl }
    · intro L s w2 h hk hd hn
      have gq := h.e47 hd.2.2.1
      have s57 := h.e49 hd.1
      refine stepS (by simp [Region.wanted, yieldS, gq]) fun K hK => ?_
      go_simp
      refine (slopeC (1) (0) (0) (0) 20 0 (St.at (SpSl.none_ _)) rfl k5_50).mono ?_
      rintro e w3 ⟨rfl, hs⟩
      have hb := hs.bel
      exact ⟨_, rfl, hK _ _ { h with bel := below_step h.bel hb, e0 := fun a => (h.e0 a).on hb, e1 := fun a b => (h.e1 a b).on hb, e3 := fun a => (h.e3 a).on hb, e4 := fun a => (h.e4 a).on hb, e11 := fun a => (h.e11 a).on hb, e12 := fun a => (h.e12 a).on hb, e20 := fun a => (h.e20 a).on hb, e22 := fun a => (h.e22 a).on hb, e30 := fun a => (h.e30 a).on hb, e38 := fun a => (h.e38 a).on hb, e40 := fun a => (h.e40 a).on hb, e48 := fun a => (h.e48 a).on hb, e50 := fun _ => rfl }⟩
    · intro L s w2 h hk hd hn
      have gq := h.e47 hd.2.1
      have s58 := h.e50 hd.1
      refine stepS (by simp [Region.wanted, yieldS, gq]) fun K hK => ?_
      go_simp
      exact hK _ _ { h with e51 := fun _ => rfl }
    · intro L s w2 h hk hd hn
      have gq := h.e47 hd.2.1
      have s58 := h.e50 hd.1
      refine stepS (by simp [Region.wanted, yieldS, gq]) fun K hK => ?_
      go_simp
      exact hK _ _ { h with e52 := fun _ => rfl }
    · intro L s w2 h hk hd hn
      have gq := h.e47 hd.2.2.2.2.1
      obtain ⟨B, s56, hB⟩ := h.e48 hd.1
      have s59 := h.e51 hd.2.1
      have s60 := h.e52 hd.2.2.1
      refine stepS (by simp [Region.wanted, yieldS, gq]) fun K hK => ?_
      go_simp
      refine (law8_fails1 (20) B (St.box hB) (List.mem_cons_self ..)).mono ?_
      rintro e w3 ⟨rfl, hs⟩
      have hb := hs.bel
      exact ⟨_, rfl, hK _ _ { h with bel := below_step h.bel hb, e0 := fun a => (h.e0 a).on hb, e1 := fun a b => (h.e1 a b).on hb, e3 := fun a => (h.e3 a).on hb, e4 := fun a => (h.e4 a).on hb, e11 := fun a => (h.e11 a).on hb, e12 := fun a => (h.e12 a).on hb, e20 := fun a => (h.e20 a).on hb, e22 := fun a => (h.e22 a).on hb, e30 := fun a => (h.e30 a).on hb, e38 := fun a => (h.e38 a).on hb, e40 := fun a => (h.e40 a).on hb, e48 := fun a => (h.e48 a).on hb, e53 := fun _ => rfl }⟩
    · intro L s w2 h hk hd hn
      have s55 := h.e47 hd.1
      have s61 := h.e53 hd.2.1
      refine stepS rfl fun K hK => ?_
      go_simp
      exact hK _ _ { h with e54 := fun _ => rfl }
    · intro L s w2 h hk hd hn
      have s62 := h.e54 hd.1
      refine stepS rfl fun K hK => ?_
      go_simp
      exact hK _ _ { h with e55 := fun _ => rfl }
  intro L s wc h hk hl a ha
  have k1 : s 1 = .pointer (some ⟨K1, 0, none⟩) := hk 1 (by kernel_rfl)
  have k2 : s 2 = .pointer (some ⟨K2, 0, none⟩) := hk 2 (by kernel_rfl)
  have k3 : s 3 = .bool true := h.e55 (hl 55 (by decide))
  replace ha := ha.trans (show actS _ s [] = ⟨#[s 0, s 1, s 2, s 3, s 4, s 5, s 6, s 7, s 8, s 9, s 10, s 11, s 12, s 13, s 14, s 15, s 16, s 17, s 18, s 19, s 20, s 21, s 22, s 23, s 24, s 25, s 26, s 27, s 28, s 29, s 30, s 31, s 32, s 33, s 34, s 35, s 36, s 37, s 38, s 39, s 40, s 41, s 42, s 43, s 44, s 45, s 46, s 47, s 48, s 49, s 50, s 51, s 52, s 53, s 54, s 55, s 56, s 57, s 58, s 59, s 60, s 61, s 62, s 63, s 64, s 65, s 66, s 67, s 68, s 69, s 70, s 71, s 72, s 73, s 74, s 75, s 76, s 77, s 78, s 79, s 80, s 81, s 82, s 83, s 84, s 85, s 86, s 87, s 88, s 89, s 90, s 91, s 92, s 93, s 94, s 95, s 96, s 97, s 98, s 99, s 100, s 101, s 102, s 103, s 104, s 105, s 106, s 107, s 108, s 109, s 110, s 111, s 112, s 113, s 114, s 115, s 116, s 117, s 118, s 119, s 120, s 121, s 122, s 123, s 124, s 125, s 126, s 127, s 128, s 129, s 130, s 131, s 132, s 133, s 134, s 135, s 136, s 137, s 138, s 139, s 140, s 141, s 142, s 143, s 144, s 145, s 146, s 147, s 148, s 149, s 150, s 151, s 152, s 153, s 154, s 155, s 156, s 157, s 158, s 159, s 160, s 161, s 162, s 163, s 164, s 165, s 166, s 167, s 168, s 169, s 170, s 171, s 172, s 173, s 174, s 175, s 176, s 177, s 178, s 179, s 180, s 181], []⟩ by kernel_rfl)
  rw [k1, k2, k3] at ha
  subst ha
  replace HK := Lib.hid (HK.out.on h.bel)
  clear h hk hl k1 k2 k3

  --M2
  go_upto_region 6 with (fail)
  replace HB1 := Lib.hid (HK.out.blk (K1, .cells #[.int .i64 1, .int .i64 0] 33 (0, 0)) (by simp))
  replace HB2 := Lib.hid (HK.out.blk (K2, .cells #[.int .i64 4503599627370496, .int .i64 4503599627370496] 33 (0, 0)) (by simp))
  refine wp_region_go (Kn6 wc K1 K2) (by kernel_rfl) (by kernel_rfl) ?_ ?_ ?_
  · exact ⟨(Below.refl _ _).drew, fun _ => rfl, fun h => absurd h Bool.false_ne_true, fun h => absurd h Bool.false_ne_true, fun h => absurd h Bool.false_ne_true, fun h => absurd h Bool.false_ne_true, fun h => absurd h Bool.false_ne_true, fun h => absurd h Bool.false_ne_true, fun h => absurd h Bool.false_ne_true, fun h => absurd h Bool.false_ne_true, fun h => absurd h Bool.false_ne_true, fun h => absurd h Bool.false_ne_true, fun h => absurd h Bool.false_ne_true, fun h => absurd h Bool.false_ne_true, fun h => absurd h Bool.false_ne_true, fun h => absurd h Bool.false_ne_true, fun h => absurd h Bool.false_ne_true, fun h => absurd h Bool.false_ne_true, fun h => absurd h Bool.false_ne_true, fun h => absurd h Bool.false_ne_true, fun h => absurd h Bool.false_ne_true, fun h => absurd h Bool.false_ne_true, fun h => absurd h Bool.false_ne_true, fun h => absurd h Bool.false_ne_true, fun h => absurd h Bool.false_ne_true, fun h => absurd h Bool.false_ne_true, fun h => absurd h Bool.false_ne_true, fun h => absurd h Bool.false_ne_true, fun h => absurd h Bool.false_ne_true, fun h => absurd h Bool.false_ne_true, fun h => absurd h Bool.false_ne_true, fun h => absurd h Bool.false_ne_true, fun h => absurd h Bool.false_ne_true, fun h => absurd h Bool.false_ne_true, fun h => absurd h Bool.false_ne_true, fun h => absurd h Bool.false_ne_true, fun h => absurd h Bool.false_ne_true, fun h => absurd h Bool.false_ne_true, fun h => absurd h Bool.false_ne_true, fun h => absurd h Bool.false_ne_true, fun h => absurd h Bool.false_ne_true, fun h => absurd h Bool.false_ne_true, fun h => absurd h Bool.false_ne_true, fun h => absurd h Bool.false_ne_true, fun h => absurd h Bool.false_ne_true, fun h => absurd h Bool.false_ne_true, fun h => absurd h Bool.false_ne_true, fun h => absurd h Bool.false_ne_true, fun h => absurd h Bool.false_ne_true, fun h => absurd h Bool.false_ne_true, fun h => absurd h Bool.false_ne_true, fun h => absurd h Bool.false_ne_true, fun h => absurd h Bool.false_ne_true, fun h => absurd h Bool.false_ne_true, fun h => absurd h Bool.false_ne_true, fun h => absurd h Bool.false_ne_true, fun h => absurd h Bool.false_ne_true, fun h => absurd h Bool.false_ne_true, fun h => absurd h Bool.false_ne_true, fun h => absurd h Bool.false_ne_true, fun h => absurd h Bool.false_ne_true, fun h => absurd h Bool.false_ne_true, fun h => absurd h Bool.false_ne_true, fun h => absurd h Bool.false_ne_true, fun h => absurd h Bool.false_ne_true, fun h => absurd h Bool.false_ne_true, fun h => absurd h Bool.false_ne_true, fun h => absurd h Bool.false_ne_true, fun h => absurd h Bool.false_ne_true, fun h => absurd h Bool.false_ne_true, fun h => absurd h Bool.false_ne_true, fun h => absurd h Bool.false_ne_true, fun h => absurd h Bool.false_ne_true, fun h => absurd h Bool.false_ne_true⟩
  · refine AllS.consN 1 (some 63) rfl rfl ?_ (AllS.consN 2 (some 64) rfl rfl ?_ (AllS.consN 3 (some 65) rfl rfl ?_ (AllS.consN 4 (some 66) rfl rfl ?_ (AllS.consN 5 (some 67) rfl rfl ?_ (AllS.consN 6 (some 68) rfl rfl ?_ (AllS.consN 7 (some 69) rfl rfl ?_ (AllS.consN 8 (some 70) rfl rfl ?_ (AllS.consN 9 (some 71) rfl rfl ?_ (AllS.consN 10 (some 72) rfl rfl ?_ (AllS.consN 11 (some 73) rfl rfl ?_ (AllS.consN 12 (some 74) rfl rfl ?_ (AllS.consN 13 (some 75) rfl rfl ?_ (AllS.consN 14 (some 76) rfl rfl ?_ (AllS.consN 15 (some 77) rfl rfl ?_ (AllS.consN 16 (some 78) rfl rfl ?_ (AllS.consN 17 (some 79) rfl rfl ?_ (AllS.consN 18 (some 80) rfl rfl ?_ (AllS.consN 19 (some 81) rfl rfl ?_ (AllS.consN 20 (some 82) rfl rfl ?_ (AllS.consN 21 (some 83) rfl rfl ?_ (AllS.consN 22 (some 84) rfl rfl ?_ (AllS.consN 23 (some 85) rfl rfl ?_ (AllS.consN 24 (some 86) rfl rfl ?_ (AllS.consN 25 (some 87) rfl rfl ?_ (AllS.consN 26 (some 88) rfl rfl ?_ (AllS.consN 27 (some 89) rfl rfl ?_ (AllS.consN 28 (some 90) rfl rfl ?_ (AllS.consN 29 (some 91) rfl rfl ?_ (AllS.consN 30 (some 92) rfl rfl ?_ (AllS.consN 31 (some 93) rfl rfl ?_ (AllS.consN 32 (some 94) rfl rfl ?_ (AllS.consN 33 (some 95) rfl rfl ?_ (AllS.consN 34 (some 96) rfl rfl ?_ (AllS.consN 35 (some 97) rfl rfl ?_ (AllS.consN 36 (some 98) rfl rfl ?_ (AllS.consN 37 (some 99) rfl rfl ?_ (AllS.consN 38 (some 100) rfl rfl ?_ (AllS.consN 39 (some 101) rfl rfl ?_ (AllS.consN 40 (some 102) rfl rfl ?_ (AllS.consN 41 (some 103) rfl rfl ?_ (AllS.consN 42 (some 104) rfl rfl ?_ (AllS.consN 43 (some 105) rfl rfl ?_ (AllS.consN 44 (some 106) rfl rfl ?_ (AllS.consN 45 (some 107) rfl rfl ?_ (AllS.consN 46 (some 108) rfl rfl ?_ (AllS.consN 47 (some 109) rfl rfl ?_ (AllS.consN 48 (some 110) rfl rfl ?_ (AllS.consN 49 (some 111) rfl rfl ?_ (AllS.consN 50 (some 112) rfl rfl ?_ (AllS.consN 51 (some 113) rfl rfl ?_ (AllS.consN 52 (some 114) rfl rfl ?_ (AllS.consN 53 (some 115) rfl rfl ?_ (AllS.consN 54 (some 116) rfl rfl ?_ (AllS.consN 55 (some 117) rfl rfl ?_ (AllS.consN 56 (some 118) rfl rfl ?_ (AllS.consN 57 (some 119) rfl rfl ?_ (AllS.consN 58 (some 120) rfl rfl ?_ (AllS.consN 59 (some 121) rfl rfl ?_ (AllS.consN 60 (some 122) rfl rfl ?_ (AllS.consN 61 (some 123) rfl rfl ?_ (AllS.consN 62 (some 124) rfl rfl ?_ (AllS.consN 63 (some 125) rfl rfl ?_ (AllS.consN 64 (some 126) rfl rfl ?_ (AllS.consN 65 (some 127) rfl rfl ?_ (AllS.consN 66 (some 128) rfl rfl ?_ (AllS.consN 67 (some 129) rfl rfl ?_ (AllS.consN 68 (some 130) rfl rfl ?_ (AllS.consN 69 (some 131) rfl rfl ?_ (AllS.consN 70 (some 132) rfl rfl ?_ (AllS.consN 71 (some 3) rfl rfl ?_ AllS.nil))))))))))))))))))))))))))))))))))))))))))))))))))))))))))))))))))))))
    · intro L s w2 h hk hd hn
      have s3 : s 3 = .bool true := h.o3 (by
        cases hx : L 70
        · rfl
        · exact absurd (h.dl hx) (by rw [hn]; exact Bool.false_ne_true))
      refine stepS rfl fun K hK => ?_
      go_simp
      exact hK _ _ { h with e0 := fun _ => rfl, dl := fun _ => rfl }
    · intro L s w2 h hk hd hn
      have s63 := h.e0 hd.1
      refine stepS rfl fun K hK => ?_
      go_simp
      exact hK _ _ { h with e1 := fun _ => rfl }
    · intro L s w2 h hk hd hn
      have gq := h.e1 hd.1
      have s2 : s 2 = _ := hk 2 (by kernel_rfl)
      have b := (h.bel.block _ (lt_of_block HB2.out)).trans HB2.out
      have c0 := cell_two0 b
      have c1 := cell_two1 b
      refine stepS (by simp [Region.wanted, yieldS, gq]) fun K hK => ?_
      go_simp
      exact hK _ _ { h with e2 := fun _ => rfl }
    · intro L s w2 h hk hd hn
      have gq := h.e1 hd.2.1
      have s65 := h.e2 hd.1
      refine stepS (by simp [Region.wanted, yieldS, gq]) fun K hK => ?_
      go_simp
      refine (law8_is (4503599627370496) (4503599627370496) (St.start _)).mono ?_
      rintro e w3 ⟨rfl, hs⟩
      have hb := hs.bel
      exact ⟨_, rfl, hK _ _ { h with bel := below_step h.bel hb, e5 := fun a => (h.e5 a).on hb, e14 := fun a => (h.e14 a).on hb, e17 := fun a => (h.e17 a).on hb, e25 := fun a => (h.e25 a).on hb, e28 := fun a => (h.e28 a).on hb, e37 := fun a => (h.e37 a).on hb, e40 := fun a => (h.e40 a).on hb, e48 := fun a => (h.e48 a).on hb, e52 := fun a => (h.e52 a).on hb, e61 := fun a => (h.e61 a).on hb, e62 := fun a => (h.e62 a).on hb, e63 := fun a => (h.e63 a).on hb, e3 := fun _ => ⟨_, rfl, hs.blk _ (List.mem_cons_self ..)⟩ }⟩
    · intro L s w2 h hk hd hn
      have gq := h.e1 hd.1
      have s2 : s 2 = _ := hk 2 (by kernel_rfl)
      have b := (h.bel.block _ (lt_of_block HB2.out)).trans HB2.out
      have c0 := cell_two0 b
      have c1 := cell_two1 b
      refine stepS (by simp [Region.wanted, yieldS, gq]) fun K hK => ?_
      go_simp
      exact hK _ _ { h with e4 := fun _ => rfl }
    · intro L s w2 h hk hd hn
      have gq := h.e1 hd.2.1
      have s67 := h.e4 hd.1
      refine stepS (by simp [Region.wanted, yieldS, gq]) fun K hK => ?_
      go_simp
      have hb := below_alloc (Below.refl w2.heap.size w2) (.cells #[.int .i64 4503599627370496, .int .i64 4503599627370496] 33)
      exact hK _ _ { h with bel := below_step h.bel hb, e3 := fun a => (h.e3 a).on hb, e14 := fun a => (h.e14 a).on hb, e17 := fun a => (h.e17 a).on hb, e25 := fun a => (h.e25 a).on hb, e28 := fun a => (h.e28 a).on hb, e37 := fun a => (h.e37 a).on hb, e40 := fun a => (h.e40 a).on hb, e48 := fun a => (h.e48 a).on hb, e52 := fun a => (h.e52 a).on hb, e61 := fun a => (h.e61 a).on hb, e62 := fun a => (h.e62 a).on hb, e63 := fun a => (h.e63 a).on hb, e5 := fun _ => ⟨_, rfl, h.bel.size, heap_at _ rfl⟩ }
    · intro L s w2 h hk hd hn
      have gq := h.e1 hd.1
      have s2 : s 2 = _ := hk 2 (by kernel_rfl)
      have b := (h.bel.block _ (lt_of_block HB2.out)).trans HB2.out
      have c0 := cell_two0 b
      have c1 := cell_two1 b
      refine stepS (by simp [Region.wanted, yieldS, gq]) fun K hK => ?_
      go_simp
      exact hK _ _ { h with e6 := fun _ => rfl }
    · intro L s w2 h hk hd hn
      have gq := h.e1 hd.2.2.2.1
      have s69 := h.e6 hd.2.1
      obtain ⟨g, s68, -, hg⟩ := h.e5 hd.1
      refine stepS (by simp [Region.wanted, yieldS, gq]) fun K hK => ?_
      go_simp
      refine (evalC (4503599627370496) (4503599627370496) (4503599627370496) (4503599627370496) 0 1 (St.at ((SpSl.of_blk (l := ([(4503599627370496, 4503599627370496)])) hg (by decide)))) rfl k6_7).mono ?_
      rintro e w3 ⟨rfl, hs⟩
      have hb := hs.bel
      exact ⟨_, rfl, hK _ _ { h with bel := below_step h.bel hb, e3 := fun a => (h.e3 a).on hb, e5 := fun a => (h.e5 a).on hb, e14 := fun a => (h.e14 a).on hb, e17 := fun a => (h.e17 a).on hb, e25 := fun a => (h.e25 a).on hb, e28 := fun a => (h.e28 a).on hb, e37 := fun a => (h.e37 a).on hb, e40 := fun a => (h.e40 a).on hb, e48 := fun a => (h.e48 a).on hb, e52 := fun a => (h.e52 a).on hb, e61 := fun a => (h.e61 a).on hb, e62 := fun a => (h.e62 a).on hb, e63 := fun a => (h.e63 a).on hb, e7 := fun _ => rfl }⟩
    · intro L s w2 h hk hd hn
      have gq := h.e1 hd.2.1
      have s70 := h.e7 hd.1
      refine stepS (by simp [Region.wanted, yieldS, gq]) fun K hK => ?_
      go_simp
      exact hK _ _ { h with e8 := fun _ => rfl }
    · intro L s w2 h hk hd hn
      have gq := h.e1 hd.2.1
      have s70 := h.e7 hd.1
      refine stepS (by simp [Region.wanted, yieldS, gq]) fun K hK => ?_
      go_simp
      exact hK _ _ { h with e9 := fun _ => rfl }
    · intro L s w2 h hk hd hn
      have gq := h.e1 hd.2.2.2.2.1
      obtain ⟨B, s66, hB⟩ := h.e3 hd.1
      have s71 := h.e8 hd.2.1
      have s72 := h.e9 hd.2.2.1
      refine stepS (by simp [Region.wanted, yieldS, gq]) fun K hK => ?_
      go_simp
      refine (law8_is1 (4503599627370496) (4503599627370496) B (St.box hB) (List.mem_cons_self ..)).mono ?_
      rintro e w3 ⟨rfl, hs⟩
      have hb := hs.bel
      exact ⟨_, rfl, hK _ _ { h with bel := below_step h.bel hb, e3 := fun a => (h.e3 a).on hb, e5 := fun a => (h.e5 a).on hb, e14 := fun a => (h.e14 a).on hb, e17 := fun a => (h.e17 a).on hb, e25 := fun a => (h.e25 a).on hb, e28 := fun a => (h.e28 a).on hb, e37 := fun a => (h.e37 a).on hb, e40 := fun a => (h.e40 a).on hb, e48 := fun a => (h.e48 a).on hb, e52 := fun a => (h.e52 a).on hb, e61 := fun a => (h.e61 a).on hb, e62 := fun a => (h.e62 a).on hb, e63 := fun a => (h.e63 a).on hb, e10 := fun _ => rfl }⟩
    · intro L s w2 h hk hd hn
      have s64 := h.e1 hd.1
      have s73 := h.e10 hd.2.1
      refine stepS rfl fun K hK => ?_
      go_simp
      exact hK _ _ { h with e11 := fun _ => rfl }
    · intro L s w2 h hk hd hn
      have s74 := h.e11 hd.1
      refine stepS rfl fun K hK => ?_
      go_simp
      exact hK _ _ { h with e12 := fun _ => rfl }
    · intro L s w2 h hk hd hn
      have gq := h.e12 hd.1
      have s2 : s 2 = _ := hk 2 (by kernel_rfl)
      have b := (h.bel.block _ (lt_of_block HB2.out)).trans HB2.out
      have c0 := cell_two0 b
      have c1 := cell_two1 b
      refine stepS (by simp [Region.wanted, yieldS, gq]) fun K hK => ?_
      go_simp
      exact hK _ _ { h with e13 := fun _ => rfl }
    · intro L s w2 h hk hd hn
      have gq := h.e12 hd.2.1
      have s76 := h.e13 hd.1
      refine stepS (by simp [Region.wanted, yieldS, gq]) fun K hK => ?_
      go_simp
      refine (law8_is (4503599627370496) (4503599627370496) (St.start _)).mono ?_
      rintro e w3 ⟨rfl, hs⟩
      have hb := hs.bel
      exact ⟨_, rfl, hK _ _ { h with bel := below_step h.bel hb, e3 := fun a => (h.e3 a).on hb, e5 := fun a => (h.e5 a).on hb, e17 := fun a => (h.e17 a).on hb, e25 := fun a => (h.e25 a).on hb, e28 := fun a => (h.e28 a).on hb, e37 := fun a => (h.e37 a).on hb, e40 := fun a => (h.e40 a).on hb, e48 := fun a => (h.e48 a).on hb, e52 := fun a => (h.e52 a).on hb, e61 := fun a => (h.e61 a).on hb, e62 := fun a => (h.e62 a).on hb, e63 := fun a => (h.e63 a).on hb, e14 := fun _ => ⟨_, rfl, hs.blk _ (List.mem_cons_self ..)⟩ }⟩
    · intro L s w2 h hk hd hn
      have gq := h.e12 hd.1
      have s2 : s 2 = _ := hk 2 (by kernel_rfl)
      have b := (h.bel.block _ (lt_of_block HB2.out)).trans HB2.out
      have c0 := cell_two0 b
      have c1 := cell_two1 b
      refine stepS (by simp [Region.wanted, yieldS, gq]) fun K hK => ?_
      go_simp
      exact hK _ _ { h with e15 := fun _ => rfl }
    · intro L s w2 h hk hd hn
      have gq := h.e12 hd.1
      refine stepS (by simp [Region.wanted, yieldS, gq]) fun K hK => ?_
      go_simp
      exact hK _ _ { h with e16 := fun _ => rfl }
    · intro L s w2 h hk hd hn
      have gq := h.e12 hd.2.2.1
      have s78 := h.e15 hd.1
      have s79 := h.e16 hd.2.1
      refine stepS (by simp [Region.wanted, yieldS, gq]) fun K hK => ?_
      go_simp
      have hb := below_alloc (Below.refl w2.heap.size w2) (.cells #[.int .i64 4503599627370496, .int .i64 4503599627370496, .int .i64 0, .int .i64 0] 33)
      exact hK _ _ { h with bel := below_step h.bel hb, e3 := fun a => (h.e3 a).on hb, e5 := fun a => (h.e5 a).on hb, e14 := fun a => (h.e14 a).on hb, e25 := fun a => (h.e25 a).on hb, e28 := fun a => (h.e28 a).on hb, e37 := fun a => (h.e37 a).on hb, e40 := fun a => (h.e40 a).on hb, e48 := fun a => (h.e48 a).on hb, e52 := fun a => (h.e52 a).on hb, e61 := fun a => (h.e61 a).on hb, e62 := fun a => (h.e62 a).on hb, e63 := fun a => (h.e63 a).on hb, e17 := fun _ => ⟨_, rfl, h.bel.size, heap_at _ rfl⟩ }
    · intro L s w2 h hk hd hn
      have gq := h.e12 hd.1
      have s2 : s 2 = _ := hk 2 (by kernel_rfl)
      have b := (h.bel.block _ (lt_of_block HB2.out)).trans HB2.out
      have c0 := cell_two0 b
      have c1 := cell_two1 b
      refine stepS (by simp [Region.wanted, yieldS, gq]) fun K hK => ?_
      go_simp
      exact hK _ _ { h with e18 := fun _ => rfl }
    · intro L s w2 h hk hd hn
      have gq := h.e12 hd.2.2.2.1
      have s81 := h.e18 hd.2.1
      obtain ⟨g, s80, -, hg⟩ := h.e17 hd.1
      refine stepS (by simp [Region.wanted, yieldS, gq]) fun K hK => ?_
      go_simp
      refine (evalC (4503599627370496) (4503599627370496) (4503599627370496) (4503599627370496) 0 2 (St.at ((SpSl.of_blk (l := ([(4503599627370496, 4503599627370496), (0, 0)])) hg (by decide)))) rfl k6_19).mono ?_
      rintro e w3 ⟨rfl, hs⟩
      have hb := hs.bel
      exact ⟨_, rfl, hK _ _ { h with bel := below_step h.bel hb, e3 := fun a => (h.e3 a).on hb, e5 := fun a => (h.e5 a).on hb, e14 := fun a => (h.e14 a).on hb, e17 := fun a => (h.e17 a).on hb, e25 := fun a => (h.e25 a).on hb, e28 := fun a => (h.e28 a).on hb, e37 := fun a => (h.e37 a).on hb, e40 := fun a => (h.e40 a).on hb, e48 := fun a => (h.e48 a).on hb, e52 := fun a => (h.e52 a).on hb, e61 := fun a => (h.e61 a).on hb, e62 := fun a => (h.e62 a).on hb, e63 := fun a => (h.e63 a).on hb, e19 := fun _ => rfl }⟩
    · intro L s w2 h hk hd hn
      have gq := h.e12 hd.2.1
      have s82 := h.e19 hd.1
      refine stepS (by simp [Region.wanted, yieldS, gq]) fun K hK => ?_
      go_simp
      exact hK _ _ { h with e20 := fun _ => rfl }
    · intro L s w2 h hk hd hn
      have gq := h.e12 hd.2.1
      have s82 := h.e19 hd.1
      refine stepS (by simp [Region.wanted, yieldS, gq]) fun K hK => ?_
      go_simp
      exact hK _ _ { h with e21 := fun _ => rfl }
    · intro L s w2 h hk hd hn
      have gq := h.e12 hd.2.2.2.2.1
      obtain ⟨B, s77, hB⟩ := h.e14 hd.1
      have s83 := h.e20 hd.2.1
      have s84 := h.e21 hd.2.2.1
      refine stepS (by simp [Region.wanted, yieldS, gq]) fun K hK => ?_
      go_simp
      refine (law8_is1 (4503599627370496) (4503599627370496) B (St.box hB) (List.mem_cons_self ..)).mono ?_
      rintro e w3 ⟨rfl, hs⟩
      have hb := hs.bel
      exact ⟨_, rfl, hK _ _ { h with bel := below_step h.bel hb, e3 := fun a => (h.e3 a).on hb, e5 := fun a => (h.e5 a).on hb, e14 := fun a => (h.e14 a).on hb, e17 := fun a => (h.e17 a).on hb, e25 := fun a => (h.e25 a).on hb, e28 := fun a => (h.e28 a).on hb, e37 := fun a => (h.e37 a).on hb, e40 := fun a => (h.e40 a).on hb, e48 := fun a => (h.e48 a).on hb, e52 := fun a => (h.e52 a).on hb, e61 := fun a => (h.e61 a).on hb, e62 := fun a => (h.e62 a).on hb, e63 := fun a => (h.e63 a).on hb, e22 := fun _ => rfl }⟩
    · intro L s w2 h hk hd hn
      have s75 := h.e12 hd.1
      have s85 := h.e22 hd.2.1
      refine stepS rfl fun K hK => ?_
      go_simp
      exact hK _ _ { h with e23 := fun _ => rfl }
    · intro L s w2 h hk hd hn
      have s86 := h.e23 hd.1
      refine stepS rfl fun K hK => ?_
      go_simp
      exact hK _ _ { h with e24 := fun _ => rfl }
    · intro L s w2 h hk hd hn
      have gq := h.e24 hd.1
      refine stepS (by simp [Region.wanted, yieldS, gq]) fun K hK => ?_
      go_simp
      refine (law8_fails (6) (St.start _)).mono ?_
      rintro e w3 ⟨rfl, hs⟩
      have hb := hs.bel
      exact ⟨_, rfl, hK _ _ { h with bel := below_step h.bel hb, e3 := fun a => (h.e3 a).on hb, e5 := fun a => (h.e5 a).on hb, e14 := fun a => (h.e14 a).on hb, e17 := fun a => (h.e17 a).on hb, e28 := fun a => (h.e28 a).on hb, e37 := fun a => (h.e37 a).on hb, e40 := fun a => (h.e40 a).on hb, e48 := fun a => (h.e48 a).on hb, e52 := fun a => (h.e52 a).on hb, e61 := fun a => (h.e61 a).on hb, e62 := fun a => (h.e62 a).on hb, e63 := fun a => (h.e63 a).on hb, e25 := fun _ => ⟨_, rfl, hs.blk _ (List.mem_cons_self ..)⟩ }⟩
    · intro L s w2 h hk hd hn
      have gq := h.e24 hd.1
      refine stepS (by simp [Region.wanted, yieldS, gq]) fun K hK => ?_
      go_simp
      exact hK _ _ { h with e26 := fun _ => rfl }
    · intro L s w2 h hk hd hn
      have gq := h.e24 hd.2.1
      refine stepS (by simp [Region.wanted, yieldS, gq]) fun K hK => ?_
      go_simp
      refine (law8_whole (1) (1) (St.start _) (by decide) (by decide)).mono ?_
      rintro e w3 ⟨rfl, -, hb⟩
      exact ⟨_, rfl, hK _ _ { h with bel := below_step h.bel hb, e3 := fun a => (h.e3 a).on hb, e5 := fun a => (h.e5 a).on hb, e14 := fun a => (h.e14 a).on hb, e17 := fun a => (h.e17 a).on hb, e25 := fun a => (h.e25 a).on hb, e28 := fun a => (h.e28 a).on hb, e37 := fun a => (h.e37 a).on hb, e40 := fun a => (h.e40 a).on hb, e48 := fun a => (h.e48 a).on hb, e52 := fun a => (h.e52 a).on hb, e61 := fun a => (h.e61 a).on hb, e62 := fun a => (h.e62 a).on hb, e63 := fun a => (h.e63 a).on hb, e27 := fun _ => rfl }⟩
    · intro L s w2 h hk hd hn
      have gq := h.e24 hd.2.2.1
      have s89 := h.e26 hd.1
      have s90 := h.e27 hd.2.1
      refine stepS (by simp [Region.wanted, yieldS, gq]) fun K hK => ?_
      go_simp
      have hb := below_alloc (Below.refl w2.heap.size w2) (.cells #[.int .i64 1, .int .i64 1, .int .i64 4294967296, .int .i64 4294967296] 33)
      exact hK _ _ { h with bel := below_step h.bel hb, e3 := fun a => (h.e3 a).on hb, e5 := fun a => (h.e5 a).on hb, e14 := fun a => (h.e14 a).on hb, e17 := fun a => (h.e17 a).on hb, e25 := fun a => (h.e25 a).on hb, e37 := fun a => (h.e37 a).on hb, e40 := fun a => (h.e40 a).on hb, e48 := fun a => (h.e48 a).on hb, e52 := fun a => (h.e52 a).on hb, e61 := fun a => (h.e61 a).on hb, e62 := fun a => (h.e62 a).on hb, e63 := fun a => (h.e63 a).on hb, e28 := fun _ => ⟨_, rfl, h.bel.size, heap_at _ rfl⟩ }
    · intro L s w2 h hk hd hn
      have gq := h.e24 hd.1
      have s2 : s 2 = _ := hk 2 (by kernel_rfl)
      have b := (h.bel.block _ (lt_of_block HB2.out)).trans HB2.out
      have c0 := cell_two0 b
      have c1 := cell_two1 b
      refine stepS (by simp [Region.wanted, yieldS, gq]) fun K hK => ?_
      go_simp
      exact hK _ _ { h with e29 := fun _ => rfl }
    · intro L s w2 h hk hd hn
      have gq := h.e24 hd.2.2.2.1
      have s92 := h.e29 hd.2.1
      obtain ⟨g, s91, -, hg⟩ := h.e28 hd.1
      refine stepS (by simp [Region.wanted, yieldS, gq]) fun K hK => ?_
      go_simp
      refine (evalC (4503599627370496) (4503599627370496) (0) (0) 6 2 (St.at ((SpSl.of_blk (l := ([(1, 1), (4294967296, 4294967296)])) hg (by decide)))) rfl k6_30).mono ?_
      rintro e w3 ⟨rfl, hs⟩
      have hb := hs.bel
      exact ⟨_, rfl, hK _ _ { h with bel := below_step h.bel hb, e3 := fun a => (h.e3 a).on hb, e5 := fun a => (h.e5 a).on hb, e14 := fun a => (h.e14 a).on hb, e17 := fun a => (h.e17 a).on hb, e25 := fun a => (h.e25 a).on hb, e28 := fun a => (h.e28 a).on hb, e37 := fun a => (h.e37 a).on hb, e40 := fun a => (h.e40 a).on hb, e48 := fun a => (h.e48 a).on hb, e52 := fun a => (h.e52 a).on hb, e61 := fun a => (h.e61 a).on hb, e62 := fun a => (h.e62 a).on hb, e63 := fun a => (h.e63 a).on hb, e30 := fun _ => rfl }⟩
    · intro L s w2 h hk hd hn
      have gq := h.e24 hd.2.1
      have s93 := h.e30 hd.1
      refine stepS (by simp [Region.wanted, yieldS, gq]) fun K hK => ?_
      go_simp
      exact hK _ _ { h with e31 := fun _ => rfl }
    · intro L s w2 h hk hd hn
      have gq := h.e24 hd.2.1
      have s93 := h.e30 hd.1
      refine stepS (by simp [Region.wanted, yieldS, gq]) fun K hK => ?_
      go_simp
      exact hK _ _ { h with e32 := fun _ => rfl }
    · intro L s w2 h hk hd hn
      have gq := h.e24 hd.2.2.2.2.1
      obtain ⟨B, s88, hB⟩ := h.e25 hd.1
      have s94 := h.e31 hd.2.1
      have s95 := h.e32 hd.2.2.1
      refine stepS (by simp [Region.wanted, yieldS, gq]) fun K hK => ?_
      go_simp
      refine (law8_fails1 (6) B (St.box hB) (List.mem_cons_self ..)).mono ?_
      rintro e w3 ⟨rfl, hs⟩
      have hb := hs.bel
      exact ⟨_, rfl, hK _ _ { h with bel := below_step h.bel hb, e3 := fun a => (h.e3 a).on hb, e5 := fun a => (h.e5 a).on hb, e14 := fun a => (h.e14 a).on hb, e17 := fun a => (h.e17 a).on hb, e25 := fun a => (h.e25 a).on hb, e28 := fun a => (h.e28 a).on hb, e37 := fun a => (h.e37 a).on hb, e40 := fun a => (h.e40 a).on hb, e48 := fun a => (h.e48 a).on hb, e52 := fun a => (h.e52 a).on hb, e61 := fun a => (h.e61 a).on hb, e62 := fun a => (h.e62 a).on hb, e63 := fun a => (h.e63 a).on hb, e33 := fun _ => rfl }⟩
    · intro L s w2 h hk hd hn
      have s87 := h.e24 hd.1
      have s96 := h.e33 hd.2.1
      refine stepS rfl fun K hK => ?_
      go_simp
      exact hK _ _ { h with e34 := fun _ => rfl }
    · intro L s w2 h hk hd hn
      have s97 := h.e34 hd.1
      refine stepS rfl fun K hK => ?_
      go_simp
      exact hK _ _ { h with e35 := fun _ => rfl }
    · intro L s w2 h hk hd hn
      have gq := h.e35 hd.1
      have s2 : s 2 = _ := hk 2 (by kernel_rfl)
      have b := (h.bel.block _ (lt_of_block HB2.out)).trans HB2.out
      have c0 := cell_two0 b
      have c1 := cell_two1 b
      refine stepS (by simp [Region.wanted, yieldS, gq]) fun K hK => ?_
      go_simp
      exact hK _ _ { h with e36 := fun _ => rfl }
    · intro L s w2 h hk hd hn
      have gq := h.e35 hd.2.1
      have s99 := h.e36 hd.1
      refine stepS (by simp [Region.wanted, yieldS, gq]) fun K hK => ?_
      go_simp
      refine (law8_is (4503599627370496) (4503599627370496) (St.start _)).mono ?_
      rintro e w3 ⟨rfl, hs⟩
      have hb := hs.bel
      exact ⟨_, rfl, hK _ _ { h with bel := below_step h.bel hb, e3 := fun a => (h.e3 a).on hb, e5 := fun a => (h.e5 a).on hb, e14 := fun a => (h.e14 a).on hb, e17 := fun a => (h.e17 a).on hb, e25 := fun a => (h.e25 a).on hb, e28 := fun a => (h.e28 a).on hb, e40 := fun a => (h.e40 a).on hb, e48 := fun a => (h.e48 a).on hb, e52 := fun a => (h.e52 a).on hb, e61 := fun a => (h.e61 a).on hb, e62 := fun a => (h.e62 a).on hb, e63 := fun a => (h.e63 a).on hb, e37 := fun _ => ⟨_, rfl, hs.blk _ (List.mem_cons_self ..)⟩ }⟩
    · intro L s w2 h hk hd hn
      have gq := h.e35 hd.1
      have s2 : s 2 = _ := hk 2 (by kernel_rfl)
      have b := (h.bel.block _ (lt_of_block HB2.out)).trans HB2.out
      have c0 := cell_two0 b
      have c1 := cell_two1 b
      refine stepS (by simp [Region.wanted, yieldS, gq]) fun K hK => ?_
      go_simp
      exact hK _ _ { h with e38 := fun _ => rfl }
    · intro L s w2 h hk hd hn
      have gq := h.e35 hd.1
      have s2 : s 2 = _ := hk 2 (by kernel_rfl)
      have b := (h.bel.block _ (lt_of_block HB2.out)).trans HB2.out
      have c0 := cell_two0 b
      have c1 := cell_two1 b
      refine stepS (by simp [Region.wanted, yieldS, gq]) fun K hK => ?_
      go_simp
      exact hK _ _ { h with e39 := fun _ => rfl }
    · intro L s w2 h hk hd hn
      have gq := h.e35 hd.2.2.1
      have s101 := h.e38 hd.1
      have s102 := h.e39 hd.2.1
      refine stepS (by simp [Region.wanted, yieldS, gq]) fun K hK => ?_
      go_simp
      have hb := below_alloc (Below.refl w2.heap.size w2) (.cells #[.int .i64 4503599627370496, .int .i64 4503599627370496, .int .i64 4503599627370496, .int .i64 4503599627370496] 33)
      exact hK _ _ { h with bel := below_step h.bel hb, e3 := fun a => (h.e3 a).on hb, e5 := fun a => (h.e5 a).on hb, e14 := fun a => (h.e14 a).on hb, e17 := fun a => (h.e17 a).on hb, e25 := fun a => (h.e25 a).on hb, e28 := fun a => (h.e28 a).on hb, e37 := fun a => (h.e37 a).on hb, e48 := fun a => (h.e48 a).on hb, e52 := fun a => (h.e52 a).on hb, e61 := fun a => (h.e61 a).on hb, e62 := fun a => (h.e62 a).on hb, e63 := fun a => (h.e63 a).on hb, e40 := fun _ => ⟨_, rfl, h.bel.size, heap_at _ rfl⟩ }
    · intro L s w2 h hk hd hn
      have gq := h.e35 hd.1
      have s2 : s 2 = _ := hk 2 (by kernel_rfl)
      have b := (h.bel.block _ (lt_of_block HB2.out)).trans HB2.out
      have c0 := cell_two0 b
      have c1 := cell_two1 b
      refine stepS (by simp [Region.wanted, yieldS, gq]) fun K hK => ?_
      go_simp
      exact hK _ _ { h with e41 := fun _ => rfl }
    · intro L s w2 h hk hd hn
      have gq := h.e35 hd.2.2.2.1
      have s104 := h.e41 hd.2.1
      obtain ⟨g, s103, -, hg⟩ := h.e40 hd.1
      refine stepS (by simp [Region.wanted, yieldS, gq]) fun K hK => ?_
      go_simp
      refine (slopeC (4503599627370496) (4503599627370496) (4503599627370496) (4503599627370496) 0 2 (St.at ((SpSl.of_blk (l := ([(4503599627370496, 4503599627370496), (4503599627370496, 4503599627370496)])) hg (by decide)))) rfl k6_42).mono ?_
      rintro e w3 ⟨rfl, hs⟩
      have hb := hs.bel
      exact ⟨_, rfl, hK _ _ { h with bel := below_step h.bel hb, e3 := fun a => (h.e3 a).on hb, e5 := fun a => (h.e5 a).on hb, e14 := fun a => (h.e14 a).on hb, e17 := fun a => (h.e17 a).on hb, e25 := fun a => (h.e25 a).on hb, e28 := fun a => (h.e28 a).on hb, e37 := fun a => (h.e37 a).on hb, e40 := fun a => (h.e40 a).on hb, e48 := fun a => (h.e48 a).on hb, e52 := fun a => (h.e52 a).on hb, e61 := fun a => (h.e61 a).on hb, e62 := fun a => (h.e62 a).on hb, e63 := fun a => (h.e63 a).on hb, e42 := fun _ => rfl }⟩
    · intro L s w2 h hk hd hn
      have gq := h.e35 hd.2.1
      have s105 := h.e42 hd.1
      refine stepS (by simp [Region.wanted, yieldS, gq]) fun K hK => ?_
      go_simp
      exact hK _ _ { h with e43 := fun _ => rfl }
    · intro L s w2 h hk hd hn
      have gq := h.e35 hd.2.1
      have s105 := h.e42 hd.1
      refine stepS (by simp [Region.wanted, yieldS, gq]) fun K hK => ?_
      go_simp
      exact hK _ _ { h with e44 := fun _ => rfl }
    · intro L s w2 h hk hd hn
      have gq := h.e35 hd.2.2.2.2.1
      obtain ⟨B, s100, hB⟩ := h.e37 hd.1
      have s106 := h.e43 hd.2.1
      have s107 := h.e44 hd.2.2.1
      refine stepS (by simp [Region.wanted, yieldS, gq]) fun K hK => ?_
      go_simp
      refine (law8_is1 (4503599627370496) (4503599627370496) B (St.box hB) (List.mem_cons_self ..)).mono ?_
      rintro e w3 ⟨rfl, hs⟩
      have hb := hs.bel
      exact ⟨_, rfl, hK _ _ { h with bel := below_step h.bel hb, e3 := fun a => (h.e3 a).on hb, e5 := fun a => (h.e5 a).on hb, e14 := fun a => (h.e14 a).on hb, e17 := fun a => (h.e17 a).on hb, e25 := fun a => (h.e25 a).on hb, e28 := fun a => (h.e28 a).on hb, e37 := fun a => (h.e37 a).on hb, e40 := fun a => (h.e40 a).on hb, e48 := fun a => (h.e48 a).on hb, e52 := fun a => (h.e52 a).on hb, e61 := fun a => (h.e61 a).on hb, e62 := fun a => (h.e62 a).on hb, e63 := fun a => (h.e63 a).on hb, e45 := fun _ => rfl }⟩
    · intro L s w2 h hk hd hn
      have s98 := h.e35 hd.1
      have s108 := h.e45 hd.2.1
      refine stepS rfl fun K hK => ?_
      go_simp
      exact hK _ _ { h with e46 := fun _ => rfl }
    · intro L s w2 h hk hd hn
      have s109 := h.e46 hd.1
      refine stepS rfl fun K hK => ?_
      go_simp
      exact hK _ _ { h with e47 := fun _ => rfl }
    · intro L s w2 h hk hd hn
      have gq := h.e47 hd.1
      refine stepS (by simp [Region.wanted, yieldS, gq]) fun K hK => ?_
      go_simp
      refine (law8_fails (6) (St.start _)).mono ?_
      rintro e w3 ⟨rfl, hs⟩
      have hb := hs.bel
      exact ⟨_, rfl, hK _ _ { h with bel := below_step h.bel hb, e3 := fun a => (h.e3 a).on hb, e5 := fun a => (h.e5 a).on hb, e14 := fun a => (h.e14 a).on hb, e17 := fun a => (h.e17 a).on hb, e25 := fun a => (h.e25 a).on hb, e28 := fun a => (h.e28 a).on hb, e37 := fun a => (h.e37 a).on hb, e40 := fun a => (h.e40 a).on hb, e52 := fun a => (h.e52 a).on hb, e61 := fun a => (h.e61 a).on hb, e62 := fun a => (h.e62 a).on hb, e63 := fun a => (h.e63 a).on hb, e48 := fun _ => ⟨_, rfl, hs.blk _ (List.mem_cons_self ..)⟩ }⟩
    · intro L s w2 h hk hd hn
      have gq := h.e47 hd.1
      refine stepS (by simp [Region.wanted, yieldS, gq]) fun K hK => ?_
      go_simp
      exact hK _ _ { h with e49 := fun _ => rfl }
    · intro L s w2 h hk hd hn
      have gq := h.e47 hd.1
      refine stepS (by simp [Region.wanted, yieldS, gq]) fun K hK => ?_
      go_simp
      exact hK _ _ { h with e50 := fun _ => rfl }
    · intro L s w2 h hk hd hn
      have gq := h.e47 hd.1
      have s2 : s 2 = _ := hk 2 (by kernel_rfl)
      have b := (h.bel.block _ (lt_of_block HB2.out)).trans HB2.out
      have c0 := cell_two0 b
      have c1 := cell_two1 b
      refine stepS (by simp [Region.wanted, yieldS, gq]) fun K hK => ?_
      go_simp
      exact hK _ _ { h with e51 := fun _ => rfl }
    · intro L s w2 h hk hd hn
      have gq := h.e47 hd.2.2.2.1
      have s112 := h.e49 hd.1
      have s113 := h.e50 hd.2.1
      have s114 := h.e51 hd.2.2.1
      refine stepS (by simp [Region.wanted, yieldS, gq]) fun K hK => ?_
      go_simp
      have hb := below_alloc (Below.refl w2.heap.size w2) (.cells #[.int .i64 0, .int .i64 0, .int .i64 0, .int .i64 0, .int .i64 4503599627370496, .int .i64 4503599627370496] 33)
      exact hK _ _ { h with bel := below_step h.bel hb, e3 := fun a => (h.e3 a).on hb, e5 := fun a => (h.e5 a).on hb, e14 := fun a => (h.e14 a).on hb, e17 := fun a => (h.e17 a).on hb, e25 := fun a => (h.e25 a).on hb, e28 := fun a => (h.e28 a).on hb, e37 := fun a => (h.e37 a).on hb, e40 := fun a => (h.e40 a).on hb, e48 := fun a => (h.e48 a).on hb, e61 := fun a => (h.e61 a).on hb, e62 := fun a => (h.e62 a).on hb, e63 := fun a => (h.e63 a).on hb, e52 := fun _ => ⟨_, rfl, h.bel.size, heap_at _ rfl⟩ }
    · intro L s w2 h hk hd hn
      have gq := h.e47 hd.1
      refine stepS (by simp [Region.wanted, yieldS, gq]) fun K hK => ?_
      go_simp
      exact hK _ _ { h with e53 := fun _ => rfl }
    · intro L s w2 h hk hd hn
      have gq := h.e47 hd.2.2.2.1
      have s116 := h.e53 hd.2.1
      obtain ⟨g, s115, -, hg⟩ := h.e52 hd.1
      refine stepS (by simp [Region.wanted, yieldS, gq]) fun K hK => ?_
      go_simp
      refine (slopeC (0) (0) (0) (0) 6 3 (St.at ((SpSl.of_blk (l := ([(0, 0), (0, 0), (4503599627370496, 4503599627370496)])) hg (by decide)))) rfl k6_54).mono ?_
      rintro e w3 ⟨rfl, hs⟩
      have hb := hs.bel
      exact ⟨_, rfl, hK _ _ { h with bel := below_step h.bel hb, e3 := fun a => (h.e3 a).on hb, e5 := fun a => (h.e5 a).on hb, e14 := fun a => (h.e14 a).on hb, e17 := fun a => (h.e17 a).on hb, e25 := fun a => (h.e25 a).on hb, e28 := fun a => (h.e28 a).on hb, e37 := fun a => (h.e37 a).on hb, e40 := fun a => (h.e40 a).on hb, e48 := fun a => (h.e48 a).on hb, e52 := fun a => (h.e52 a).on hb, e61 := fun a => (h.e61 a).on hb, e62 := fun a => (h.e62 a).on hb, e63 := fun a => (h.e63 a).on hb, e54 := fun _ => rfl }⟩
    · intro L s w2 h hk hd hn
      have gq := h.e47 hd.2.1
      have s117 := h.e54 hd.1
      refine stepS (by simp [Region.wanted, yieldS, gq]) fun K hK => ?_
      go_simp
      exact hK _ _ { h with e55 := fun _ => rfl }
    · intro L s w2 h hk hd hn
      have gq := h.e47 hd.2.1
      have s117 := h.e54 hd.1
      refine stepS (by simp [Region.wanted, yieldS, gq]) fun K hK => ?_
      go_simp
      exact hK _ _ { h with e56 := fun _ => rfl }
    · intro L s w2 h hk hd hn
      have gq := h.e47 hd.2.2.2.2.1
      obtain ⟨B, s111, hB⟩ := h.e48 hd.1
      have s118 := h.e55 hd.2.1
      have s119 := h.e56 hd.2.2.1
      refine stepS (by simp [Region.wanted, yieldS, gq]) fun K hK => ?_
      go_simp
      refine (law8_fails1 (6) B (St.box hB) (List.mem_cons_self ..)).mono ?_
      rintro e w3 ⟨rfl, hs⟩
      have hb := hs.bel
      exact ⟨_, rfl, hK _ _ { h with bel := below_step h.bel hb, e3 := fun a => (h.e3 a).on hb, e5 := fun a => (h.e5 a).on hb, e14 := fun a => (h.e14 a).on hb, e17 := fun a => (h.e17 a).on hb, e25 := fun a => (h.e25 a).on hb, e28 := fun a => (h.e28 a).on hb, e37 := fun a => (h.e37 a).on hb, e40 := fun a => (h.e40 a).on hb, e48 := fun a => (h.e48 a).on hb, e52 := fun a => (h.e52 a).on hb, e61 := fun a => (h.e61 a).on hb, e62 := fun a => (h.e62 a).on hb, e63 := fun a => (h.e63 a).on hb, e57 := fun _ => rfl }⟩
    · intro L s w2 h hk hd hn
      have s110 := h.e47 hd.1
      have s120 := h.e57 hd.2.1
      refine stepS rfl fun K hK => ?_
      go_simp
      exact hK _ _ { h with e58 := fun _ => rfl }
    · intro L s w2 h hk hd hn
      have s121 := h.e58 hd.1
      refine stepS rfl fun K hK => ?_
      go_simp
      exact hK _ _ { h with e59 := fun _ => rfl }
    · intro L s w2 h hk hd hn
      have gq := h.e59 hd.1
      refine stepS (by simp [Region.wanted, yieldS, gq]) fun K hK => ?_
      go_simp
      refine (law8_whole (255) (255) (St.start _) (by decide) (by decide)).mono ?_
      rintro e w3 ⟨rfl, -, hb⟩
      exact ⟨_, rfl, hK _ _ { h with bel := below_step h.bel hb, e3 := fun a => (h.e3 a).on hb, e5 := fun a => (h.e5 a).on hb, e14 := fun a => (h.e14 a).on hb, e17 := fun a => (h.e17 a).on hb, e25 := fun a => (h.e25 a).on hb, e28 := fun a => (h.e28 a).on hb, e37 := fun a => (h.e37 a).on hb, e40 := fun a => (h.e40 a).on hb, e48 := fun a => (h.e48 a).on hb, e52 := fun a => (h.e52 a).on hb, e61 := fun a => (h.e61 a).on hb, e62 := fun a => (h.e62 a).on hb, e63 := fun a => (h.e63 a).on hb, e60 := fun _ => rfl }⟩
    · intro L s w2 h hk hd hn
      have gq := h.e59 hd.2.2.1
      have s123 := h.e60 hd.1
      refine stepS (by simp [Region.wanted, yieldS, gq]) fun K hK => ?_
      go_simp
      refine (law8_is (1095216660480) (1095216660480) (St.start _)).mono ?_
      rintro e w3 ⟨rfl, hs⟩
      have hb := hs.bel
      exact ⟨_, rfl, hK _ _ { h with bel := below_step h.bel hb, e3 := fun a => (h.e3 a).on hb, e5 := fun a => (h.e5 a).on hb, e14 := fun a => (h.e14 a).on hb, e17 := fun a => (h.e17 a).on hb, e25 := fun a => (h.e25 a).on hb, e28 := fun a => (h.e28 a).on hb, e37 := fun a => (h.e37 a).on hb, e40 := fun a => (h.e40 a).on hb, e48 := fun a => (h.e48 a).on hb, e52 := fun a => (h.e52 a).on hb, e62 := fun a => (h.e62 a).on hb, e63 := fun a => (h.e63 a).on hb, e61 := fun _ => ⟨_, rfl, hs.blk _ (List.mem_cons_self ..)⟩ }⟩
    · intro L s w2 h hk hd hn
      have gq := h.e59 hd.1
      refine stepS (by simp [Region.wanted, yieldS, gq]) fun K hK => ?_
      go_simp
      have hb := below_alloc (Below.refl w2.heap.size w2) (.cells #[.int .i64 1, .int .i64 1, .int .i64 1, .int .i64 1, .int .i64 1, .int .i64 1, .int .i64 1, .int .i64 1] 3)
      exact hK _ _ { h with bel := below_step h.bel hb, e3 := fun a => (h.e3 a).on hb, e5 := fun a => (h.e5 a).on hb, e14 := fun a => (h.e14 a).on hb, e17 := fun a => (h.e17 a).on hb, e25 := fun a => (h.e25 a).on hb, e28 := fun a => (h.e28 a).on hb, e37 := fun a => (h.e37 a).on hb, e40 := fun a => (h.e40 a).on hb, e48 := fun a => (h.e48 a).on hb, e52 := fun a => (h.e52 a).on hb, e61 := fun a => (h.e61 a).on hb, e63 := fun a => (h.e63 a).on hb, e62 := fun _ => ⟨_, rfl, h.bel.size, heap_at _ rfl⟩ }
    · intro L s w2 h hk hd hn
      have gq := h.e59 hd.2.2.1
      obtain ⟨g, s125, -, hg⟩ := h.e62 hd.1
      refine stepS (by simp [Region.wanted, yieldS, gq]) fun K hK => ?_
      go_simp
      refine (law8_list [1, 1, 1, 1, 1, 1, 1, 1] 8 g (w := w2) (bs := [(g, .cells #[.int .i64 1, .int .i64 1, .int .i64 1, .int .i64 1, .int .i64 1, .int .i64 1, .int .i64 1, .int .i64 1] 3 (0, 0))]) (ao := none) (cap := 0) (l := []) (St.box hg) rfl (List.mem_cons_self ..) (by decide) (by decide)).mono ?_
      rintro e w3 ⟨ao, cap, rfl, hs⟩
      have hb := hs.bel
      exact ⟨_, rfl, hK _ _ { h with bel := below_step h.bel hb, e3 := fun a => (h.e3 a).on hb, e5 := fun a => (h.e5 a).on hb, e14 := fun a => (h.e14 a).on hb, e17 := fun a => (h.e17 a).on hb, e25 := fun a => (h.e25 a).on hb, e28 := fun a => (h.e28 a).on hb, e37 := fun a => (h.e37 a).on hb, e40 := fun a => (h.e40 a).on hb, e48 := fun a => (h.e48 a).on hb, e52 := fun a => (h.e52 a).on hb, e61 := fun a => (h.e61 a).on hb, e62 := fun a => (h.e62 a).on hb, e63 := fun _ => ⟨ao, cap, rfl, hs.slc⟩ }⟩
    · intro L s w2 h hk hd hn
      have gq := h.e59 hd.2.1
      refine stepS (by simp [Region.wanted, yieldS, gq]) fun K hK => ?_
      go_simp
      refine (law8_whole (2) (2) (St.start _) (by decide) (by decide)).mono ?_
      rintro e w3 ⟨rfl, -, hb⟩
      exact ⟨_, rfl, hK _ _ { h with bel := below_step h.bel hb, e3 := fun a => (h.e3 a).on hb, e5 := fun a => (h.e5 a).on hb, e14 := fun a => (h.e14 a).on hb, e17 := fun a => (h.e17 a).on hb, e25 := fun a => (h.e25 a).on hb, e28 := fun a => (h.e28 a).on hb, e37 := fun a => (h.e37 a).on hb, e40 := fun a => (h.e40 a).on hb, e48 := fun a => (h.e48 a).on hb, e52 := fun a => (h.e52 a).on hb, e61 := fun a => (h.e61 a).on hb, e62 := fun a => (h.e62 a).on hb, e63 := fun a => (h.e63 a).on hb, e64 := fun _ => rfl }⟩
    · intro L s w2 h hk hd hn
      have gq := h.e59 hd.2.2.2.1
      have s127 := h.e64 hd.2.1
      obtain ⟨ao, cap, s126, hsp⟩ := h.e63 hd.1
      simp only [List.length_cons, List.length_nil, List.length_map] at s126
      refine stepS (by simp [Region.wanted, yieldS, gq]) fun K hK => ?_
      go_simp
      refine (evalC (8589934592) (8589934592) (1095216660480) (1095216660480) 0 8 (St.at (hsp)) rfl k6_65).mono ?_
      rintro e w3 ⟨rfl, hs⟩
      have hb := hs.bel
      exact ⟨_, rfl, hK _ _ { h with bel := below_step h.bel hb, e3 := fun a => (h.e3 a).on hb, e5 := fun a => (h.e5 a).on hb, e14 := fun a => (h.e14 a).on hb, e17 := fun a => (h.e17 a).on hb, e25 := fun a => (h.e25 a).on hb, e28 := fun a => (h.e28 a).on hb, e37 := fun a => (h.e37 a).on hb, e40 := fun a => (h.e40 a).on hb, e48 := fun a => (h.e48 a).on hb, e52 := fun a => (h.e52 a).on hb, e61 := fun a => (h.e61 a).on hb, e62 := fun a => (h.e62 a).on hb, e63 := fun a => (h.e63 a).on hb, e65 := fun _ => rfl }⟩
    · intro L s w2 h hk hd hn
      have gq := h.e59 hd.2.1
      have s128 := h.e65 hd.1
      refine stepS (by simp [Region.wanted, yieldS, gq]) fun K hK => ?_
      go_simp
      exact hK _ _ { h with e66 := fun _ => rfl }
    · intro L s w2 h hk hd hn
      have gq := h.e59 hd.2.1
      have s128 := h.e65 hd.1
      refine stepS (by simp [Region.wanted, yieldS, gq]) fun K hK => ?_
      go_simp
      exact hK _ _ { h with e67 := fun _ => rfl }
    · intro L s w2 h hk hd hn
      have gq := h.e59 hd.2.2.2.2.1
      obtain ⟨B, s124, hB⟩ := h.e61 hd.1
      have s129 := h.e66 hd.2.1
      have s130 := h.e67 hd.2.2.1
      refine stepS (by simp [Region.wanted, yieldS, gq]) fun K hK => ?_
      go_simp
      refine (law8_is1 (1095216660480) (1095216660480) B (St.box hB) (List.mem_cons_self ..)).mono ?_
      rintro e w3 ⟨rfl, hs⟩
      have hb := hs.bel
      exact ⟨_, rfl, hK _ _ { h with bel := below_step h.bel hb, e3 := fun a => (h.e3 a).on hb, e5 := fun a => (h.e5 a).on hb, e14 := fun a => (h.e14 a).on hb, e17 := fun a => (h.e17 a).on hb, e25 := fun a => (h.e25 a).on hb, e28 := fun a => (h.e28 a).on hb, e37 := fun a => (h.e37 a).on hb, e40 := fun a => (h.e40 a).on hb, e48 := fun a => (h.e48 a).on hb, e52 := fun a => (h.e52 a).on hb, e61 := fun a => (h.e61 a).on hb, e62 := fun a => (h.e62 a).on hb, e63 := fun a => (h.e63 a).on hb, e68 := fun _ => rfl }⟩
    · intro L s w2 h hk hd hn
      have s122 := h.e59 hd.1
      have s131 := h.e68 hd.2.1
      refine stepS rfl fun K hK => ?_
      go_simp
      exact hK _ _ { h with e69 := fun _ => rfl }
    · intro L s w2 h hk hd hn
      have s132 := h.e69 hd.1
      refine stepS rfl fun K hK => ?_
      go_simp
      exact hK _ _ { h with e70 := fun _ => rfl, o3 := fun a => absurd a.symm Bool.false_ne_true, dl := fun _ => hd.2.2.1 }
  intro L s wc h hk hl a ha
  have k1 : s 1 = .pointer (some ⟨K1, 0, none⟩) := hk 1 (by kernel_rfl)
  have k2 : s 2 = .pointer (some ⟨K2, 0, none⟩) := hk 2 (by kernel_rfl)
  have k3 : s 3 = .bool true := h.e70 (hl 70 (by decide))
  replace ha := ha.trans (show actS _ s [] = ⟨#[s 0, s 1, s 2, s 3, s 4, s 5, s 6, s 7, s 8, s 9, s 10, s 11, s 12, s 13, s 14, s 15, s 16, s 17, s 18, s 19, s 20, s 21, s 22, s 23, s 24, s 25, s 26, s 27, s 28, s 29, s 30, s 31, s 32, s 33, s 34, s 35, s 36, s 37, s 38, s 39, s 40, s 41, s 42, s 43, s 44, s 45, s 46, s 47, s 48, s 49, s 50, s 51, s 52, s 53, s 54, s 55, s 56, s 57, s 58, s 59, s 60, s 61, s 62, s 63, s 64, s 65, s 66, s 67, s 68, s 69, s 70, s 71, s 72, s 73, s 74, s 75, s 76, s 77, s 78, s 79, s 80, s 81, s 82, s 83, s 84, s 85, s 86, s 87, s 88, s 89, s 90, s 91, s 92, s 93, s 94, s 95, s 96, s 97, s 98, s 99, s 100, s 101, s 102, s 103, s 104, s 105, s 106, s 107, s 108, s 109, s 110, s 111, s 112, s 113, s 114, s 115, s 116, s 117, s 118, s 119, s 120, s 121, s 122, s 123, s 124, s 125, s 126, s 127, s 128, s 129, s 130, s 131, s 132, s 133, s 134, s 135, s 136, s 137, s 138, s 139, s 140, s 141, s 142, s 143, s 144, s 145, s 146, s 147, s 148, s 149, s 150, s 151, s 152, s 153, s 154, s 155, s 156, s 157, s 158, s 159, s 160, s 161, s 162, s 163, s 164, s 165, s 166, s 167, s 168, s 169, s 170, s 171, s 172, s 173, s 174, s 175, s 176, s 177, s 178, s 179, s 180, s 181], []⟩ by kernel_rfl)
  rw [k1, k2, k3] at ha
  subst ha
  replace HK := Lib.hid (HK.out.on h.bel)
  clear h hk hl k1 k2 k3

  --M3
  have hS := HK.out
  clear HK HB1 HB2 hi hz0 hz1 hz2
  go_wp2_with fail
  refine (law8_whole _ _ hS (by decide) (by decide)).mono ?_; rintro e w1 ⟨rfl, hS, -⟩
  go_wp2_with fail
  refine (law8_is _ _ hS).mono ?_; rintro e w1 ⟨rfl, hS⟩
  go_wp2_with fail
  refine (law8_list [1, 1, 1, 1, 1, 1, 1, 1] _ _ (hS.al _) rfl (by simp) (by decide) (by decide)).mono ?_; rintro e w1 ⟨ao, cap, rfl, hS⟩
  go_wp2_with fail
  refine (law8_whole _ _ hS (by decide) (by decide)).mono ?_; rintro e w1 ⟨rfl, hS, -⟩
  go_wp2_with fail
  refine (slopeC _ _ _ _ _ _ hS (by decide) k7_0).mono ?_; rintro e w1 ⟨rfl, hS⟩
  go_wp2_with fail
  refine (law8_is1 _ _ _ hS (by simp)).mono ?_; rintro e w1 ⟨rfl, hS⟩
  go_wp2_with fail
  refine (law8_whole _ _ hS (by decide) (by decide)).mono ?_; rintro e w1 ⟨rfl, hS, -⟩
  go_wp2_with fail
  refine (law8_is _ _ hS).mono ?_; rintro e w1 ⟨rfl, hS⟩
  go_wp2_with fail
  refine (law8_list [0, 0, 0, 1] _ _ (hS.al _) rfl (by simp) (by decide) (by decide)).mono ?_; rintro e w1 ⟨ao, cap, rfl, hS⟩
  go_wp2_with fail
  refine (law8_whole _ _ hS (by decide) (by decide)).mono ?_; rintro e w1 ⟨rfl, hS, -⟩
  go_wp2_with fail
  refine (evalC _ _ _ _ _ _ hS (by decide) k7_1).mono ?_; rintro e w1 ⟨rfl, hS⟩
  go_wp2_with fail
  refine (law8_is1 _ _ _ hS (by simp)).mono ?_; rintro e w1 ⟨rfl, hS⟩
  go_wp2_with fail
  refine (law8_whole _ _ hS (by decide) (by decide)).mono ?_; rintro e w1 ⟨rfl, hS, -⟩
  go_wp2_with fail
  refine (law8_is _ _ hS).mono ?_; rintro e w1 ⟨rfl, hS⟩
  go_wp2_with fail
  refine (law8_list [0, 0, 1] _ _ (hS.al _) rfl (by simp) (by decide) (by decide)).mono ?_; rintro e w1 ⟨ao, cap, rfl, hS⟩
  go_wp2_with fail
  refine (law8_whole _ _ hS (by decide) (by decide)).mono ?_; rintro e w1 ⟨rfl, hS, -⟩
  go_wp2_with fail
  refine (evalC _ _ _ _ _ _ hS (by decide) k7_2).mono ?_; rintro e w1 ⟨rfl, hS⟩
  go_wp2_with fail
  refine (law8_is1 _ _ _ hS (by simp)).mono ?_; rintro e w1 ⟨rfl, hS⟩
  go_wp2_with fail
  refine (law8_is _ _ hS).mono ?_; rintro e w1 ⟨rfl, hS⟩
  go_wp2_with fail
  refine (law8_whole _ _ hS (by decide) (by decide)).mono ?_; rintro e w1 ⟨rfl, hS, -⟩
  go_wp2_with fail
  refine (slopeC _ _ _ _ _ 0 (hS.with_ (SpSl.none_ _)) (by decide) k7_3).mono ?_; rintro e w1 ⟨rfl, hS⟩
  go_wp2_with fail
  refine (law8_is1 _ _ _ hS (by simp)).mono ?_; rintro e w1 ⟨rfl, hS⟩
  go_wp2_with fail
  refine (law8_works _).mono ?_; rintro e w1 ⟨rfl, hb⟩
  go_wp2_with fail
  go_ret
  exact ⟨rfl, below_step hS.bel hb⟩

end Go.Proofs.Ytgpaillkekhmdaa.polyKnown
