/- The walk of monoclelaw21.works. Printed by wip/genLY.py. -/
import Derived.Test.YthhkcfpljgdnhaaGreatLawYX
namespace Go.Proofs.YthhkcfpljgdnhaaGreat
open Go.RowKit Mnc
attribute [local go_sem] RunSP_value RunSP_skip RunSP_enter evS_tmp evS_const evS_global evS_func
structure Wk5_0 (V : World) (b : Nat) (L : Nat → Bool) (s : Nat → Value) (w : World) : Prop where
 mu : Mut [] V w
 e0 : L 0 = true → s 35 = .int .i64 ((0 : Nat) : Int)
 e1 : L 1 = true → s 36 = .pointer (some ⟨b, 0, none⟩)
 e2 : L 2 = true → s 37 = .pointer (some ⟨b, 0, none⟩)
 e3 : L 3 = true → s 38 = .int .i64 ((0 : Nat) : Int)
 e4 : L 4 = true → s 39 = .int .i64 ((0 : Nat) : Int)
 e5 : L 5 = true → s 40 = .pointer (some ⟨b, 0, none⟩)
 e6 : L 6 = true → s 41 = .pointer (some ⟨b, 1, none⟩)
 e7 : L 7 = true → s 42 = .int .i64 ((0 : Nat) : Int)
 e8 : L 8 = true → s 43 = .tuple #[.int .i64 0, .int .i64 0]
 e9 : L 9 = true → s 34 = .tuple #[.int .i64 0, .int .i64 0]
 e10 : L 10 = true → s 44 = .int .i64 0
 e11 : L 11 = true → s 45 = .int .i64 0
 e12 : L 12 = true → s 4 = .int .i64 0
 e13 : L 13 = true → s 5 = .int .i64 0
structure Wk5_1 (V : World) (b : Nat) (L : Nat → Bool) (s : Nat → Value) (w : World) : Prop where
 mu : Mut [] V w
 e0 : L 0 = true → s 35 = .int .i64 ((1 : Nat) : Int)
 e1 : L 1 = true → s 36 = .pointer (some ⟨b, 2, none⟩)
 e2 : L 2 = true → s 37 = .pointer (some ⟨b, 2, none⟩)
 e3 : L 3 = true → s 38 = .int .i64 ((1 : Nat) : Int)
 e4 : L 4 = true → s 39 = .int .i64 ((1 : Nat) : Int)
 e5 : L 5 = true → s 40 = .pointer (some ⟨b, 2, none⟩)
 e6 : L 6 = true → s 41 = .pointer (some ⟨b, 3, none⟩)
 e7 : L 7 = true → s 42 = .int .i64 ((0 : Nat) : Int)
 e8 : L 8 = true → s 43 = .tuple #[.int .i64 2, .int .i64 0]
 e9 : L 9 = true → s 34 = .tuple #[.int .i64 2, .int .i64 0]
 e10 : L 10 = true → s 44 = .int .i64 2
 e11 : L 11 = true → s 45 = .int .i64 0
 e12 : L 12 = true → s 4 = .int .i64 2
 e13 : L 13 = true → s 5 = .int .i64 0
structure Wk5_2 (V : World) (b : Nat) (L : Nat → Bool) (s : Nat → Value) (w : World) : Prop where
 mu : Mut [] V w
 e0 : L 0 = true → s 35 = .int .i64 ((2 : Nat) : Int)
 e1 : L 1 = true → s 36 = .pointer (some ⟨b, 4, none⟩)
 e2 : L 2 = true → s 37 = .pointer (some ⟨b, 4, none⟩)
 e3 : L 3 = true → s 38 = .int .i64 ((0 : Nat) : Int)
 e4 : L 4 = true → s 39 = .int .i64 ((2 : Nat) : Int)
 e5 : L 5 = true → s 40 = .pointer (some ⟨b, 4, none⟩)
 e6 : L 6 = true → s 41 = .pointer (some ⟨b, 5, none⟩)
 e7 : L 7 = true → s 42 = .int .i64 ((5 : Nat) : Int)
 e8 : L 8 = true → s 43 = .tuple #[.int .i64 15, .int .i64 0]
 e9 : L 9 = true → s 34 = .tuple #[.int .i64 15, .int .i64 0]
 e10 : L 10 = true → s 44 = .int .i64 15
 e11 : L 11 = true → s 45 = .int .i64 0
 e12 : L 12 = true → s 4 = .int .i64 15
 e13 : L 13 = true → s 5 = .int .i64 0
structure Wk5_3 (V : World) (b : Nat) (L : Nat → Bool) (s : Nat → Value) (w : World) : Prop where
 mu : Mut [] V w
 e0 : L 0 = true → s 35 = .int .i64 ((3 : Nat) : Int)
 e1 : L 1 = true → s 36 = .pointer (some ⟨b, 6, none⟩)
 e2 : L 2 = true → s 37 = .pointer (some ⟨b, 6, none⟩)
 e3 : L 3 = true → s 38 = .int .i64 ((5 : Nat) : Int)
 e4 : L 4 = true → s 39 = .int .i64 ((3 : Nat) : Int)
 e5 : L 5 = true → s 40 = .pointer (some ⟨b, 6, none⟩)
 e6 : L 6 = true → s 41 = .pointer (some ⟨b, 7, none⟩)
 e7 : L 7 = true → s 42 = .int .i64 ((0 : Nat) : Int)
 e8 : L 8 = true → s 43 = .tuple #[.int .i64 20, .int .i64 0]
 e9 : L 9 = true → s 34 = .tuple #[.int .i64 20, .int .i64 0]
 e10 : L 10 = true → s 44 = .int .i64 20
 e11 : L 11 = true → s 45 = .int .i64 0
 e12 : L 12 = true → s 4 = .int .i64 20
 e13 : L 13 = true → s 5 = .int .i64 0
structure Wk5_4 (V : World) (b : Nat) (L : Nat → Bool) (s : Nat → Value) (w : World) : Prop where
 mu : Mut [] V w
 e0 : L 0 = true → s 35 = .int .i64 ((4 : Nat) : Int)
 e1 : L 1 = true → s 36 = .pointer (some ⟨b, 8, none⟩)
 e2 : L 2 = true → s 37 = .pointer (some ⟨b, 8, none⟩)
 e3 : L 3 = true → s 38 = .int .i64 ((3 : Nat) : Int)
 e4 : L 4 = true → s 39 = .int .i64 ((4 : Nat) : Int)
 e5 : L 5 = true → s 40 = .pointer (some ⟨b, 8, none⟩)
 e6 : L 6 = true → s 41 = .pointer (some ⟨b, 9, none⟩)
 e7 : L 7 = true → s 42 = .int .i64 ((3 : Nat) : Int)
 e8 : L 8 = true → s 43 = .tuple #[.int .i64 0, .int .i64 2]
 e9 : L 9 = true → s 34 = .tuple #[.int .i64 0, .int .i64 2]
 e10 : L 10 = true → s 44 = .int .i64 0
 e11 : L 11 = true → s 45 = .int .i64 2
 e12 : L 12 = true → s 4 = .int .i64 0
 e13 : L 13 = true → s 5 = .int .i64 2
structure Wk9 (V : World) (b : Nat) (L : Nat → Bool) (s : Nat → Value) (w : World) : Prop where
 mu : Mut [] V w
 e0 : L 0 = true → s 65 = mval xU
 e1 : L 1 = true → s 66 = mval xV
 al_u : L 2 = true → ∃ g : Nat, s 6 = .pointer (some ⟨g, 0, none⟩) ∧ V.heap.size ≤ g ∧ g < w.heap.size ∧ (L 4 = false → w.heap[g]? = some (cobj 34 zeroM)) ∧ (L 4 = true → w.heap[g]? = some (cobj 34 xU))
 dn_u_v : L 2 = true → L 3 = true → s 6 ≠ s 7
 al_v : L 3 = true → ∃ g : Nat, s 7 = .pointer (some ⟨g, 0, none⟩) ∧ V.heap.size ≤ g ∧ g < w.heap.size ∧ (L 5 = false → w.heap[g]? = some (cobj 34 zeroM)) ∧ (L 5 = true → w.heap[g]? = some (cobj 34 xV))
 b4_2 : L 4 = true → L 2 = true
 b5_3 : L 5 = true → L 3 = true
structure Wk11 (V : World) (b : Nat) (g0 : Nat) (g1 : Nat) (g2 : Nat) (L : Nat → Bool) (s : Nat → Value) (w : World) : Prop where
 mu : Mut [g2] V w
 kt_uv : L 3 = false → w.heap[g2]? = some (cobj 34 zeroM)
 kr_uv : L 3 = true → w.heap[g2]? = some (cobj 34 (zeroM.set 4 (4294967296, 4294967296)))
 e0 : L 0 = true → s 67 = sval (4294967296, 4294967296)
 e1 : L 1 = true → s 68 = .pointer (some ⟨g2, 0, none⟩)
 e2 : L 2 = true → s 69 = .pointer (some ⟨g2, 4 * 2, none⟩)
structure Wk12 (V : World) (b : Nat) (g0 : Nat) (g1 : Nat) (g2 : Nat) (L : Nat → Bool) (s : Nat → Value) (w : World) : Prop where
 mu : Mut [] V w
 e0 : L 0 = true → s 71 = mval xU
 e1 : L 1 = true → s 72 = mval xV
 e2 : L 2 = true → s 73 = .tuple #[mval mUV, .int .i64 0]
 e3 : L 3 = true → s 70 = .tuple #[mval mUV, .int .i64 0]
 e4 : L 4 = true → s 74 = mval mUV
 e5 : L 5 = true → s 75 = .int .i64 0
 al_a : L 6 = true → ∃ g : Nat, s 9 = .pointer (some ⟨g, 0, none⟩) ∧ V.heap.size ≤ g ∧ g < w.heap.size ∧ (L 7 = false → w.heap[g]? = some (cobj 34 zeroM)) ∧ (L 7 = true → w.heap[g]? = some (cobj 34 mUV))
 e8 : L 8 = true → s 10 = .int .i64 0
 b7_6 : L 7 = true → L 6 = true
structure Wk13 (V : World) (b : Nat) (g0 : Nat) (g1 : Nat) (g2 : Nat) (g3 : Nat) (L : Nat → Bool) (s : Nat → Value) (w : World) : Prop where
 mu : Mut [] V w
 e0 : L 0 = true → s 77 = mval xU
 e1 : L 1 = true → s 78 = .tuple #[sval (-4294967296, 4294967296), .int .i64 0]
 e2 : L 2 = true → s 76 = .tuple #[sval (-4294967296, 4294967296), .int .i64 0]
 e3 : L 3 = true → s 79 = sval (-4294967296, 4294967296)
 e4 : L 4 = true → s 80 = .int .i64 0
 al_bb : L 5 = true → ∃ g : Nat, s 11 = .pointer (some ⟨g, 0, none⟩) ∧ V.heap.size ≤ g ∧ g < w.heap.size ∧ (L 6 = false → w.heap[g]? = some (cobj 31 [(0, 0)])) ∧ (L 6 = true → w.heap[g]? = some (cobj 31 [(-4294967296, 4294967296)]))
 e7 : L 7 = true → s 12 = .int .i64 0
 b6_5 : L 6 = true → L 5 = true
structure Wk14 (V : World) (b : Nat) (g0 : Nat) (g1 : Nat) (g2 : Nat) (g3 : Nat) (g4 : Nat) (L : Nat → Bool) (s : Nat → Value) (w : World) : Prop where
 mu : Mut [] V w
 e0 : L 0 = true → s 82 = mval xU
 e1 : L 1 = true → s 83 = mval xU
 e2 : L 2 = true → s 84 = .tuple #[mval mUU, .int .i64 0]
 e3 : L 3 = true → s 81 = .tuple #[mval mUU, .int .i64 0]
 e4 : L 4 = true → s 85 = mval mUU
 e5 : L 5 = true → s 86 = .int .i64 0
 al_sq : L 6 = true → ∃ g : Nat, s 13 = .pointer (some ⟨g, 0, none⟩) ∧ V.heap.size ≤ g ∧ g < w.heap.size ∧ (L 7 = false → w.heap[g]? = some (cobj 34 zeroM)) ∧ (L 7 = true → w.heap[g]? = some (cobj 34 mUU))
 e8 : L 8 = true → s 14 = .int .i64 0
 b7_6 : L 7 = true → L 6 = true
structure Wk15 (V : World) (b : Nat) (g0 : Nat) (g1 : Nat) (g2 : Nat) (g3 : Nat) (g4 : Nat) (g5 : Nat) (L : Nat → Bool) (s : Nat → Value) (w : World) : Prop where
 mu : Mut [] V w
 e0 : L 0 = true → s 88 = mval mUU
 e1 : L 1 = true → s 89 = .tuple #[sval (0, 4294967296), .int .i64 0]
 e2 : L 2 = true → s 87 = .tuple #[sval (0, 4294967296), .int .i64 0]
 e3 : L 3 = true → s 90 = sval (0, 4294967296)
 e4 : L 4 = true → s 91 = .int .i64 0
 al_cc : L 5 = true → ∃ g : Nat, s 15 = .pointer (some ⟨g, 0, none⟩) ∧ V.heap.size ≤ g ∧ g < w.heap.size ∧ (L 6 = false → w.heap[g]? = some (cobj 31 [(0, 0)])) ∧ (L 6 = true → w.heap[g]? = some (cobj 31 [(0, 4294967296)]))
 e7 : L 7 = true → s 16 = .int .i64 0
 b6_5 : L 6 = true → L 5 = true
structure Wk16 (V : World) (b : Nat) (g0 : Nat) (g1 : Nat) (g2 : Nat) (g3 : Nat) (g4 : Nat) (g5 : Nat) (g6 : Nat) (L : Nat → Bool) (s : Nat → Value) (w : World) : Prop where
 mu : Mut [] V w
 e0 : L 0 = true → s 93 = mval (tLine (-8))
 e1 : L 1 = true → s 94 = .tuple #[mval mInv, .int .i64 0]
 e2 : L 2 = true → s 92 = .tuple #[mval mInv, .int .i64 0]
 e3 : L 3 = true → s 95 = mval mInv
 e4 : L 4 = true → s 96 = .int .i64 0
 al_iv : L 5 = true → ∃ g : Nat, s 17 = .pointer (some ⟨g, 0, none⟩) ∧ V.heap.size ≤ g ∧ g < w.heap.size ∧ (L 6 = false → w.heap[g]? = some (cobj 34 zeroM)) ∧ (L 6 = true → w.heap[g]? = some (cobj 34 mInv))
 e7 : L 7 = true → s 18 = .int .i64 0
 b6_5 : L 6 = true → L 5 = true
structure Wk17 (V : World) (b : Nat) (g0 : Nat) (g1 : Nat) (g2 : Nat) (g3 : Nat) (g4 : Nat) (g5 : Nat) (g6 : Nat) (g7 : Nat) (L : Nat → Bool) (s : Nat → Value) (w : World) : Prop where
 mu : Mut [] V w
 e0 : L 0 = true → s 98 = mval xU
 e1 : L 1 = true → s 99 = .tuple #[mval zeroM, .int .i64 7]
 e2 : L 2 = true → s 97 = .tuple #[mval zeroM, .int .i64 7]
 e3 : L 3 = true → s 100 = mval zeroM
 e4 : L 4 = true → s 101 = .int .i64 7
 al_j1 : L 5 = true → ∃ g : Nat, s 19 = .pointer (some ⟨g, 0, none⟩) ∧ V.heap.size ≤ g ∧ g < w.heap.size ∧ (L 6 = false → w.heap[g]? = some (cobj 34 zeroM)) ∧ (L 6 = true → w.heap[g]? = some (cobj 34 zeroM))
 e7 : L 7 = true → s 20 = .int .i64 7
 b6_5 : L 6 = true → L 5 = true
structure Wk18 (V : World) (b : Nat) (g0 : Nat) (g1 : Nat) (g2 : Nat) (g3 : Nat) (g4 : Nat) (g5 : Nat) (g6 : Nat) (g7 : Nat) (g8 : Nat) (L : Nat → Bool) (s : Nat → Value) (w : World) : Prop where
 mu : Mut [] V w
 e0 : L 0 = true → s 103 = mval zeroM
 e1 : L 1 = true → s 104 = .tuple #[mval zeroM, .int .i64 7]
 e2 : L 2 = true → s 102 = .tuple #[mval zeroM, .int .i64 7]
 e3 : L 3 = true → s 105 = mval zeroM
 e4 : L 4 = true → s 106 = .int .i64 7
 al_j2 : L 5 = true → ∃ g : Nat, s 21 = .pointer (some ⟨g, 0, none⟩) ∧ V.heap.size ≤ g ∧ g < w.heap.size ∧ (L 6 = false → w.heap[g]? = some (cobj 34 zeroM)) ∧ (L 6 = true → w.heap[g]? = some (cobj 34 zeroM))
 e7 : L 7 = true → s 22 = .int .i64 7
 b6_5 : L 6 = true → L 5 = true
structure Wk19 (V : World) (b : Nat) (g0 : Nat) (g1 : Nat) (g2 : Nat) (g3 : Nat) (g4 : Nat) (g5 : Nat) (g6 : Nat) (g7 : Nat) (g8 : Nat) (g9 : Nat) (L : Nat → Bool) (s : Nat → Value) (w : World) : Prop where
 mu : Mut [] V w
 e0 : L 0 = true → s 107 = .int .i64 0
 e1 : L 1 = true → s 108 = .bool true
 e2 : L 2 = true → s 109 = .bool true
 e3 : L 3 = true → s 110 = mval mUV
 e4 : L 4 = true → s 111 = mval (zeroM.set 4 (4294967296, 4294967296))
 e5 : L 5 = true → s 112 = .bool true
 e6 : L 6 = true → s 113 = .bool true
 e7 : L 7 = true → s 114 = .bool true
 e8 : L 8 = true → s 115 = .int .i64 0
 e9 : L 9 = true → s 116 = .bool true
 e10 : L 10 = true → s 117 = .bool true
 e11 : L 11 = true → s 118 = .bool true
 e12 : L 12 = true → s 119 = sval (-4294967296, 4294967296)
 e13 : L 13 = true → s 120 = sval (((-4294967296, 4294967296) : Int × Int))
 e14 : L 14 = true → s 121 = .bool true
 e15 : L 15 = true → s 122 = .bool true
 e16 : L 16 = true → s 123 = .bool true
 e17 : L 17 = true → s 124 = .int .i64 0
 e18 : L 18 = true → s 125 = .bool true
 e19 : L 19 = true → s 126 = .bool true
 e20 : L 20 = true → s 127 = .bool true
 e21 : L 21 = true → s 128 = .int .i64 0
 e22 : L 22 = true → s 129 = .bool true
 e23 : L 23 = true → s 130 = .bool true
 e24 : L 24 = true → s 131 = .bool true
 e25 : L 25 = true → s 132 = sval (0, 4294967296)
 e26 : L 26 = true → s 133 = sval (((0, 4294967296) : Int × Int))
 e27 : L 27 = true → s 134 = .bool true
 e28 : L 28 = true → s 135 = .bool true
 e29 : L 29 = true → s 136 = .bool true
 e30 : L 30 = true → s 137 = .int .i64 0
 e31 : L 31 = true → s 138 = .bool true
 e32 : L 32 = true → s 139 = .bool true
 e33 : L 33 = true → s 140 = .bool true
 e34 : L 34 = true → s 141 = .pointer (some ⟨g7, 0, none⟩)
 e35 : L 35 = true → s 142 = .pointer (some ⟨g7, 5 * 2, none⟩)
 e36 : L 36 = true → s 143 = sval (tAt mInv 5)
 e37 : L 37 = true → s 144 = sval (1073741824, 1073741824)
 e38 : L 38 = true → s 145 = .bool true
 e39 : L 39 = true → s 146 = .bool true
 e40 : L 40 = true → s 147 = .bool true
 e41 : L 41 = true → s 148 = .int .i64 7
 e42 : L 42 = true → s 149 = .bool true
 e43 : L 43 = true → s 150 = .bool true
 e44 : L 44 = true → s 151 = .bool true
 e45 : L 45 = true → s 152 = .int .i64 7
 e46 : L 46 = true → s 153 = .bool true
 e47 : L 47 = true → s 154 = .bool true
 e48 : L 48 = true → s 0 = .bool true
set_option maxRecDepth 100000 in
set_option maxHeartbeats 8000000 in
theorem law21_works (w : World) : Calls Tryz.prog 6 #[] w fun e w' => e = .returned (.bool true) ∧ Below w.heap.size w w' := by
 go_enter Tryz.func6, Tryz.ntmps6
 refine wsk fun K0 HK0 => ?_
 go_wp2_with fail
 refine HK0.out _ _ ?_
 refine wsk fun K1 HK1 => ?_
 go_wp2_with fail
 refine HK1.out _ _ ?_
 obtain ⟨b, hb⟩ : ∃ b, w.heap.size = b := ⟨_, rfl⟩
 refine wp_world (fun V => Mut [] w V ∧ V.heap[b]? = some (.cells #[.int .i64 0, .int .i64 0, .int .i64 1, .int .i64 0, .int .i64 0, .int .i64 5, .int .i64 5, .int .i64 0, .int .i64 3, .int .i64 3] 51 (0, 0))) ?_
  (by
   rw [← hb]
   exact ⟨(Mut.refl _ _).alloc _, heap_at _ (by simp)⟩)
 rintro V0 ⟨hm, hP⟩
 rw [hb]
 have HM0 := lh hm
 have HBW := lh hb
 have HPL := lh hP
 clear hm hP hb HK0 HK1
 refine wsk fun K2 HK2 => ?_
 go_wp2_with fail
 go_loopw [30] (fun x wr => ∃ k : Nat, k ≤ 5 ∧ x = .int .i64 k ∧ Hid (Mut [] V0 wr)) (fun x _ => 5 - (intOf x).toNat)
 case atStart => exact ⟨0, by omega, rfl, lh (Mut.refl _ _)⟩
 case round =>
  obtain ⟨k, hn, rfl, HG⟩ := hrel
  obtain rfl | rfl | rfl | rfl | rfl | rfl : k = 0 ∨ k = 1 ∨ k = 2 ∨ k = 3 ∨ k = 4 ∨ k = 5 := by omega
  ·clear hn
   have hix : ∀ W, (Instr.index 52 (.agg #[.int .i64 0, .int .i64 2, .int .i64 15, .int .i64 20, .int .i64 0]) (.int .i64 0)).run Tryz.prog W = .ok (.int .i64 0) W := fun _ => by kernel_rfl
   refine wsk fun K1 HK1 => ?_
   go_wp2_with fail
   refine HK1.out _ _ ?_
   refine wsk fun K2 HK2 => ?_
   go_wp2_with fail
   refine HK2.out _ _ ?_
   refine wsk fun K3 HK3 => ?_
   refine wp_block ?_
   refine wsk fun K4 HK4 => ?_
   go_wp2_with fail
   refine HK4.out _ _ ?_
   clear hix
   have HP := lh ((HG.out.same _ (lt_of_block HPL.out) (by simp)).trans HPL.out)
   obtain ⟨V, hV⟩ : ∃ V, V = wr := ⟨_, rfl⟩
   rw [← hV] at HG HP ⊢
   clear hV
   refine wsk fun K5 HK5 => ?_
   refine wp_cut_mergeP (nn :: nn :: nn :: nn :: some 4 :: some 5 :: n8 (n8 (n8 (nn :: nn :: nn :: nn :: some 34 :: some 35 :: some 36 :: some 37 :: some 38 :: some 39 :: some 40 :: some 41 :: some 42 :: some 43 :: some 44 :: some 45 :: n8 (n8 (n8 (n8 (n8 (n8 (n8 (n8 (n8 (n8 (n8 (n8 (n8 (nn :: nn :: nn :: nn :: nn :: []))))))))))))))))) (fun s w' => Mut [] V w' ∧ s 4 = .int .i64 0 ∧ s 5 = .int .i64 0) (fun _ _ => False) ?_ ?_ ?_
   ·intro Q2 hQ2 hP2
    refine wpG ?_
    refine wp_region_G (b := true) (Pn := (fun _ _ => False)) (Wk5_0 V b) (by kernel_rfl) (by kernel_rfl) ?_ ?_ ?_ ?_
    ·exact ⟨Mut.start _ true _, nB, nB, nB, nB, nB, nB, nB, nB, nB, nB, nB, nB, nB, nB⟩
    ·refine AllSP.cons ?_ (AllSP.cons ?_ (AllSP.cons ?_ (AllSP.cons ?_ (AllSP.cons ?_ (AllSP.cons ?_ (AllSP.cons ?_ (AllSP.cons ?_ (AllSP.cons ?_ (AllSP.cons ?_ (AllSP.cons ?_ (AllSP.cons ?_ (AllSP.cons ?_ (AllSP.cons ?_ AllSP.nil)))))))))))))
     ·intro L s w2 h hk hd hn
      have s2 : s 2 = _ := hk 2 (by kernel_rfl)
      refine sP fun K hK => ?_
      go_simp
      exact hK _ _ { h with e0 := fun _ => rfl }
     ·intro L s w2 h hk hd hn
      have s1 : s 1 = _ := hk 1 (by kernel_rfl)
      have s35 := h.e0 hd.1
      refine sP fun K hK => ?_
      go_simp
      exact hK _ _ { h with e1 := fun _ => rfl }
     ·intro L s w2 h hk hd hn
      have s36 := h.e1 hd.1
      refine sP fun K hK => ?_
      go_simp
      exact hK _ _ { h with e2 := fun _ => rfl }
     ·intro L s w2 h hk hd hn
      have s37 := h.e2 hd.1
      have kq := (h.mu.same _ (lt_of_block HP.out) (by simp)).trans HP.out
      have kc : w2.cell? ⟨b, 0, none⟩ = some (.int .i64 0) := by rw [cell_of_row w2 b 0 _ _ _ kq]; rfl
      refine sP fun K hK => ?_
      go_simp
      exact hK _ _ { h with e3 := fun _ => rfl }
     ·intro L s w2 h hk hd hn
      have s2 : s 2 = _ := hk 2 (by kernel_rfl)
      refine sP fun K hK => ?_
      go_simp
      exact hK _ _ { h with e4 := fun _ => rfl }
     ·intro L s w2 h hk hd hn
      have s1 : s 1 = _ := hk 1 (by kernel_rfl)
      have s39 := h.e4 hd.1
      refine sP fun K hK => ?_
      go_simp
      exact hK _ _ { h with e5 := fun _ => rfl }
     ·intro L s w2 h hk hd hn
      have s40 := h.e5 hd.1
      refine sP fun K hK => ?_
      go_simp
      exact hK _ _ { h with e6 := fun _ => rfl }
     ·intro L s w2 h hk hd hn
      have s41 := h.e6 hd.1
      have kq := (h.mu.same _ (lt_of_block HP.out) (by simp)).trans HP.out
      have kc : w2.cell? ⟨b, 1, none⟩ = some (.int .i64 0) := by rw [cell_of_row w2 b 1 _ _ _ kq]; rfl
      refine sP fun K hK => ?_
      go_simp
      exact hK _ _ { h with e7 := fun _ => rfl }
     ·intro L s w2 h hk hd hn
      have s38 := h.e3 hd.1
      have s42 := h.e7 hd.2.1
      refine sP fun K hK => ?_
      go_simp
      refine (pl_00 _).mono ?_
      rintro e w3 ⟨rfl, hb⟩
      exact .inl ⟨_, rfl, hK _ _ { h with mu := h.mu.step hb, e8 := fun _ => rfl }⟩
     ·intro L s w2 h hk hd hn
      have s43 := h.e8 hd.1
      refine sP fun K hK => ?_
      exact rs_move rfl s43 (hK _ _ { h with e9 := fun _ => rfl })
     ·intro L s w2 h hk hd hn
      have s34 := h.e9 hd.1
      refine sP fun K hK => ?_
      exact rs_extract rfl s34 rfl (hK _ _ { h with e10 := fun _ => rfl })
     ·intro L s w2 h hk hd hn
      have s34 := h.e9 hd.1
      refine sP fun K hK => ?_
      exact rs_extract rfl s34 rfl (hK _ _ { h with e11 := fun _ => rfl })
     ·intro L s w2 h hk hd hn
      have s44 := h.e10 hd.1
      refine sP fun K hK => ?_
      exact rs_assign rfl s44 (hK _ _ { h with e12 := fun _ => rfl })
     ·intro L s w2 h hk hd hn
      have s45 := h.e11 hd.1
      refine sP fun K hK => ?_
      exact rs_assign rfl s45 (hK _ _ { h with e13 := fun _ => rfl })
    ·intro L s w2 h hk hl
     refine cA ?_ (hQ2 s w2 (⟨h.mu, h.e12 (hl 12 (by decide)), h.e13 (hl 13 (by decide))⟩))
     exact frame_eq hk (by kernel_rfl) (by kernel_rfl)
    ·intro c s w2 hc
     exact hc.elim
   rotate_left
   ·rintro _ _ _ h
    exact h.elim
   rintro s5 V5 ⟨h1, k4, k5⟩
   simp only [mergeL]
   rw [k4, k5]
   have HF := lh (show Mut [] V0 V5 from HG.out.trans h1)
   clear h1 k4 k5
   refine HK5.out _ _ ?_
   go_wp2_with fail
   refine HK3.out _ _ ?_
   go_wp2_with fail
   go_roundw
   case rel => first | exact ⟨0 + 1, by omega, by go_num, HF⟩ | ((repeat apply Exists.intro); exact ⟨⟨0 + 1, by omega, by go_num, HF⟩, rfl⟩)
   case measure => simp [intOf]
  ·clear hn
   have hix : ∀ W, (Instr.index 52 (.agg #[.int .i64 0, .int .i64 2, .int .i64 15, .int .i64 20, .int .i64 0]) (.int .i64 1)).run Tryz.prog W = .ok (.int .i64 2) W := fun _ => by kernel_rfl
   refine wsk fun K1 HK1 => ?_
   go_wp2_with fail
   refine HK1.out _ _ ?_
   refine wsk fun K2 HK2 => ?_
   go_wp2_with fail
   refine HK2.out _ _ ?_
   refine wsk fun K3 HK3 => ?_
   refine wp_block ?_
   refine wsk fun K4 HK4 => ?_
   go_wp2_with fail
   refine HK4.out _ _ ?_
   clear hix
   have HP := lh ((HG.out.same _ (lt_of_block HPL.out) (by simp)).trans HPL.out)
   obtain ⟨V, hV⟩ : ∃ V, V = wr := ⟨_, rfl⟩
   rw [← hV] at HG HP ⊢
   clear hV
   refine wsk fun K5 HK5 => ?_
   refine wp_cut_mergeP (nn :: nn :: nn :: nn :: some 4 :: some 5 :: n8 (n8 (n8 (nn :: nn :: nn :: nn :: some 34 :: some 35 :: some 36 :: some 37 :: some 38 :: some 39 :: some 40 :: some 41 :: some 42 :: some 43 :: some 44 :: some 45 :: n8 (n8 (n8 (n8 (n8 (n8 (n8 (n8 (n8 (n8 (n8 (n8 (n8 (nn :: nn :: nn :: nn :: nn :: []))))))))))))))))) (fun s w' => Mut [] V w' ∧ s 4 = .int .i64 2 ∧ s 5 = .int .i64 0) (fun _ _ => False) ?_ ?_ ?_
   ·intro Q2 hQ2 hP2
    refine wpG ?_
    refine wp_region_G (b := true) (Pn := (fun _ _ => False)) (Wk5_1 V b) (by kernel_rfl) (by kernel_rfl) ?_ ?_ ?_ ?_
    ·exact ⟨Mut.start _ true _, nB, nB, nB, nB, nB, nB, nB, nB, nB, nB, nB, nB, nB, nB⟩
    ·refine AllSP.cons ?_ (AllSP.cons ?_ (AllSP.cons ?_ (AllSP.cons ?_ (AllSP.cons ?_ (AllSP.cons ?_ (AllSP.cons ?_ (AllSP.cons ?_ (AllSP.cons ?_ (AllSP.cons ?_ (AllSP.cons ?_ (AllSP.cons ?_ (AllSP.cons ?_ (AllSP.cons ?_ AllSP.nil)))))))))))))
     ·intro L s w2 h hk hd hn
      have s2 : s 2 = _ := hk 2 (by kernel_rfl)
      refine sP fun K hK => ?_
      go_simp
      exact hK _ _ { h with e0 := fun _ => rfl }
     ·intro L s w2 h hk hd hn
      have s1 : s 1 = _ := hk 1 (by kernel_rfl)
      have s35 := h.e0 hd.1
      refine sP fun K hK => ?_
      go_simp
      exact hK _ _ { h with e1 := fun _ => rfl }
     ·intro L s w2 h hk hd hn
      have s36 := h.e1 hd.1
      refine sP fun K hK => ?_
      go_simp
      exact hK _ _ { h with e2 := fun _ => rfl }
     ·intro L s w2 h hk hd hn
      have s37 := h.e2 hd.1
      have kq := (h.mu.same _ (lt_of_block HP.out) (by simp)).trans HP.out
      have kc : w2.cell? ⟨b, 2, none⟩ = some (.int .i64 1) := by rw [cell_of_row w2 b 2 _ _ _ kq]; rfl
      refine sP fun K hK => ?_
      go_simp
      exact hK _ _ { h with e3 := fun _ => rfl }
     ·intro L s w2 h hk hd hn
      have s2 : s 2 = _ := hk 2 (by kernel_rfl)
      refine sP fun K hK => ?_
      go_simp
      exact hK _ _ { h with e4 := fun _ => rfl }
     ·intro L s w2 h hk hd hn
      have s1 : s 1 = _ := hk 1 (by kernel_rfl)
      have s39 := h.e4 hd.1
      refine sP fun K hK => ?_
      go_simp
      exact hK _ _ { h with e5 := fun _ => rfl }
     ·intro L s w2 h hk hd hn
      have s40 := h.e5 hd.1
      refine sP fun K hK => ?_
      go_simp
      exact hK _ _ { h with e6 := fun _ => rfl }
     ·intro L s w2 h hk hd hn
      have s41 := h.e6 hd.1
      have kq := (h.mu.same _ (lt_of_block HP.out) (by simp)).trans HP.out
      have kc : w2.cell? ⟨b, 3, none⟩ = some (.int .i64 0) := by rw [cell_of_row w2 b 3 _ _ _ kq]; rfl
      refine sP fun K hK => ?_
      go_simp
      exact hK _ _ { h with e7 := fun _ => rfl }
     ·intro L s w2 h hk hd hn
      have s38 := h.e3 hd.1
      have s42 := h.e7 hd.2.1
      refine sP fun K hK => ?_
      go_simp
      refine (pl_10 _).mono ?_
      rintro e w3 ⟨rfl, hb⟩
      exact .inl ⟨_, rfl, hK _ _ { h with mu := h.mu.step hb, e8 := fun _ => rfl }⟩
     ·intro L s w2 h hk hd hn
      have s43 := h.e8 hd.1
      refine sP fun K hK => ?_
      exact rs_move rfl s43 (hK _ _ { h with e9 := fun _ => rfl })
     ·intro L s w2 h hk hd hn
      have s34 := h.e9 hd.1
      refine sP fun K hK => ?_
      exact rs_extract rfl s34 rfl (hK _ _ { h with e10 := fun _ => rfl })
     ·intro L s w2 h hk hd hn
      have s34 := h.e9 hd.1
      refine sP fun K hK => ?_
      exact rs_extract rfl s34 rfl (hK _ _ { h with e11 := fun _ => rfl })
     ·intro L s w2 h hk hd hn
      have s44 := h.e10 hd.1
      refine sP fun K hK => ?_
      exact rs_assign rfl s44 (hK _ _ { h with e12 := fun _ => rfl })
     ·intro L s w2 h hk hd hn
      have s45 := h.e11 hd.1
      refine sP fun K hK => ?_
      exact rs_assign rfl s45 (hK _ _ { h with e13 := fun _ => rfl })
    ·intro L s w2 h hk hl
     refine cA ?_ (hQ2 s w2 (⟨h.mu, h.e12 (hl 12 (by decide)), h.e13 (hl 13 (by decide))⟩))
     exact frame_eq hk (by kernel_rfl) (by kernel_rfl)
    ·intro c s w2 hc
     exact hc.elim
   rotate_left
   ·rintro _ _ _ h
    exact h.elim
   rintro s5 V5 ⟨h1, k4, k5⟩
   simp only [mergeL]
   rw [k4, k5]
   have HF := lh (show Mut [] V0 V5 from HG.out.trans h1)
   clear h1 k4 k5
   refine HK5.out _ _ ?_
   go_wp2_with fail
   refine HK3.out _ _ ?_
   go_wp2_with fail
   go_roundw
   case rel => first | exact ⟨1 + 1, by omega, by go_num, HF⟩ | ((repeat apply Exists.intro); exact ⟨⟨1 + 1, by omega, by go_num, HF⟩, rfl⟩)
   case measure => simp [intOf]
  ·clear hn
   have hix : ∀ W, (Instr.index 52 (.agg #[.int .i64 0, .int .i64 2, .int .i64 15, .int .i64 20, .int .i64 0]) (.int .i64 2)).run Tryz.prog W = .ok (.int .i64 15) W := fun _ => by kernel_rfl
   refine wsk fun K1 HK1 => ?_
   go_wp2_with fail
   refine HK1.out _ _ ?_
   refine wsk fun K2 HK2 => ?_
   go_wp2_with fail
   refine HK2.out _ _ ?_
   refine wsk fun K3 HK3 => ?_
   refine wp_block ?_
   refine wsk fun K4 HK4 => ?_
   go_wp2_with fail
   refine HK4.out _ _ ?_
   clear hix
   have HP := lh ((HG.out.same _ (lt_of_block HPL.out) (by simp)).trans HPL.out)
   obtain ⟨V, hV⟩ : ∃ V, V = wr := ⟨_, rfl⟩
   rw [← hV] at HG HP ⊢
   clear hV
   refine wsk fun K5 HK5 => ?_
   refine wp_cut_mergeP (nn :: nn :: nn :: nn :: some 4 :: some 5 :: n8 (n8 (n8 (nn :: nn :: nn :: nn :: some 34 :: some 35 :: some 36 :: some 37 :: some 38 :: some 39 :: some 40 :: some 41 :: some 42 :: some 43 :: some 44 :: some 45 :: n8 (n8 (n8 (n8 (n8 (n8 (n8 (n8 (n8 (n8 (n8 (n8 (n8 (nn :: nn :: nn :: nn :: nn :: []))))))))))))))))) (fun s w' => Mut [] V w' ∧ s 4 = .int .i64 15 ∧ s 5 = .int .i64 0) (fun _ _ => False) ?_ ?_ ?_
   ·intro Q2 hQ2 hP2
    refine wpG ?_
    refine wp_region_G (b := true) (Pn := (fun _ _ => False)) (Wk5_2 V b) (by kernel_rfl) (by kernel_rfl) ?_ ?_ ?_ ?_
    ·exact ⟨Mut.start _ true _, nB, nB, nB, nB, nB, nB, nB, nB, nB, nB, nB, nB, nB, nB⟩
    ·refine AllSP.cons ?_ (AllSP.cons ?_ (AllSP.cons ?_ (AllSP.cons ?_ (AllSP.cons ?_ (AllSP.cons ?_ (AllSP.cons ?_ (AllSP.cons ?_ (AllSP.cons ?_ (AllSP.cons ?_ (AllSP.cons ?_ (AllSP.cons ?_ (AllSP.cons ?_ (AllSP.cons ?_ AllSP.nil)))))))))))))
     ·intro L s w2 h hk hd hn
      have s2 : s 2 = _ := hk 2 (by kernel_rfl)
      refine sP fun K hK => ?_
      go_simp
      exact hK _ _ { h with e0 := fun _ => rfl }
     ·intro L s w2 h hk hd hn
      have s1 : s 1 = _ := hk 1 (by kernel_rfl)
      have s35 := h.e0 hd.1
      refine sP fun K hK => ?_
      go_simp
      exact hK _ _ { h with e1 := fun _ => rfl }
     ·intro L s w2 h hk hd hn
      have s36 := h.e1 hd.1
      refine sP fun K hK => ?_
      go_simp
      exact hK _ _ { h with e2 := fun _ => rfl }
     ·intro L s w2 h hk hd hn
      have s37 := h.e2 hd.1
      have kq := (h.mu.same _ (lt_of_block HP.out) (by simp)).trans HP.out
      have kc : w2.cell? ⟨b, 4, none⟩ = some (.int .i64 0) := by rw [cell_of_row w2 b 4 _ _ _ kq]; rfl
      refine sP fun K hK => ?_
      go_simp
      exact hK _ _ { h with e3 := fun _ => rfl }
     ·intro L s w2 h hk hd hn
      have s2 : s 2 = _ := hk 2 (by kernel_rfl)
      refine sP fun K hK => ?_
      go_simp
      exact hK _ _ { h with e4 := fun _ => rfl }
     ·intro L s w2 h hk hd hn
      have s1 : s 1 = _ := hk 1 (by kernel_rfl)
      have s39 := h.e4 hd.1
      refine sP fun K hK => ?_
      go_simp
      exact hK _ _ { h with e5 := fun _ => rfl }
     ·intro L s w2 h hk hd hn
      have s40 := h.e5 hd.1
      refine sP fun K hK => ?_
      go_simp
      exact hK _ _ { h with e6 := fun _ => rfl }
     ·intro L s w2 h hk hd hn
      have s41 := h.e6 hd.1
      have kq := (h.mu.same _ (lt_of_block HP.out) (by simp)).trans HP.out
      have kc : w2.cell? ⟨b, 5, none⟩ = some (.int .i64 5) := by rw [cell_of_row w2 b 5 _ _ _ kq]; rfl
      refine sP fun K hK => ?_
      go_simp
      exact hK _ _ { h with e7 := fun _ => rfl }
     ·intro L s w2 h hk hd hn
      have s38 := h.e3 hd.1
      have s42 := h.e7 hd.2.1
      refine sP fun K hK => ?_
      go_simp
      refine (pl_05 _).mono ?_
      rintro e w3 ⟨rfl, hb⟩
      exact .inl ⟨_, rfl, hK _ _ { h with mu := h.mu.step hb, e8 := fun _ => rfl }⟩
     ·intro L s w2 h hk hd hn
      have s43 := h.e8 hd.1
      refine sP fun K hK => ?_
      exact rs_move rfl s43 (hK _ _ { h with e9 := fun _ => rfl })
     ·intro L s w2 h hk hd hn
      have s34 := h.e9 hd.1
      refine sP fun K hK => ?_
      exact rs_extract rfl s34 rfl (hK _ _ { h with e10 := fun _ => rfl })
     ·intro L s w2 h hk hd hn
      have s34 := h.e9 hd.1
      refine sP fun K hK => ?_
      exact rs_extract rfl s34 rfl (hK _ _ { h with e11 := fun _ => rfl })
     ·intro L s w2 h hk hd hn
      have s44 := h.e10 hd.1
      refine sP fun K hK => ?_
      exact rs_assign rfl s44 (hK _ _ { h with e12 := fun _ => rfl })
     ·intro L s w2 h hk hd hn
      have s45 := h.e11 hd.1
      refine sP fun K hK => ?_
      exact rs_assign rfl s45 (hK _ _ { h with e13 := fun _ => rfl })
    ·intro L s w2 h hk hl
     refine cA ?_ (hQ2 s w2 (⟨h.mu, h.e12 (hl 12 (by decide)), h.e13 (hl 13 (by decide))⟩))
     exact frame_eq hk (by kernel_rfl) (by kernel_rfl)
    ·intro c s w2 hc
     exact hc.elim
   rotate_left
   ·rintro _ _ _ h
    exact h.elim
   rintro s5 V5 ⟨h1, k4, k5⟩
   simp only [mergeL]
   rw [k4, k5]
   have HF := lh (show Mut [] V0 V5 from HG.out.trans h1)
   clear h1 k4 k5
   refine HK5.out _ _ ?_
   go_wp2_with fail
   refine HK3.out _ _ ?_
   go_wp2_with fail
   go_roundw
   case rel => first | exact ⟨2 + 1, by omega, by go_num, HF⟩ | ((repeat apply Exists.intro); exact ⟨⟨2 + 1, by omega, by go_num, HF⟩, rfl⟩)
   case measure => simp [intOf]
  ·clear hn
   have hix : ∀ W, (Instr.index 52 (.agg #[.int .i64 0, .int .i64 2, .int .i64 15, .int .i64 20, .int .i64 0]) (.int .i64 3)).run Tryz.prog W = .ok (.int .i64 20) W := fun _ => by kernel_rfl
   refine wsk fun K1 HK1 => ?_
   go_wp2_with fail
   refine HK1.out _ _ ?_
   refine wsk fun K2 HK2 => ?_
   go_wp2_with fail
   refine HK2.out _ _ ?_
   refine wsk fun K3 HK3 => ?_
   refine wp_block ?_
   refine wsk fun K4 HK4 => ?_
   go_wp2_with fail
   refine HK4.out _ _ ?_
   clear hix
   have HP := lh ((HG.out.same _ (lt_of_block HPL.out) (by simp)).trans HPL.out)
   obtain ⟨V, hV⟩ : ∃ V, V = wr := ⟨_, rfl⟩
   rw [← hV] at HG HP ⊢
   clear hV
   refine wsk fun K5 HK5 => ?_
   refine wp_cut_mergeP (nn :: nn :: nn :: nn :: some 4 :: some 5 :: n8 (n8 (n8 (nn :: nn :: nn :: nn :: some 34 :: some 35 :: some 36 :: some 37 :: some 38 :: some 39 :: some 40 :: some 41 :: some 42 :: some 43 :: some 44 :: some 45 :: n8 (n8 (n8 (n8 (n8 (n8 (n8 (n8 (n8 (n8 (n8 (n8 (n8 (nn :: nn :: nn :: nn :: nn :: []))))))))))))))))) (fun s w' => Mut [] V w' ∧ s 4 = .int .i64 20 ∧ s 5 = .int .i64 0) (fun _ _ => False) ?_ ?_ ?_
   ·intro Q2 hQ2 hP2
    refine wpG ?_
    refine wp_region_G (b := true) (Pn := (fun _ _ => False)) (Wk5_3 V b) (by kernel_rfl) (by kernel_rfl) ?_ ?_ ?_ ?_
    ·exact ⟨Mut.start _ true _, nB, nB, nB, nB, nB, nB, nB, nB, nB, nB, nB, nB, nB, nB⟩
    ·refine AllSP.cons ?_ (AllSP.cons ?_ (AllSP.cons ?_ (AllSP.cons ?_ (AllSP.cons ?_ (AllSP.cons ?_ (AllSP.cons ?_ (AllSP.cons ?_ (AllSP.cons ?_ (AllSP.cons ?_ (AllSP.cons ?_ (AllSP.cons ?_ (AllSP.cons ?_ (AllSP.cons ?_ AllSP.nil)))))))))))))
     ·intro L s w2 h hk hd hn
      have s2 : s 2 = _ := hk 2 (by kernel_rfl)
      refine sP fun K hK => ?_
      go_simp
      exact hK _ _ { h with e0 := fun _ => rfl }
     ·intro L s w2 h hk hd hn
      have s1 : s 1 = _ := hk 1 (by kernel_rfl)
      have s35 := h.e0 hd.1
      refine sP fun K hK => ?_
      go_simp
      exact hK _ _ { h with e1 := fun _ => rfl }
     ·intro L s w2 h hk hd hn
      have s36 := h.e1 hd.1
      refine sP fun K hK => ?_
      go_simp
      exact hK _ _ { h with e2 := fun _ => rfl }
     ·intro L s w2 h hk hd hn
      have s37 := h.e2 hd.1
      have kq := (h.mu.same _ (lt_of_block HP.out) (by simp)).trans HP.out
      have kc : w2.cell? ⟨b, 6, none⟩ = some (.int .i64 5) := by rw [cell_of_row w2 b 6 _ _ _ kq]; rfl
      refine sP fun K hK => ?_
      go_simp
      exact hK _ _ { h with e3 := fun _ => rfl }
     ·intro L s w2 h hk hd hn
      have s2 : s 2 = _ := hk 2 (by kernel_rfl)
      refine sP fun K hK => ?_
      go_simp
      exact hK _ _ { h with e4 := fun _ => rfl }
     ·intro L s w2 h hk hd hn
      have s1 : s 1 = _ := hk 1 (by kernel_rfl)
      have s39 := h.e4 hd.1
      refine sP fun K hK => ?_
      go_simp
      exact hK _ _ { h with e5 := fun _ => rfl }
     ·intro L s w2 h hk hd hn
      have s40 := h.e5 hd.1
      refine sP fun K hK => ?_
      go_simp
      exact hK _ _ { h with e6 := fun _ => rfl }
     ·intro L s w2 h hk hd hn
      have s41 := h.e6 hd.1
      have kq := (h.mu.same _ (lt_of_block HP.out) (by simp)).trans HP.out
      have kc : w2.cell? ⟨b, 7, none⟩ = some (.int .i64 0) := by rw [cell_of_row w2 b 7 _ _ _ kq]; rfl
      refine sP fun K hK => ?_
      go_simp
      exact hK _ _ { h with e7 := fun _ => rfl }
     ·intro L s w2 h hk hd hn
      have s38 := h.e3 hd.1
      have s42 := h.e7 hd.2.1
      refine sP fun K hK => ?_
      go_simp
      refine (pl_50 _).mono ?_
      rintro e w3 ⟨rfl, hb⟩
      exact .inl ⟨_, rfl, hK _ _ { h with mu := h.mu.step hb, e8 := fun _ => rfl }⟩
     ·intro L s w2 h hk hd hn
      have s43 := h.e8 hd.1
      refine sP fun K hK => ?_
      exact rs_move rfl s43 (hK _ _ { h with e9 := fun _ => rfl })
     ·intro L s w2 h hk hd hn
      have s34 := h.e9 hd.1
      refine sP fun K hK => ?_
      exact rs_extract rfl s34 rfl (hK _ _ { h with e10 := fun _ => rfl })
     ·intro L s w2 h hk hd hn
      have s34 := h.e9 hd.1
      refine sP fun K hK => ?_
      exact rs_extract rfl s34 rfl (hK _ _ { h with e11 := fun _ => rfl })
     ·intro L s w2 h hk hd hn
      have s44 := h.e10 hd.1
      refine sP fun K hK => ?_
      exact rs_assign rfl s44 (hK _ _ { h with e12 := fun _ => rfl })
     ·intro L s w2 h hk hd hn
      have s45 := h.e11 hd.1
      refine sP fun K hK => ?_
      exact rs_assign rfl s45 (hK _ _ { h with e13 := fun _ => rfl })
    ·intro L s w2 h hk hl
     refine cA ?_ (hQ2 s w2 (⟨h.mu, h.e12 (hl 12 (by decide)), h.e13 (hl 13 (by decide))⟩))
     exact frame_eq hk (by kernel_rfl) (by kernel_rfl)
    ·intro c s w2 hc
     exact hc.elim
   rotate_left
   ·rintro _ _ _ h
    exact h.elim
   rintro s5 V5 ⟨h1, k4, k5⟩
   simp only [mergeL]
   rw [k4, k5]
   have HF := lh (show Mut [] V0 V5 from HG.out.trans h1)
   clear h1 k4 k5
   refine HK5.out _ _ ?_
   go_wp2_with fail
   refine HK3.out _ _ ?_
   go_wp2_with fail
   go_roundw
   case rel => first | exact ⟨3 + 1, by omega, by go_num, HF⟩ | ((repeat apply Exists.intro); exact ⟨⟨3 + 1, by omega, by go_num, HF⟩, rfl⟩)
   case measure => simp [intOf]
  ·clear hn
   have hix : ∀ W, (Instr.index 52 (.agg #[.int .i64 0, .int .i64 2, .int .i64 15, .int .i64 20, .int .i64 0]) (.int .i64 4)).run Tryz.prog W = .ok (.int .i64 0) W := fun _ => by kernel_rfl
   refine wsk fun K1 HK1 => ?_
   go_wp2_with fail
   refine HK1.out _ _ ?_
   refine wsk fun K2 HK2 => ?_
   go_wp2_with fail
   refine HK2.out _ _ ?_
   refine wsk fun K3 HK3 => ?_
   refine wp_block ?_
   refine wsk fun K4 HK4 => ?_
   go_wp2_with fail
   refine HK4.out _ _ ?_
   clear hix
   have HP := lh ((HG.out.same _ (lt_of_block HPL.out) (by simp)).trans HPL.out)
   obtain ⟨V, hV⟩ : ∃ V, V = wr := ⟨_, rfl⟩
   rw [← hV] at HG HP ⊢
   clear hV
   refine wsk fun K5 HK5 => ?_
   refine wp_cut_mergeP (nn :: nn :: nn :: nn :: some 4 :: some 5 :: n8 (n8 (n8 (nn :: nn :: nn :: nn :: some 34 :: some 35 :: some 36 :: some 37 :: some 38 :: some 39 :: some 40 :: some 41 :: some 42 :: some 43 :: some 44 :: some 45 :: n8 (n8 (n8 (n8 (n8 (n8 (n8 (n8 (n8 (n8 (n8 (n8 (n8 (nn :: nn :: nn :: nn :: nn :: []))))))))))))))))) (fun s w' => Mut [] V w' ∧ s 4 = .int .i64 0 ∧ s 5 = .int .i64 2) (fun _ _ => False) ?_ ?_ ?_
   ·intro Q2 hQ2 hP2
    refine wpG ?_
    refine wp_region_G (b := true) (Pn := (fun _ _ => False)) (Wk5_4 V b) (by kernel_rfl) (by kernel_rfl) ?_ ?_ ?_ ?_
    ·exact ⟨Mut.start _ true _, nB, nB, nB, nB, nB, nB, nB, nB, nB, nB, nB, nB, nB, nB⟩
    ·refine AllSP.cons ?_ (AllSP.cons ?_ (AllSP.cons ?_ (AllSP.cons ?_ (AllSP.cons ?_ (AllSP.cons ?_ (AllSP.cons ?_ (AllSP.cons ?_ (AllSP.cons ?_ (AllSP.cons ?_ (AllSP.cons ?_ (AllSP.cons ?_ (AllSP.cons ?_ (AllSP.cons ?_ AllSP.nil)))))))))))))
     ·intro L s w2 h hk hd hn
      have s2 : s 2 = _ := hk 2 (by kernel_rfl)
      refine sP fun K hK => ?_
      go_simp
      exact hK _ _ { h with e0 := fun _ => rfl }
     ·intro L s w2 h hk hd hn
      have s1 : s 1 = _ := hk 1 (by kernel_rfl)
      have s35 := h.e0 hd.1
      refine sP fun K hK => ?_
      go_simp
      exact hK _ _ { h with e1 := fun _ => rfl }
     ·intro L s w2 h hk hd hn
      have s36 := h.e1 hd.1
      refine sP fun K hK => ?_
      go_simp
      exact hK _ _ { h with e2 := fun _ => rfl }
     ·intro L s w2 h hk hd hn
      have s37 := h.e2 hd.1
      have kq := (h.mu.same _ (lt_of_block HP.out) (by simp)).trans HP.out
      have kc : w2.cell? ⟨b, 8, none⟩ = some (.int .i64 3) := by rw [cell_of_row w2 b 8 _ _ _ kq]; rfl
      refine sP fun K hK => ?_
      go_simp
      exact hK _ _ { h with e3 := fun _ => rfl }
     ·intro L s w2 h hk hd hn
      have s2 : s 2 = _ := hk 2 (by kernel_rfl)
      refine sP fun K hK => ?_
      go_simp
      exact hK _ _ { h with e4 := fun _ => rfl }
     ·intro L s w2 h hk hd hn
      have s1 : s 1 = _ := hk 1 (by kernel_rfl)
      have s39 := h.e4 hd.1
      refine sP fun K hK => ?_
      go_simp
      exact hK _ _ { h with e5 := fun _ => rfl }
     ·intro L s w2 h hk hd hn
      have s40 := h.e5 hd.1
      refine sP fun K hK => ?_
      go_simp
      exact hK _ _ { h with e6 := fun _ => rfl }
     ·intro L s w2 h hk hd hn
      have s41 := h.e6 hd.1
      have kq := (h.mu.same _ (lt_of_block HP.out) (by simp)).trans HP.out
      have kc : w2.cell? ⟨b, 9, none⟩ = some (.int .i64 3) := by rw [cell_of_row w2 b 9 _ _ _ kq]; rfl
      refine sP fun K hK => ?_
      go_simp
      exact hK _ _ { h with e7 := fun _ => rfl }
     ·intro L s w2 h hk hd hn
      have s38 := h.e3 hd.1
      have s42 := h.e7 hd.2.1
      refine sP fun K hK => ?_
      go_simp
      refine (pl_33 _).mono ?_
      rintro e w3 ⟨rfl, hb⟩
      exact .inl ⟨_, rfl, hK _ _ { h with mu := h.mu.step hb, e8 := fun _ => rfl }⟩
     ·intro L s w2 h hk hd hn
      have s43 := h.e8 hd.1
      refine sP fun K hK => ?_
      exact rs_move rfl s43 (hK _ _ { h with e9 := fun _ => rfl })
     ·intro L s w2 h hk hd hn
      have s34 := h.e9 hd.1
      refine sP fun K hK => ?_
      exact rs_extract rfl s34 rfl (hK _ _ { h with e10 := fun _ => rfl })
     ·intro L s w2 h hk hd hn
      have s34 := h.e9 hd.1
      refine sP fun K hK => ?_
      exact rs_extract rfl s34 rfl (hK _ _ { h with e11 := fun _ => rfl })
     ·intro L s w2 h hk hd hn
      have s44 := h.e10 hd.1
      refine sP fun K hK => ?_
      exact rs_assign rfl s44 (hK _ _ { h with e12 := fun _ => rfl })
     ·intro L s w2 h hk hd hn
      have s45 := h.e11 hd.1
      refine sP fun K hK => ?_
      exact rs_assign rfl s45 (hK _ _ { h with e13 := fun _ => rfl })
    ·intro L s w2 h hk hl
     refine cA ?_ (hQ2 s w2 (⟨h.mu, h.e12 (hl 12 (by decide)), h.e13 (hl 13 (by decide))⟩))
     exact frame_eq hk (by kernel_rfl) (by kernel_rfl)
    ·intro c s w2 hc
     exact hc.elim
   rotate_left
   ·rintro _ _ _ h
    exact h.elim
   rintro s5 V5 ⟨h1, k4, k5⟩
   simp only [mergeL]
   rw [k4, k5]
   have HF := lh (show Mut [] V0 V5 from HG.out.trans h1)
   clear h1 k4 k5
   refine HK5.out _ _ ?_
   go_wp2_with fail
   refine HK3.out _ _ ?_
   go_wp2_with fail
   go_roundw
   case rel => first | exact ⟨4 + 1, by omega, by go_num, HF⟩ | ((repeat apply Exists.intro); exact ⟨⟨4 + 1, by omega, by go_num, HF⟩, rfl⟩)
   case measure => simp [intOf]
  ·go_wp2_with fail
   refine HK2.out _ _ ?_
   have HM := lh (HM0.out.trans HG.out)
   have HLT := lh trivial
   clear HM0 HG hn HPL
   obtain ⟨V, hV⟩ : ∃ V, V = wr := ⟨_, rfl⟩
   rw [← hV] at HM ⊢
   clear hV
   refine wsk fun K9 HK9 => ?_
   refine wp_cut_mergeP (nn :: nn :: nn :: nn :: nn :: nn :: some 6 :: some 7 :: n8 (n8 (n8 (n8 (n8 (n8 (n8 (nn :: some 65 :: some 66 :: n8 (n8 (n8 (n8 (n8 (n8 (n8 (n8 (n8 (n8 (n8 ([]))))))))))))))))))) (fun s w' => Mut [] V w' ∧ (∃ g : Nat, s 6 = .pointer (some ⟨g, 0, none⟩) ∧ V.heap.size ≤ g ∧ w'.heap[g]? = some (cobj 34 xU)) ∧ (∃ g : Nat, s 7 = .pointer (some ⟨g, 0, none⟩) ∧ V.heap.size ≤ g ∧ w'.heap[g]? = some (cobj 34 xV))) (fun _ _ => False) ?_ ?_ ?_
   ·intro Q2 hQ2 hP2
    refine wpG ?_
    refine wp_region_G (b := false) (Pn := (fun _ _ => False)) (Wk9 V b) (by kernel_rfl) (by kernel_rfl) ?_ ?_ ?_ ?_
    ·exact ⟨Mut.start _ false _, nB, nB, nB, nB, nB, nB, nB⟩
    ·refine AllSP.cons ?_ (AllSP.cons ?_ (AllSP.cons ?_ (AllSP.cons ?_ (AllSP.cons ?_ (AllSP.cons ?_ AllSP.nil)))))
     ·intro L s w2 h hk hd hn
      refine sP fun K hK => ?_
      go_simp
      refine (taw_U _).mono ?_
      rintro e w3 ⟨rfl, hb⟩
      exact .inl ⟨_, rfl, hK _ _ { h with mu := h.mu.step hb, al_u := fun a => let ⟨g, h0, h1, hl, h2, h3⟩ := h.al_u a; ⟨g, h0, h1, Nat.lt_of_lt_of_le hl hb.size, fun c => (hb.block _ (lt_of_block (h2 c))).trans (h2 c), fun c => (hb.block _ (lt_of_block (h3 c))).trans (h3 c)⟩, al_v := fun a => let ⟨g, h0, h1, hl, h2, h3⟩ := h.al_v a; ⟨g, h0, h1, Nat.lt_of_lt_of_le hl hb.size, fun c => (hb.block _ (lt_of_block (h2 c))).trans (h2 c), fun c => (hb.block _ (lt_of_block (h3 c))).trans (h3 c)⟩, e0 := fun _ => rfl }⟩
     ·intro L s w2 h hk hd hn
      refine sP fun K hK => ?_
      go_simp
      refine (taw_V _).mono ?_
      rintro e w3 ⟨rfl, hb⟩
      exact .inl ⟨_, rfl, hK _ _ { h with mu := h.mu.step hb, al_u := fun a => let ⟨g, h0, h1, hl, h2, h3⟩ := h.al_u a; ⟨g, h0, h1, Nat.lt_of_lt_of_le hl hb.size, fun c => (hb.block _ (lt_of_block (h2 c))).trans (h2 c), fun c => (hb.block _ (lt_of_block (h3 c))).trans (h3 c)⟩, al_v := fun a => let ⟨g, h0, h1, hl, h2, h3⟩ := h.al_v a; ⟨g, h0, h1, Nat.lt_of_lt_of_le hl hb.size, fun c => (hb.block _ (lt_of_block (h2 c))).trans (h2 c), fun c => (hb.block _ (lt_of_block (h3 c))).trans (h3 c)⟩, e1 := fun _ => rfl }⟩
     ·intro L s w2 h hk hd hn
      refine sP fun K hK => ?_
      go_simp
      exact hK _ _ { h with mu := h.mu.alloc _, al_v := fun a => let ⟨g, h0, h1, hl, h2, h3⟩ := h.al_v a; ⟨g, h0, h1, by simp; omega, fun c => heap_up _ (h2 c), fun c => heap_up _ (h3 c)⟩, dn_u_v := fun _ b => let ⟨g, h0, _, hl, _, _⟩ := h.al_v b; ptr_ne hl h0, al_u := fun _ => ⟨_, rfl, h.mu.size, by simp, fun _ => heap_at _ rfl, fun a => absurd (h.b4_2 a) (by rw [hn]; exact bft)⟩, b4_2 := fun _ => rfl }
     ·intro L s w2 h hk hd hn
      refine sP fun K hK => ?_
      go_simp
      exact hK _ _ { h with mu := h.mu.alloc _, al_u := fun a => let ⟨g, h0, h1, hl, h2, h3⟩ := h.al_u a; ⟨g, h0, h1, by simp; omega, fun c => heap_up _ (h2 c), fun c => heap_up _ (h3 c)⟩, dn_u_v := fun a _ => let ⟨g, h0, _, hl, _, _⟩ := h.al_u a; (ptr_ne hl h0).symm, al_v := fun _ => ⟨_, rfl, h.mu.size, by simp, fun _ => heap_at _ rfl, fun a => absurd (h.b5_3 a) (by rw [hn]; exact bft)⟩, b5_3 := fun _ => rfl }
     ·intro L s w2 h hk hd hn
      have s65 := h.e0 hd.2.1
      obtain ⟨g, hg0, hg1, hgl, hg2, hg3⟩ := h.al_u hd.1
      have kb := hg2 hn
      refine sP fun K hK => ?_
      exact rs_store rfl hg0 s65 (md_store kb rfl _ rfl) (hK _ _ { h with mu := h.mu.putNew hg1 _, al_v := fun a => let ⟨g2, h0, h1, hl, h2, h3⟩ := h.al_v a; have hne := ptr_inj (h.dn_u_v hd.1 a) hg0 h0; ⟨g2, h0, h1, by simpa using hl, fun c => (World.putObj_heap_other (Ne.symm hne)).trans (h2 c), fun c => (World.putObj_heap_other (Ne.symm hne)).trans (h3 c)⟩, al_u := fun a => ⟨g, hg0, hg1, by simpa using hgl, nF, fun _ => pH kb⟩, b4_2 := fun _ => hd.1 })
     ·intro L s w2 h hk hd hn
      have s66 := h.e1 hd.2.1
      obtain ⟨g, hg0, hg1, hgl, hg2, hg3⟩ := h.al_v hd.1
      have kb := hg2 hn
      refine sP fun K hK => ?_
      exact rs_store rfl hg0 s66 (md_store kb rfl _ rfl) (hK _ _ { h with mu := h.mu.putNew hg1 _, al_u := fun a => let ⟨g2, h0, h1, hl, h2, h3⟩ := h.al_u a; have hne := ptr_inj ((h.dn_u_v a hd.1).symm) hg0 h0; ⟨g2, h0, h1, by simpa using hl, fun c => (World.putObj_heap_other (Ne.symm hne)).trans (h2 c), fun c => (World.putObj_heap_other (Ne.symm hne)).trans (h3 c)⟩, al_v := fun a => ⟨g, hg0, hg1, by simpa using hgl, nF, fun _ => pH kb⟩, b5_3 := fun _ => hd.1 })
    ·intro L s w2 h hk hl
     refine cA ?_ (hQ2 s w2 (⟨h.mu, (let ⟨g, h0, h1, _, _, h3⟩ := h.al_u (hl 2 (by decide)); ⟨g, h0, h1, h3 (hl 4 (by decide))⟩), (let ⟨g, h0, h1, _, _, h3⟩ := h.al_v (hl 3 (by decide)); ⟨g, h0, h1, h3 (hl 5 (by decide))⟩)⟩))
     exact frame_eq hk (by kernel_rfl) (by kernel_rfl)
    ·intro c s w2 hc
     exact hc.elim
   rotate_left
   ·rintro _ _ _ h
    exact h.elim
   rintro s9 V ⟨h1, ⟨g0, k_u, g_u, c_u⟩, ⟨g1, k_v, g_v, c_v⟩⟩
   simp only [mergeL]
   rw [k_u]
   rw [k_v]
   replace HLT := lh (show b ≤ g0 ∧ b ≤ g1 from by
    have hlt := HLT.out
    have hbw := HM.out.size
    have hbw2 := HBW.out
    omega)
   have HU := lh c_u
   have HV := lh c_v
   replace HM := lh (HM.out.stepM h1 (by simp))
   clear h1 k_u g_u c_u k_v g_v c_v
   refine HK9.out _ _ ?_
   refine wsk fun K10 HK10 => ?_
   go_wp2_with fail
   refine HK10.out _ _ ?_
   obtain ⟨g2, hg⟩ : ∃ g, V.heap.size = g := ⟨_, rfl⟩
   refine wp_world (fun V2 => Mut [] w V2 ∧ b ≤ g2 ∧ V2.heap[g0]? = some (cobj 34 xU) ∧ V2.heap[g1]? = some (cobj 34 xV) ∧ V2.heap[g2]? = some (cobj 34 zeroM)) ?_
    (by
     rw [← hg]
     exact ⟨HM.out.alloc _, by have := HM.out.size; have := HBW.out; omega, heap_up _ HU.out, heap_up _ HV.out, heap_at (cobj 34 zeroM) (by simp)⟩)
   replace HLT := lh (show b ≤ g2 ∧ g0 < g2 ∧ g1 < g2 ∧ b ≤ g0 ∧ b ≤ g1 from by
    have hlt := HLT.out
    have hbw := HM.out.size
    have hbw2 := HBW.out
    have := lt_of_block HU.out
    have := lt_of_block HV.out
    omega)
   rintro V2 ⟨hm, -, qHU, qHV, hnew⟩
   rw [hg]
   replace HM := lh hm
   replace HU := lh qHU
   replace HV := lh qHV
   have HUV := lh hnew
   clear hm hnew hg qHU qHV HK10
   clear V
   rename World => V
   refine wsk fun K11 HK11 => ?_
   refine wp_cut_mergeP (n8 (n8 (n8 (n8 (n8 (n8 (n8 (n8 (nn :: nn :: nn :: some 67 :: some 68 :: some 69 :: n8 (n8 (n8 (n8 (n8 (n8 (n8 (n8 (n8 (n8 (nn :: nn :: nn :: nn :: nn :: []))))))))))))))))))) (fun _ w' => Mut [g2] V w' ∧ w'.heap[g2]? = some (cobj 34 (zeroM.set 4 (4294967296, 4294967296)))) (fun _ _ => False) ?_ ?_ ?_
   ·intro Q2 hQ2 hP2
    refine wpG ?_
    refine wp_region_G (b := false) (Pn := (fun _ _ => False)) (Wk11 V b g0 g1 g2) (by kernel_rfl) (by kernel_rfl) ?_ ?_ ?_ ?_
    ·exact ⟨Mut.start _ false _, fun _ => HUV.out, nB, nB, nB, nB⟩
    ·refine AllSP.cons ?_ (AllSP.cons ?_ (AllSP.cons ?_ (AllSP.cons ?_ AllSP.nil)))
     ·intro L s w2 h hk hd hn
      refine sP fun K hK => ?_
      go_simp
      refine (law21_pt 4294967296 _).mono ?_
      rintro e w3 ⟨rfl, hb⟩
      exact .inl ⟨_, rfl, hK _ _ { h with mu := h.mu.step hb, kt_uv := fun a => bk hb (h.kt_uv a), kr_uv := fun a => bk hb (h.kr_uv a), e0 := fun _ => rfl }⟩
     ·intro L s w2 h hk hd hn
      have s8 : s 8 = _ := hk 8 (by kernel_rfl)
      refine sP fun K hK => ?_
      exact rs_field rfl s8 (fl_model0 _ _) (hK _ _ { h with e1 := fun _ => rfl })
     ·intro L s w2 h hk hd hn
      have s68 := h.e1 hd.1
      refine sP fun K hK => ?_
      exact rs_index rfl s68 rfl (ix_model _ 4 (by decide)) (hK _ _ { h with e2 := fun _ => rfl })
     ·intro L s w2 h hk hd hn
      have s69 := h.e2 hd.1
      have s67 := h.e0 hd.2.1
      have kb := h.kt_uv hn
      refine sP fun K hK => ?_
      exact rs_store rfl s69 s67 (sp_store (p := 4) kb (by decide) (4294967296, 4294967296)) (hK _ _ { h with mu := h.mu.put (List.Mem.head _) _, kt_uv := nF, kr_uv := fun _ => pH kb })
    ·intro L s w2 h hk hl
     refine cA ?_ (hQ2 s w2 (⟨h.mu, h.kr_uv (hl 3 (by decide))⟩))
     exact frame_eq hk (by kernel_rfl) (by kernel_rfl)
    ·intro c s w2 hc
     exact hc.elim
   rotate_left
   ·rintro _ _ _ h
    exact h.elim
   rintro s11 V ⟨h1, c_uv⟩
   simp only [mergeL]
   replace HU := lh ((h1.same _ (lt_of_block HU.out) (notin1 (by have := HLT.out; omega))).trans HU.out)
   replace HV := lh ((h1.same _ (lt_of_block HV.out) (notin1 (by have := HLT.out; omega))).trans HV.out)
   replace HUV := lh c_uv
   replace HM := lh (HM.out.stepM h1 (by have := HBW.out; have := HLT.out; intro x hx; simp at hx; right; omega))
   clear h1 c_uv
   refine HK11.out _ _ ?_
   refine wsk fun K12 HK12 => ?_
   refine wp_cut_mergeP (n8 (nn :: some 9 :: some 10 :: n8 (n8 (n8 (n8 (n8 (n8 (n8 (nn :: nn :: nn :: some 70 :: some 71 :: some 72 :: some 73 :: some 74 :: some 75 :: n8 (n8 (n8 (n8 (n8 (n8 (n8 (n8 (n8 (nn :: nn :: nn :: nn :: nn :: nn :: nn :: [])))))))))))))))))) (fun s w' => Mut [] V w' ∧ (∃ g : Nat, s 9 = .pointer (some ⟨g, 0, none⟩) ∧ V.heap.size ≤ g ∧ w'.heap[g]? = some (cobj 34 mUV)) ∧ s 10 = .int .i64 0) (fun _ _ => False) ?_ ?_ ?_
   ·intro Q2 hQ2 hP2
    refine wpG ?_
    refine wp_region_G (b := false) (Pn := (fun _ _ => False)) (Wk12 V b g0 g1 g2) (by kernel_rfl) (by kernel_rfl) ?_ ?_ ?_ ?_
    ·exact ⟨Mut.start _ false _, nB, nB, nB, nB, nB, nB, nB, nB, nB⟩
    ·refine AllSP.cons ?_ (AllSP.cons ?_ (AllSP.cons ?_ (AllSP.cons ?_ (AllSP.cons ?_ (AllSP.cons ?_ (AllSP.cons ?_ (AllSP.cons ?_ (AllSP.cons ?_ AllSP.nil))))))))
     ·intro L s w2 h hk hd hn
      have s6 : s 6 = _ := hk 6 (by kernel_rfl)
      have kb := ((h.mu.same _ ((Array.getElem?_eq_some_iff.1 HU.out).1) (by simp)).trans HU.out)
      refine sP fun K hK => ?_
      exact rs_load rfl s6 (md_load kb rfl) (hK _ _ { h with e0 := fun _ => rfl })
     ·intro L s w2 h hk hd hn
      have s7 : s 7 = _ := hk 7 (by kernel_rfl)
      have kb := ((h.mu.same _ ((Array.getElem?_eq_some_iff.1 HV.out).1) (by simp)).trans HV.out)
      refine sP fun K hK => ?_
      exact rs_load rfl s7 (md_load kb rfl) (hK _ _ { h with e1 := fun _ => rfl })
     ·intro L s w2 h hk hd hn
      have s71 := h.e0 hd.1
      have s72 := h.e1 hd.2.1
      refine sP fun K hK => ?_
      go_simp
      refine (cw_uv _).mono ?_
      rintro e w3 ⟨rfl, hb⟩
      exact .inl ⟨_, rfl, hK _ _ { h with mu := h.mu.step hb, al_a := fun a => let ⟨g, h0, h1, hl, h2, h3⟩ := h.al_a a; ⟨g, h0, h1, Nat.lt_of_lt_of_le hl hb.size, fun c => (hb.block _ (lt_of_block (h2 c))).trans (h2 c), fun c => (hb.block _ (lt_of_block (h3 c))).trans (h3 c)⟩, e2 := fun _ => rfl }⟩
     ·intro L s w2 h hk hd hn
      have s73 := h.e2 hd.1
      refine sP fun K hK => ?_
      exact rs_move rfl s73 (hK _ _ { h with e3 := fun _ => rfl })
     ·intro L s w2 h hk hd hn
      have s70 := h.e3 hd.1
      refine sP fun K hK => ?_
      exact rs_extract rfl s70 rfl (hK _ _ { h with e4 := fun _ => rfl })
     ·intro L s w2 h hk hd hn
      have s70 := h.e3 hd.1
      refine sP fun K hK => ?_
      exact rs_extract rfl s70 rfl (hK _ _ { h with e5 := fun _ => rfl })
     ·intro L s w2 h hk hd hn
      refine sP fun K hK => ?_
      go_simp
      exact hK _ _ { h with mu := h.mu.alloc _, al_a := fun _ => ⟨_, rfl, h.mu.size, by simp, fun _ => heap_at _ rfl, fun a => absurd (h.b7_6 a) (by rw [hn]; exact bft)⟩, b7_6 := fun _ => rfl }
     ·intro L s w2 h hk hd hn
      have s74 := h.e4 hd.2.1
      obtain ⟨g, hg0, hg1, hgl, hg2, hg3⟩ := h.al_a hd.1
      have kb := hg2 hn
      refine sP fun K hK => ?_
      exact rs_store rfl hg0 s74 (md_store kb rfl _ rfl) (hK _ _ { h with mu := h.mu.putNew hg1 _, al_a := fun a => ⟨g, hg0, hg1, by simpa using hgl, nF, fun _ => pH kb⟩, b7_6 := fun _ => hd.1 })
     ·intro L s w2 h hk hd hn
      have s75 := h.e5 hd.1
      refine sP fun K hK => ?_
      exact rs_assign rfl s75 (hK _ _ { h with e8 := fun _ => rfl })
    ·intro L s w2 h hk hl
     refine cA ?_ (hQ2 s w2 (⟨h.mu, (let ⟨g, h0, h1, _, _, h3⟩ := h.al_a (hl 6 (by decide)); ⟨g, h0, h1, h3 (hl 7 (by decide))⟩), h.e8 (hl 8 (by decide))⟩))
     exact frame_eq hk (by kernel_rfl) (by kernel_rfl)
    ·intro c s w2 hc
     exact hc.elim
   rotate_left
   ·rintro _ _ _ h
    exact h.elim
   rintro s12 V ⟨h1, ⟨g3, k_a, g_a, c_a⟩, k10⟩
   simp only [mergeL]
   rw [k_a]
   rw [k10]
   replace HLT := lh (show b ≤ g3 ∧ g0 < g3 ∧ g1 < g3 ∧ g2 < g3 ∧ b ≤ g2 ∧ g0 < g2 ∧ g1 < g2 ∧ b ≤ g0 ∧ b ≤ g1 from by
    have hlt := HLT.out
    have hbw := HM.out.size
    have hbw2 := HBW.out
    have := lt_of_block HU.out
    have := lt_of_block HV.out
    have := lt_of_block HUV.out
    omega)
   replace HU := sm h1 HU
   replace HV := sm h1 HV
   replace HUV := sm h1 HUV
   have HA := lh c_a
   replace HM := lh (HM.out.stepM h1 (by simp))
   clear h1 k_a g_a c_a k10
   refine HK12.out _ _ ?_
   refine wsk fun K13 HK13 => ?_
   refine wp_cut_mergeP (n8 (nn :: nn :: nn :: some 11 :: some 12 :: n8 (n8 (n8 (n8 (n8 (n8 (n8 (nn :: nn :: nn :: nn :: nn :: nn :: nn :: some 76 :: some 77 :: some 78 :: some 79 :: some 80 :: n8 (n8 (n8 (n8 (n8 (n8 (n8 (n8 (n8 (nn :: nn :: [])))))))))))))))))) (fun s w' => Mut [] V w' ∧ (∃ g : Nat, s 11 = .pointer (some ⟨g, 0, none⟩) ∧ V.heap.size ≤ g ∧ w'.heap[g]? = some (cobj 31 [(-4294967296, 4294967296)])) ∧ s 12 = .int .i64 0) (fun _ _ => False) ?_ ?_ ?_
   ·intro Q2 hQ2 hP2
    refine wpG ?_
    refine wp_region_G (b := false) (Pn := (fun _ _ => False)) (Wk13 V b g0 g1 g2 g3) (by kernel_rfl) (by kernel_rfl) ?_ ?_ ?_ ?_
    ·exact ⟨Mut.start _ false _, nB, nB, nB, nB, nB, nB, nB, nB⟩
    ·refine AllSP.cons ?_ (AllSP.cons ?_ (AllSP.cons ?_ (AllSP.cons ?_ (AllSP.cons ?_ (AllSP.cons ?_ (AllSP.cons ?_ (AllSP.cons ?_ AllSP.nil)))))))
     ·intro L s w2 h hk hd hn
      have s6 : s 6 = _ := hk 6 (by kernel_rfl)
      have kb := ((h.mu.same _ ((Array.getElem?_eq_some_iff.1 HU.out).1) (by simp)).trans HU.out)
      refine sP fun K hK => ?_
      exact rs_load rfl s6 (md_load kb rfl) (hK _ _ { h with e0 := fun _ => rfl })
     ·intro L s w2 h hk hd hn
      have s77 := h.e0 hd.1
      refine sP fun K hK => ?_
      go_simp
      refine (cw_bu _).mono ?_
      rintro e w3 ⟨rfl, hb⟩
      exact .inl ⟨_, rfl, hK _ _ { h with mu := h.mu.step hb, al_bb := fun a => let ⟨g, h0, h1, hl, h2, h3⟩ := h.al_bb a; ⟨g, h0, h1, Nat.lt_of_lt_of_le hl hb.size, fun c => (hb.block _ (lt_of_block (h2 c))).trans (h2 c), fun c => (hb.block _ (lt_of_block (h3 c))).trans (h3 c)⟩, e1 := fun _ => rfl }⟩
     ·intro L s w2 h hk hd hn
      have s78 := h.e1 hd.1
      refine sP fun K hK => ?_
      exact rs_move rfl s78 (hK _ _ { h with e2 := fun _ => rfl })
     ·intro L s w2 h hk hd hn
      have s76 := h.e2 hd.1
      refine sP fun K hK => ?_
      exact rs_extract rfl s76 rfl (hK _ _ { h with e3 := fun _ => rfl })
     ·intro L s w2 h hk hd hn
      have s76 := h.e2 hd.1
      refine sP fun K hK => ?_
      exact rs_extract rfl s76 rfl (hK _ _ { h with e4 := fun _ => rfl })
     ·intro L s w2 h hk hd hn
      refine sP fun K hK => ?_
      go_simp
      exact hK _ _ { h with mu := h.mu.alloc _, al_bb := fun _ => ⟨_, rfl, h.mu.size, by simp, fun _ => heap_at _ rfl, fun a => absurd (h.b6_5 a) (by rw [hn]; exact bft)⟩, b6_5 := fun _ => rfl }
     ·intro L s w2 h hk hd hn
      have s79 := h.e3 hd.2.1
      obtain ⟨g, hg0, hg1, hgl, hg2, hg3⟩ := h.al_bb hd.1
      have kb := hg2 hn
      refine sP fun K hK => ?_
      exact rs_store rfl hg0 s79 (sp_store (p := 0) kb (by simp) (-4294967296, 4294967296)) (hK _ _ { h with mu := h.mu.putNew hg1 _, al_bb := fun a => ⟨g, hg0, hg1, by simpa using hgl, nF, fun _ => pH kb⟩, b6_5 := fun _ => hd.1 })
     ·intro L s w2 h hk hd hn
      have s80 := h.e4 hd.1
      refine sP fun K hK => ?_
      exact rs_assign rfl s80 (hK _ _ { h with e7 := fun _ => rfl })
    ·intro L s w2 h hk hl
     refine cA ?_ (hQ2 s w2 (⟨h.mu, (let ⟨g, h0, h1, _, _, h3⟩ := h.al_bb (hl 5 (by decide)); ⟨g, h0, h1, h3 (hl 6 (by decide))⟩), h.e7 (hl 7 (by decide))⟩))
     exact frame_eq hk (by kernel_rfl) (by kernel_rfl)
    ·intro c s w2 hc
     exact hc.elim
   rotate_left
   ·rintro _ _ _ h
    exact h.elim
   rintro s13 V ⟨h1, ⟨g4, k_bb, g_bb, c_bb⟩, k12⟩
   simp only [mergeL]
   rw [k_bb]
   rw [k12]
   replace HLT := lh (show b ≤ g4 ∧ g0 < g4 ∧ g1 < g4 ∧ g2 < g4 ∧ g3 < g4 ∧ b ≤ g3 ∧ g0 < g3 ∧ g1 < g3 ∧ g2 < g3 ∧ b ≤ g2 ∧ g0 < g2 ∧ g1 < g2 ∧ b ≤ g0 ∧ b ≤ g1 from by
    have hlt := HLT.out
    have hbw := HM.out.size
    have hbw2 := HBW.out
    have := lt_of_block HU.out
    have := lt_of_block HV.out
    have := lt_of_block HUV.out
    have := lt_of_block HA.out
    omega)
   replace HU := sm h1 HU
   replace HV := sm h1 HV
   replace HUV := sm h1 HUV
   replace HA := sm h1 HA
   have HBB := lh c_bb
   replace HM := lh (HM.out.stepM h1 (by simp))
   clear h1 k_bb g_bb c_bb k12
   refine HK13.out _ _ ?_
   refine wsk fun K14 HK14 => ?_
   refine wp_cut_mergeP (n8 (nn :: nn :: nn :: nn :: nn :: some 13 :: some 14 :: n8 (n8 (n8 (n8 (n8 (n8 (n8 (n8 (nn :: nn :: some 81 :: some 82 :: some 83 :: some 84 :: some 85 :: some 86 :: n8 (n8 (n8 (n8 (n8 (n8 (n8 (n8 (nn :: nn :: nn :: nn :: [])))))))))))))))))) (fun s w' => Mut [] V w' ∧ (∃ g : Nat, s 13 = .pointer (some ⟨g, 0, none⟩) ∧ V.heap.size ≤ g ∧ w'.heap[g]? = some (cobj 34 mUU)) ∧ s 14 = .int .i64 0) (fun _ _ => False) ?_ ?_ ?_
   ·intro Q2 hQ2 hP2
    refine wpG ?_
    refine wp_region_G (b := false) (Pn := (fun _ _ => False)) (Wk14 V b g0 g1 g2 g3 g4) (by kernel_rfl) (by kernel_rfl) ?_ ?_ ?_ ?_
    ·exact ⟨Mut.start _ false _, nB, nB, nB, nB, nB, nB, nB, nB, nB⟩
    ·refine AllSP.cons ?_ (AllSP.cons ?_ (AllSP.cons ?_ (AllSP.cons ?_ (AllSP.cons ?_ (AllSP.cons ?_ (AllSP.cons ?_ (AllSP.cons ?_ (AllSP.cons ?_ AllSP.nil))))))))
     ·intro L s w2 h hk hd hn
      have s6 : s 6 = _ := hk 6 (by kernel_rfl)
      have kb := ((h.mu.same _ ((Array.getElem?_eq_some_iff.1 HU.out).1) (by simp)).trans HU.out)
      refine sP fun K hK => ?_
      exact rs_load rfl s6 (md_load kb rfl) (hK _ _ { h with e0 := fun _ => rfl })
     ·intro L s w2 h hk hd hn
      have s6 : s 6 = _ := hk 6 (by kernel_rfl)
      have kb := ((h.mu.same _ ((Array.getElem?_eq_some_iff.1 HU.out).1) (by simp)).trans HU.out)
      refine sP fun K hK => ?_
      exact rs_load rfl s6 (md_load kb rfl) (hK _ _ { h with e1 := fun _ => rfl })
     ·intro L s w2 h hk hd hn
      have s82 := h.e0 hd.1
      have s83 := h.e1 hd.2.1
      refine sP fun K hK => ?_
      go_simp
      refine (cw_uu _).mono ?_
      rintro e w3 ⟨rfl, hb⟩
      exact .inl ⟨_, rfl, hK _ _ { h with mu := h.mu.step hb, al_sq := fun a => let ⟨g, h0, h1, hl, h2, h3⟩ := h.al_sq a; ⟨g, h0, h1, Nat.lt_of_lt_of_le hl hb.size, fun c => (hb.block _ (lt_of_block (h2 c))).trans (h2 c), fun c => (hb.block _ (lt_of_block (h3 c))).trans (h3 c)⟩, e2 := fun _ => rfl }⟩
     ·intro L s w2 h hk hd hn
      have s84 := h.e2 hd.1
      refine sP fun K hK => ?_
      exact rs_move rfl s84 (hK _ _ { h with e3 := fun _ => rfl })
     ·intro L s w2 h hk hd hn
      have s81 := h.e3 hd.1
      refine sP fun K hK => ?_
      exact rs_extract rfl s81 rfl (hK _ _ { h with e4 := fun _ => rfl })
     ·intro L s w2 h hk hd hn
      have s81 := h.e3 hd.1
      refine sP fun K hK => ?_
      exact rs_extract rfl s81 rfl (hK _ _ { h with e5 := fun _ => rfl })
     ·intro L s w2 h hk hd hn
      refine sP fun K hK => ?_
      go_simp
      exact hK _ _ { h with mu := h.mu.alloc _, al_sq := fun _ => ⟨_, rfl, h.mu.size, by simp, fun _ => heap_at _ rfl, fun a => absurd (h.b7_6 a) (by rw [hn]; exact bft)⟩, b7_6 := fun _ => rfl }
     ·intro L s w2 h hk hd hn
      have s85 := h.e4 hd.2.1
      obtain ⟨g, hg0, hg1, hgl, hg2, hg3⟩ := h.al_sq hd.1
      have kb := hg2 hn
      refine sP fun K hK => ?_
      exact rs_store rfl hg0 s85 (md_store kb rfl _ rfl) (hK _ _ { h with mu := h.mu.putNew hg1 _, al_sq := fun a => ⟨g, hg0, hg1, by simpa using hgl, nF, fun _ => pH kb⟩, b7_6 := fun _ => hd.1 })
     ·intro L s w2 h hk hd hn
      have s86 := h.e5 hd.1
      refine sP fun K hK => ?_
      exact rs_assign rfl s86 (hK _ _ { h with e8 := fun _ => rfl })
    ·intro L s w2 h hk hl
     refine cA ?_ (hQ2 s w2 (⟨h.mu, (let ⟨g, h0, h1, _, _, h3⟩ := h.al_sq (hl 6 (by decide)); ⟨g, h0, h1, h3 (hl 7 (by decide))⟩), h.e8 (hl 8 (by decide))⟩))
     exact frame_eq hk (by kernel_rfl) (by kernel_rfl)
    ·intro c s w2 hc
     exact hc.elim
   rotate_left
   ·rintro _ _ _ h
    exact h.elim
   rintro s14 V ⟨h1, ⟨g5, k_sq, g_sq, c_sq⟩, k14⟩
   simp only [mergeL]
   rw [k_sq]
   rw [k14]
   replace HLT := lh (show b ≤ g5 ∧ g0 < g5 ∧ g1 < g5 ∧ g2 < g5 ∧ g3 < g5 ∧ g4 < g5 ∧ b ≤ g4 ∧ g0 < g4 ∧ g1 < g4 ∧ g2 < g4 ∧ g3 < g4 ∧ b ≤ g3 ∧ g0 < g3 ∧ g1 < g3 ∧ g2 < g3 ∧ b ≤ g2 ∧ g0 < g2 ∧ g1 < g2 ∧ b ≤ g0 ∧ b ≤ g1 from by
    have hlt := HLT.out
    have hbw := HM.out.size
    have hbw2 := HBW.out
    have := lt_of_block HU.out
    have := lt_of_block HV.out
    have := lt_of_block HUV.out
    have := lt_of_block HA.out
    have := lt_of_block HBB.out
    omega)
   replace HU := sm h1 HU
   replace HV := sm h1 HV
   replace HUV := sm h1 HUV
   replace HA := sm h1 HA
   replace HBB := sm h1 HBB
   have HSQ := lh c_sq
   replace HM := lh (HM.out.stepM h1 (by simp))
   clear h1 k_sq g_sq c_sq k14
   refine HK14.out _ _ ?_
   refine wsk fun K15 HK15 => ?_
   refine wp_cut_mergeP (n8 (nn :: nn :: nn :: nn :: nn :: nn :: nn :: some 15 :: some 16 :: n8 (n8 (n8 (n8 (n8 (n8 (n8 (n8 (nn :: nn :: nn :: nn :: nn :: nn :: some 87 :: some 88 :: some 89 :: some 90 :: some 91 :: n8 (n8 (n8 (n8 (n8 (n8 (n8 (nn :: nn :: nn :: nn :: nn :: nn :: nn :: []))))))))))))))))) (fun s w' => Mut [] V w' ∧ (∃ g : Nat, s 15 = .pointer (some ⟨g, 0, none⟩) ∧ V.heap.size ≤ g ∧ w'.heap[g]? = some (cobj 31 [(0, 4294967296)])) ∧ s 16 = .int .i64 0) (fun _ _ => False) ?_ ?_ ?_
   ·intro Q2 hQ2 hP2
    refine wpG ?_
    refine wp_region_G (b := false) (Pn := (fun _ _ => False)) (Wk15 V b g0 g1 g2 g3 g4 g5) (by kernel_rfl) (by kernel_rfl) ?_ ?_ ?_ ?_
    ·exact ⟨Mut.start _ false _, nB, nB, nB, nB, nB, nB, nB, nB⟩
    ·refine AllSP.cons ?_ (AllSP.cons ?_ (AllSP.cons ?_ (AllSP.cons ?_ (AllSP.cons ?_ (AllSP.cons ?_ (AllSP.cons ?_ (AllSP.cons ?_ AllSP.nil)))))))
     ·intro L s w2 h hk hd hn
      have s13 : s 13 = _ := hk 13 (by kernel_rfl)
      have kb := ((h.mu.same _ ((Array.getElem?_eq_some_iff.1 HSQ.out).1) (by simp)).trans HSQ.out)
      refine sP fun K hK => ?_
      exact rs_load rfl s13 (md_load kb rfl) (hK _ _ { h with e0 := fun _ => rfl })
     ·intro L s w2 h hk hd hn
      have s88 := h.e0 hd.1
      refine sP fun K hK => ?_
      go_simp
      refine (cw_bs _).mono ?_
      rintro e w3 ⟨rfl, hb⟩
      exact .inl ⟨_, rfl, hK _ _ { h with mu := h.mu.step hb, al_cc := fun a => let ⟨g, h0, h1, hl, h2, h3⟩ := h.al_cc a; ⟨g, h0, h1, Nat.lt_of_lt_of_le hl hb.size, fun c => (hb.block _ (lt_of_block (h2 c))).trans (h2 c), fun c => (hb.block _ (lt_of_block (h3 c))).trans (h3 c)⟩, e1 := fun _ => rfl }⟩
     ·intro L s w2 h hk hd hn
      have s89 := h.e1 hd.1
      refine sP fun K hK => ?_
      exact rs_move rfl s89 (hK _ _ { h with e2 := fun _ => rfl })
     ·intro L s w2 h hk hd hn
      have s87 := h.e2 hd.1
      refine sP fun K hK => ?_
      exact rs_extract rfl s87 rfl (hK _ _ { h with e3 := fun _ => rfl })
     ·intro L s w2 h hk hd hn
      have s87 := h.e2 hd.1
      refine sP fun K hK => ?_
      exact rs_extract rfl s87 rfl (hK _ _ { h with e4 := fun _ => rfl })
     ·intro L s w2 h hk hd hn
      refine sP fun K hK => ?_
      go_simp
      exact hK _ _ { h with mu := h.mu.alloc _, al_cc := fun _ => ⟨_, rfl, h.mu.size, by simp, fun _ => heap_at _ rfl, fun a => absurd (h.b6_5 a) (by rw [hn]; exact bft)⟩, b6_5 := fun _ => rfl }
     ·intro L s w2 h hk hd hn
      have s90 := h.e3 hd.2.1
      obtain ⟨g, hg0, hg1, hgl, hg2, hg3⟩ := h.al_cc hd.1
      have kb := hg2 hn
      refine sP fun K hK => ?_
      exact rs_store rfl hg0 s90 (sp_store (p := 0) kb (by simp) (0, 4294967296)) (hK _ _ { h with mu := h.mu.putNew hg1 _, al_cc := fun a => ⟨g, hg0, hg1, by simpa using hgl, nF, fun _ => pH kb⟩, b6_5 := fun _ => hd.1 })
     ·intro L s w2 h hk hd hn
      have s91 := h.e4 hd.1
      refine sP fun K hK => ?_
      exact rs_assign rfl s91 (hK _ _ { h with e7 := fun _ => rfl })
    ·intro L s w2 h hk hl
     refine cA ?_ (hQ2 s w2 (⟨h.mu, (let ⟨g, h0, h1, _, _, h3⟩ := h.al_cc (hl 5 (by decide)); ⟨g, h0, h1, h3 (hl 6 (by decide))⟩), h.e7 (hl 7 (by decide))⟩))
     exact frame_eq hk (by kernel_rfl) (by kernel_rfl)
    ·intro c s w2 hc
     exact hc.elim
   rotate_left
   ·rintro _ _ _ h
    exact h.elim
   rintro s15 V ⟨h1, ⟨g6, k_cc, g_cc, c_cc⟩, k16⟩
   simp only [mergeL]
   rw [k_cc]
   rw [k16]
   replace HLT := lh (show b ≤ g6 ∧ g0 < g6 ∧ g1 < g6 ∧ g2 < g6 ∧ g3 < g6 ∧ g4 < g6 ∧ g5 < g6 ∧ b ≤ g5 ∧ g0 < g5 ∧ g1 < g5 ∧ g2 < g5 ∧ g3 < g5 ∧ g4 < g5 ∧ b ≤ g4 ∧ g0 < g4 ∧ g1 < g4 ∧ g2 < g4 ∧ g3 < g4 ∧ b ≤ g3 ∧ g0 < g3 ∧ g1 < g3 ∧ g2 < g3 ∧ b ≤ g2 ∧ g0 < g2 ∧ g1 < g2 ∧ b ≤ g0 ∧ b ≤ g1 from by
    have hlt := HLT.out
    have hbw := HM.out.size
    have hbw2 := HBW.out
    have := lt_of_block HU.out
    have := lt_of_block HV.out
    have := lt_of_block HUV.out
    have := lt_of_block HA.out
    have := lt_of_block HBB.out
    have := lt_of_block HSQ.out
    omega)
   replace HU := sm h1 HU
   replace HV := sm h1 HV
   replace HUV := sm h1 HUV
   replace HA := sm h1 HA
   replace HBB := sm h1 HBB
   replace HSQ := sm h1 HSQ
   have HCC := lh c_cc
   replace HM := lh (HM.out.stepM h1 (by simp))
   clear h1 k_cc g_cc c_cc k16
   refine HK15.out _ _ ?_
   refine wsk fun K16 HK16 => ?_
   refine wp_cut_mergeP (n8 (n8 (nn :: some 17 :: some 18 :: n8 (n8 (n8 (n8 (n8 (n8 (n8 (n8 (n8 (nn :: some 92 :: some 93 :: some 94 :: some 95 :: some 96 :: n8 (n8 (n8 (n8 (n8 (n8 (n8 (nn :: nn :: []))))))))))))))))))) (fun s w' => Mut [] V w' ∧ (∃ g : Nat, s 17 = .pointer (some ⟨g, 0, none⟩) ∧ V.heap.size ≤ g ∧ w'.heap[g]? = some (cobj 34 mInv)) ∧ s 18 = .int .i64 0) (fun _ _ => False) ?_ ?_ ?_
   ·intro Q2 hQ2 hP2
    refine wpG ?_
    refine wp_region_G (b := false) (Pn := (fun _ _ => False)) (Wk16 V b g0 g1 g2 g3 g4 g5 g6) (by kernel_rfl) (by kernel_rfl) ?_ ?_ ?_ ?_
    ·exact ⟨Mut.start _ false _, nB, nB, nB, nB, nB, nB, nB, nB⟩
    ·refine AllSP.cons ?_ (AllSP.cons ?_ (AllSP.cons ?_ (AllSP.cons ?_ (AllSP.cons ?_ (AllSP.cons ?_ (AllSP.cons ?_ (AllSP.cons ?_ AllSP.nil)))))))
     ·intro L s w2 h hk hd hn
      refine sP fun K hK => ?_
      go_simp
      refine (law21_line (-8) (by omega) _).mono ?_
      rintro e w3 ⟨rfl, hb⟩
      exact .inl ⟨_, rfl, hK _ _ { h with mu := h.mu.step hb, al_iv := fun a => let ⟨g, h0, h1, hl, h2, h3⟩ := h.al_iv a; ⟨g, h0, h1, Nat.lt_of_lt_of_le hl hb.size, fun c => (hb.block _ (lt_of_block (h2 c))).trans (h2 c), fun c => (hb.block _ (lt_of_block (h3 c))).trans (h3 c)⟩, e0 := fun _ => rfl }⟩
     ·intro L s w2 h hk hd hn
      have s93 := h.e0 hd.1
      refine sP fun K hK => ?_
      go_simp
      refine (cw_inv _).mono ?_
      rintro e w3 ⟨rfl, hb⟩
      exact .inl ⟨_, rfl, hK _ _ { h with mu := h.mu.step hb, al_iv := fun a => let ⟨g, h0, h1, hl, h2, h3⟩ := h.al_iv a; ⟨g, h0, h1, Nat.lt_of_lt_of_le hl hb.size, fun c => (hb.block _ (lt_of_block (h2 c))).trans (h2 c), fun c => (hb.block _ (lt_of_block (h3 c))).trans (h3 c)⟩, e1 := fun _ => rfl }⟩
     ·intro L s w2 h hk hd hn
      have s94 := h.e1 hd.1
      refine sP fun K hK => ?_
      exact rs_move rfl s94 (hK _ _ { h with e2 := fun _ => rfl })
     ·intro L s w2 h hk hd hn
      have s92 := h.e2 hd.1
      refine sP fun K hK => ?_
      exact rs_extract rfl s92 rfl (hK _ _ { h with e3 := fun _ => rfl })
     ·intro L s w2 h hk hd hn
      have s92 := h.e2 hd.1
      refine sP fun K hK => ?_
      exact rs_extract rfl s92 rfl (hK _ _ { h with e4 := fun _ => rfl })
     ·intro L s w2 h hk hd hn
      refine sP fun K hK => ?_
      go_simp
      exact hK _ _ { h with mu := h.mu.alloc _, al_iv := fun _ => ⟨_, rfl, h.mu.size, by simp, fun _ => heap_at _ rfl, fun a => absurd (h.b6_5 a) (by rw [hn]; exact bft)⟩, b6_5 := fun _ => rfl }
     ·intro L s w2 h hk hd hn
      have s95 := h.e3 hd.2.1
      obtain ⟨g, hg0, hg1, hgl, hg2, hg3⟩ := h.al_iv hd.1
      have kb := hg2 hn
      refine sP fun K hK => ?_
      exact rs_store rfl hg0 s95 (md_store kb rfl _ mInv_len) (hK _ _ { h with mu := h.mu.putNew hg1 _, al_iv := fun a => ⟨g, hg0, hg1, by simpa using hgl, nF, fun _ => pH kb⟩, b6_5 := fun _ => hd.1 })
     ·intro L s w2 h hk hd hn
      have s96 := h.e4 hd.1
      refine sP fun K hK => ?_
      exact rs_assign rfl s96 (hK _ _ { h with e7 := fun _ => rfl })
    ·intro L s w2 h hk hl
     refine cA ?_ (hQ2 s w2 (⟨h.mu, (let ⟨g, h0, h1, _, _, h3⟩ := h.al_iv (hl 5 (by decide)); ⟨g, h0, h1, h3 (hl 6 (by decide))⟩), h.e7 (hl 7 (by decide))⟩))
     exact frame_eq hk (by kernel_rfl) (by kernel_rfl)
    ·intro c s w2 hc
     exact hc.elim
   rotate_left
   ·rintro _ _ _ h
    exact h.elim
   rintro s16 V ⟨h1, ⟨g7, k_iv, g_iv, c_iv⟩, k18⟩
   simp only [mergeL]
   rw [k_iv]
   rw [k18]
   replace HLT := lh (show b ≤ g7 ∧ g0 < g7 ∧ g1 < g7 ∧ g2 < g7 ∧ g3 < g7 ∧ g4 < g7 ∧ g5 < g7 ∧ g6 < g7 ∧ b ≤ g6 ∧ g0 < g6 ∧ g1 < g6 ∧ g2 < g6 ∧ g3 < g6 ∧ g4 < g6 ∧ g5 < g6 ∧ b ≤ g5 ∧ g0 < g5 ∧ g1 < g5 ∧ g2 < g5 ∧ g3 < g5 ∧ g4 < g5 ∧ b ≤ g4 ∧ g0 < g4 ∧ g1 < g4 ∧ g2 < g4 ∧ g3 < g4 ∧ b ≤ g3 ∧ g0 < g3 ∧ g1 < g3 ∧ g2 < g3 ∧ b ≤ g2 ∧ g0 < g2 ∧ g1 < g2 ∧ b ≤ g0 ∧ b ≤ g1 from by
    have hlt := HLT.out
    have hbw := HM.out.size
    have hbw2 := HBW.out
    have := lt_of_block HU.out
    have := lt_of_block HV.out
    have := lt_of_block HUV.out
    have := lt_of_block HA.out
    have := lt_of_block HBB.out
    have := lt_of_block HSQ.out
    have := lt_of_block HCC.out
    omega)
   replace HU := sm h1 HU
   replace HV := sm h1 HV
   replace HUV := sm h1 HUV
   replace HA := sm h1 HA
   replace HBB := sm h1 HBB
   replace HSQ := sm h1 HSQ
   replace HCC := sm h1 HCC
   have HIV := lh c_iv
   replace HM := lh (HM.out.stepM h1 (by simp))
   clear h1 k_iv g_iv c_iv k18
   refine HK16.out _ _ ?_
   refine wsk fun K17 HK17 => ?_
   refine wp_cut_mergeP (n8 (n8 (nn :: nn :: nn :: some 19 :: some 20 :: n8 (n8 (n8 (n8 (n8 (n8 (n8 (n8 (n8 (nn :: nn :: nn :: nn :: some 97 :: some 98 :: some 99 :: some 100 :: some 101 :: n8 (n8 (n8 (n8 (n8 (n8 (nn :: nn :: nn :: nn :: nn :: [])))))))))))))))))) (fun s w' => Mut [] V w' ∧ (∃ g : Nat, s 19 = .pointer (some ⟨g, 0, none⟩) ∧ V.heap.size ≤ g ∧ w'.heap[g]? = some (cobj 34 zeroM)) ∧ s 20 = .int .i64 7) (fun _ _ => False) ?_ ?_ ?_
   ·intro Q2 hQ2 hP2
    refine wpG ?_
    refine wp_region_G (b := false) (Pn := (fun _ _ => False)) (Wk17 V b g0 g1 g2 g3 g4 g5 g6 g7) (by kernel_rfl) (by kernel_rfl) ?_ ?_ ?_ ?_
    ·exact ⟨Mut.start _ false _, nB, nB, nB, nB, nB, nB, nB, nB⟩
    ·refine AllSP.cons ?_ (AllSP.cons ?_ (AllSP.cons ?_ (AllSP.cons ?_ (AllSP.cons ?_ (AllSP.cons ?_ (AllSP.cons ?_ (AllSP.cons ?_ AllSP.nil)))))))
     ·intro L s w2 h hk hd hn
      have s6 : s 6 = _ := hk 6 (by kernel_rfl)
      have kb := ((h.mu.same _ ((Array.getElem?_eq_some_iff.1 HU.out).1) (by simp)).trans HU.out)
      refine sP fun K hK => ?_
      exact rs_load rfl s6 (md_load kb rfl) (hK _ _ { h with e0 := fun _ => rfl })
     ·intro L s w2 h hk hd hn
      have s98 := h.e0 hd.1
      refine sP fun K hK => ?_
      go_simp
      refine (cw_iu _).mono ?_
      rintro e w3 ⟨rfl, hb⟩
      exact .inl ⟨_, rfl, hK _ _ { h with mu := h.mu.step hb, al_j1 := fun a => let ⟨g, h0, h1, hl, h2, h3⟩ := h.al_j1 a; ⟨g, h0, h1, Nat.lt_of_lt_of_le hl hb.size, fun c => (hb.block _ (lt_of_block (h2 c))).trans (h2 c), fun c => (hb.block _ (lt_of_block (h3 c))).trans (h3 c)⟩, e1 := fun _ => rfl }⟩
     ·intro L s w2 h hk hd hn
      have s99 := h.e1 hd.1
      refine sP fun K hK => ?_
      exact rs_move rfl s99 (hK _ _ { h with e2 := fun _ => rfl })
     ·intro L s w2 h hk hd hn
      have s97 := h.e2 hd.1
      refine sP fun K hK => ?_
      exact rs_extract rfl s97 rfl (hK _ _ { h with e3 := fun _ => rfl })
     ·intro L s w2 h hk hd hn
      have s97 := h.e2 hd.1
      refine sP fun K hK => ?_
      exact rs_extract rfl s97 rfl (hK _ _ { h with e4 := fun _ => rfl })
     ·intro L s w2 h hk hd hn
      refine sP fun K hK => ?_
      go_simp
      exact hK _ _ { h with mu := h.mu.alloc _, al_j1 := fun _ => ⟨_, rfl, h.mu.size, by simp, fun _ => heap_at _ rfl, fun a => absurd (h.b6_5 a) (by rw [hn]; exact bft)⟩, b6_5 := fun _ => rfl }
     ·intro L s w2 h hk hd hn
      have s100 := h.e3 hd.2.1
      obtain ⟨g, hg0, hg1, hgl, hg2, hg3⟩ := h.al_j1 hd.1
      have kb := hg2 hn
      refine sP fun K hK => ?_
      exact rs_store rfl hg0 s100 (md_store kb rfl _ rfl) (hK _ _ { h with mu := h.mu.putNew hg1 _, al_j1 := fun a => ⟨g, hg0, hg1, by simpa using hgl, nF, fun _ => pH kb⟩, b6_5 := fun _ => hd.1 })
     ·intro L s w2 h hk hd hn
      have s101 := h.e4 hd.1
      refine sP fun K hK => ?_
      exact rs_assign rfl s101 (hK _ _ { h with e7 := fun _ => rfl })
    ·intro L s w2 h hk hl
     refine cA ?_ (hQ2 s w2 (⟨h.mu, (let ⟨g, h0, h1, _, _, h3⟩ := h.al_j1 (hl 5 (by decide)); ⟨g, h0, h1, h3 (hl 6 (by decide))⟩), h.e7 (hl 7 (by decide))⟩))
     exact frame_eq hk (by kernel_rfl) (by kernel_rfl)
    ·intro c s w2 hc
     exact hc.elim
   rotate_left
   ·rintro _ _ _ h
    exact h.elim
   rintro s17 V ⟨h1, ⟨g8, k_j1, g_j1, c_j1⟩, k20⟩
   simp only [mergeL]
   rw [k_j1]
   rw [k20]
   replace HLT := lh (show b ≤ g8 ∧ g0 < g8 ∧ g1 < g8 ∧ g2 < g8 ∧ g3 < g8 ∧ g4 < g8 ∧ g5 < g8 ∧ g6 < g8 ∧ g7 < g8 ∧ b ≤ g7 ∧ g0 < g7 ∧ g1 < g7 ∧ g2 < g7 ∧ g3 < g7 ∧ g4 < g7 ∧ g5 < g7 ∧ g6 < g7 ∧ b ≤ g6 ∧ g0 < g6 ∧ g1 < g6 ∧ g2 < g6 ∧ g3 < g6 ∧ g4 < g6 ∧ g5 < g6 ∧ b ≤ g5 ∧ g0 < g5 ∧ g1 < g5 ∧ g2 < g5 ∧ g3 < g5 ∧ g4 < g5 ∧ b ≤ g4 ∧ g0 < g4 ∧ g1 < g4 ∧ g2 < g4 ∧ g3 < g4 ∧ b ≤ g3 ∧ g0 < g3 ∧ g1 < g3 ∧ g2 < g3 ∧ b ≤ g2 ∧ g0 < g2 ∧ g1 < g2 ∧ b ≤ g0 ∧ b ≤ g1 from by
    have hlt := HLT.out
    have hbw := HM.out.size
    have hbw2 := HBW.out
    have := lt_of_block HU.out
    have := lt_of_block HV.out
    have := lt_of_block HUV.out
    have := lt_of_block HA.out
    have := lt_of_block HBB.out
    have := lt_of_block HSQ.out
    have := lt_of_block HCC.out
    have := lt_of_block HIV.out
    omega)
   replace HU := sm h1 HU
   replace HV := sm h1 HV
   replace HUV := sm h1 HUV
   replace HA := sm h1 HA
   replace HBB := sm h1 HBB
   replace HSQ := sm h1 HSQ
   replace HCC := sm h1 HCC
   replace HIV := sm h1 HIV
   have HJ := lh c_j1
   replace HM := lh (HM.out.stepM h1 (by simp))
   clear h1 k_j1 g_j1 c_j1 k20
   refine HK17.out _ _ ?_
   refine wsk fun K18 HK18 => ?_
   refine wp_cut_mergeP (n8 (n8 (nn :: nn :: nn :: nn :: nn :: some 21 :: some 22 :: n8 (n8 (n8 (n8 (n8 (n8 (n8 (n8 (n8 (nn :: nn :: nn :: nn :: nn :: nn :: nn :: some 102 :: some 103 :: some 104 :: some 105 :: some 106 :: n8 (n8 (n8 (n8 (n8 (n8 ([])))))))))))))))))) (fun s w' => Mut [] V w' ∧ (∃ g : Nat, s 21 = .pointer (some ⟨g, 0, none⟩) ∧ V.heap.size ≤ g ∧ w'.heap[g]? = some (cobj 34 zeroM)) ∧ s 22 = .int .i64 7) (fun _ _ => False) ?_ ?_ ?_
   ·intro Q2 hQ2 hP2
    refine wpG ?_
    refine wp_region_G (b := false) (Pn := (fun _ _ => False)) (Wk18 V b g0 g1 g2 g3 g4 g5 g6 g7 g8) (by kernel_rfl) (by kernel_rfl) ?_ ?_ ?_ ?_
    ·exact ⟨Mut.start _ false _, nB, nB, nB, nB, nB, nB, nB, nB⟩
    ·refine AllSP.cons ?_ (AllSP.cons ?_ (AllSP.cons ?_ (AllSP.cons ?_ (AllSP.cons ?_ (AllSP.cons ?_ (AllSP.cons ?_ (AllSP.cons ?_ AllSP.nil)))))))
     ·intro L s w2 h hk hd hn
      refine sP fun K hK => ?_
      go_simp
      exact hK _ _ { h with e0 := fun _ => rfl }
     ·intro L s w2 h hk hd hn
      have s103 := h.e0 hd.1
      refine sP fun K hK => ?_
      go_simp
      refine (cw_iz _).mono ?_
      rintro e w3 ⟨rfl, hb⟩
      exact .inl ⟨_, rfl, hK _ _ { h with mu := h.mu.step hb, al_j2 := fun a => let ⟨g, h0, h1, hl, h2, h3⟩ := h.al_j2 a; ⟨g, h0, h1, Nat.lt_of_lt_of_le hl hb.size, fun c => (hb.block _ (lt_of_block (h2 c))).trans (h2 c), fun c => (hb.block _ (lt_of_block (h3 c))).trans (h3 c)⟩, e1 := fun _ => rfl }⟩
     ·intro L s w2 h hk hd hn
      have s104 := h.e1 hd.1
      refine sP fun K hK => ?_
      exact rs_move rfl s104 (hK _ _ { h with e2 := fun _ => rfl })
     ·intro L s w2 h hk hd hn
      have s102 := h.e2 hd.1
      refine sP fun K hK => ?_
      exact rs_extract rfl s102 rfl (hK _ _ { h with e3 := fun _ => rfl })
     ·intro L s w2 h hk hd hn
      have s102 := h.e2 hd.1
      refine sP fun K hK => ?_
      exact rs_extract rfl s102 rfl (hK _ _ { h with e4 := fun _ => rfl })
     ·intro L s w2 h hk hd hn
      refine sP fun K hK => ?_
      go_simp
      exact hK _ _ { h with mu := h.mu.alloc _, al_j2 := fun _ => ⟨_, rfl, h.mu.size, by simp, fun _ => heap_at _ rfl, fun a => absurd (h.b6_5 a) (by rw [hn]; exact bft)⟩, b6_5 := fun _ => rfl }
     ·intro L s w2 h hk hd hn
      have s105 := h.e3 hd.2.1
      obtain ⟨g, hg0, hg1, hgl, hg2, hg3⟩ := h.al_j2 hd.1
      have kb := hg2 hn
      refine sP fun K hK => ?_
      exact rs_store rfl hg0 s105 (md_store kb rfl _ rfl) (hK _ _ { h with mu := h.mu.putNew hg1 _, al_j2 := fun a => ⟨g, hg0, hg1, by simpa using hgl, nF, fun _ => pH kb⟩, b6_5 := fun _ => hd.1 })
     ·intro L s w2 h hk hd hn
      have s106 := h.e4 hd.1
      refine sP fun K hK => ?_
      exact rs_assign rfl s106 (hK _ _ { h with e7 := fun _ => rfl })
    ·intro L s w2 h hk hl
     refine cA ?_ (hQ2 s w2 (⟨h.mu, (let ⟨g, h0, h1, _, _, h3⟩ := h.al_j2 (hl 5 (by decide)); ⟨g, h0, h1, h3 (hl 6 (by decide))⟩), h.e7 (hl 7 (by decide))⟩))
     exact frame_eq hk (by kernel_rfl) (by kernel_rfl)
    ·intro c s w2 hc
     exact hc.elim
   rotate_left
   ·rintro _ _ _ h
    exact h.elim
   rintro s18 V ⟨h1, ⟨g9, k_j2, g_j2, c_j2⟩, k22⟩
   simp only [mergeL]
   rw [k_j2]
   rw [k22]
   replace HLT := lh (show b ≤ g9 ∧ g0 < g9 ∧ g1 < g9 ∧ g2 < g9 ∧ g3 < g9 ∧ g4 < g9 ∧ g5 < g9 ∧ g6 < g9 ∧ g7 < g9 ∧ g8 < g9 ∧ b ≤ g8 ∧ g0 < g8 ∧ g1 < g8 ∧ g2 < g8 ∧ g3 < g8 ∧ g4 < g8 ∧ g5 < g8 ∧ g6 < g8 ∧ g7 < g8 ∧ b ≤ g7 ∧ g0 < g7 ∧ g1 < g7 ∧ g2 < g7 ∧ g3 < g7 ∧ g4 < g7 ∧ g5 < g7 ∧ g6 < g7 ∧ b ≤ g6 ∧ g0 < g6 ∧ g1 < g6 ∧ g2 < g6 ∧ g3 < g6 ∧ g4 < g6 ∧ g5 < g6 ∧ b ≤ g5 ∧ g0 < g5 ∧ g1 < g5 ∧ g2 < g5 ∧ g3 < g5 ∧ g4 < g5 ∧ b ≤ g4 ∧ g0 < g4 ∧ g1 < g4 ∧ g2 < g4 ∧ g3 < g4 ∧ b ≤ g3 ∧ g0 < g3 ∧ g1 < g3 ∧ g2 < g3 ∧ b ≤ g2 ∧ g0 < g2 ∧ g1 < g2 ∧ b ≤ g0 ∧ b ≤ g1 from by
    have hlt := HLT.out
    have hbw := HM.out.size
    have hbw2 := HBW.out
    have := lt_of_block HU.out
    have := lt_of_block HV.out
    have := lt_of_block HUV.out
    have := lt_of_block HA.out
    have := lt_of_block HBB.out
    have := lt_of_block HSQ.out
    have := lt_of_block HCC.out
    have := lt_of_block HIV.out
    have := lt_of_block HJ.out
    omega)
   replace HU := sm h1 HU
   replace HV := sm h1 HV
   replace HUV := sm h1 HUV
   replace HA := sm h1 HA
   replace HBB := sm h1 HBB
   replace HSQ := sm h1 HSQ
   replace HCC := sm h1 HCC
   replace HIV := sm h1 HIV
   replace HJ := sm h1 HJ
   have HJ2 := lh c_j2
   replace HM := lh (HM.out.stepM h1 (by simp))
   clear h1 k_j2 g_j2 c_j2 k22
   refine HK18.out _ _ ?_
   refine wsk fun K19 HK19 => ?_
   refine wp_cut_mergeP (some 0 :: n8 (n8 (n8 (n8 (n8 (n8 (n8 (n8 (n8 (n8 (n8 (n8 (n8 (nn :: nn :: some 107 :: some 108 :: some 109 :: some 110 :: some 111 :: some 112 :: some 113 :: some 114 :: some 115 :: some 116 :: some 117 :: some 118 :: some 119 :: some 120 :: some 121 :: some 122 :: some 123 :: some 124 :: some 125 :: some 126 :: some 127 :: some 128 :: some 129 :: some 130 :: some 131 :: some 132 :: some 133 :: some 134 :: some 135 :: some 136 :: some 137 :: some 138 :: some 139 :: some 140 :: some 141 :: some 142 :: some 143 :: some 144 :: some 145 :: some 146 :: some 147 :: some 148 :: some 149 :: some 150 :: some 151 :: some 152 :: some 153 :: some 154 :: [])))))))))))))) (fun s w' => Mut [] V w' ∧ s 0 = .bool true) (fun _ _ => False) ?_ ?_ ?_
   ·intro Q2 hQ2 hP2
    refine wpG ?_
    refine wp_region_G (b := true) (Pn := (fun _ _ => False)) (Wk19 V b g0 g1 g2 g3 g4 g5 g6 g7 g8 g9) (by kernel_rfl) (by kernel_rfl) ?_ ?_ ?_ ?_
    ·exact ⟨Mut.start _ true _, nB, nB, nB, nB, nB, nB, nB, nB, nB, nB, nB, nB, nB, nB, nB, nB, nB, nB, nB, nB, nB, nB, nB, nB, nB, nB, nB, nB, nB, nB, nB, nB, nB, nB, nB, nB, nB, nB, nB, nB, nB, nB, nB, nB, nB, nB, nB, nB, nB⟩
    ·refine AllSP.cons ?_ (AllSP.cons ?_ (AllSP.cons ?_ (AllSP.cons ?_ (AllSP.cons ?_ (AllSP.cons ?_ (AllSP.cons ?_ (AllSP.cons ?_ (AllSP.cons ?_ (AllSP.cons ?_ (AllSP.cons ?_ (AllSP.cons ?_ (AllSP.cons ?_ (AllSP.cons ?_ (AllSP.cons ?_ (AllSP.cons ?_ (AllSP.cons ?_ (AllSP.cons ?_ (AllSP.cons ?_ (AllSP.cons ?_ (AllSP.cons ?_ (AllSP.cons ?_ (AllSP.cons ?_ (AllSP.cons ?_ (AllSP.cons ?_ (AllSP.cons ?_ (AllSP.cons ?_ (AllSP.cons ?_ (AllSP.cons ?_ (AllSP.cons ?_ (AllSP.cons ?_ (AllSP.cons ?_ (AllSP.cons ?_ (AllSP.cons ?_ (AllSP.cons ?_ (AllSP.cons ?_ (AllSP.cons ?_ (AllSP.cons ?_ (AllSP.cons ?_ (AllSP.cons ?_ (AllSP.cons ?_ (AllSP.cons ?_ (AllSP.cons ?_ (AllSP.cons ?_ (AllSP.cons ?_ (AllSP.cons ?_ (AllSP.cons ?_ (AllSP.cons ?_ (AllSP.cons ?_ AllSP.nil))))))))))))))))))))))))))))))))))))))))))))))))
     ·intro L s w2 h hk hd hn
      have s10 : s 10 = _ := hk 10 (by kernel_rfl)
      refine sP fun K hK => ?_
      exact rs_move rfl s10 (hK _ _ { h with e0 := fun _ => rfl })
     ·intro L s w2 h hk hd hn
      have s107 := h.e0 hd.1
      refine sP fun K hK => ?_
      go_simp
      exact hK _ _ { h with e1 := fun _ => rfl }
     ·intro L s w2 h hk hd hn
      have s108 := h.e1 hd.1
      refine sP fun K hK => ?_
      exact rs_move rfl s108 (hK _ _ { h with e2 := fun _ => rfl })
     ·intro L s w2 h hk hd hn
      have gq := h.e2 hd.1
      have s9 : s 9 = _ := hk 9 (by kernel_rfl)
      have kb := ((h.mu.same _ ((Array.getElem?_eq_some_iff.1 HA.out).1) (by simp)).trans HA.out)
      refine stepSP (by simp [Region.wanted, yieldS, gq]) fun K hK => ?_
      exact rs_load rfl s9 (md_load kb rfl) (hK _ _ { h with e3 := fun _ => rfl })
     ·intro L s w2 h hk hd hn
      have gq := h.e2 hd.1
      have s8 : s 8 = _ := hk 8 (by kernel_rfl)
      have kb := ((h.mu.same _ ((Array.getElem?_eq_some_iff.1 HUV.out).1) (by simp)).trans HUV.out)
      refine stepSP (by simp [Region.wanted, yieldS, gq]) fun K hK => ?_
      exact rs_load rfl s8 (md_load kb (by simp [zeroM])) (hK _ _ { h with e4 := fun _ => rfl })
     ·intro L s w2 h hk hd hn
      have gq := h.e2 hd.2.2.1
      have s110 := h.e3 hd.1
      have s111 := h.e4 hd.2.1
      have hq := bin_eqM mUV (zeroM.set 4 (4294967296, 4294967296)) rfl rfl
      have hg := guard_eqM mUV (zeroM.set 4 (4294967296, 4294967296))
      rw [show decide (mUV = zeroM.set 4 (4294967296, 4294967296)) = true from decide_eq_true rfl] at hq
      refine stepSP (by simp [Region.wanted, yieldS, gq]) fun K hK => ?_
      go_simp
      exact hK _ _ { h with e5 := fun _ => rfl }
     ·intro L s w2 h hk hd hn
      have s109 := h.e2 hd.1
      have s112 := h.e5 hd.2.1
      refine sP fun K hK => ?_
      go_simp
      exact hK _ _ { h with e6 := fun _ => rfl }
     ·intro L s w2 h hk hd hn
      have s113 := h.e6 hd.1
      refine sP fun K hK => ?_
      exact rs_move rfl s113 (hK _ _ { h with e7 := fun _ => rfl })
     ·intro L s w2 h hk hd hn
      have gq := h.e7 hd.1
      have s12 : s 12 = _ := hk 12 (by kernel_rfl)
      refine stepSP (by simp [Region.wanted, yieldS, gq]) fun K hK => ?_
      exact rs_move rfl s12 (hK _ _ { h with e8 := fun _ => rfl })
     ·intro L s w2 h hk hd hn
      have gq := h.e7 hd.2.1
      have s115 := h.e8 hd.1
      refine stepSP (by simp [Region.wanted, yieldS, gq]) fun K hK => ?_
      go_simp
      exact hK _ _ { h with e9 := fun _ => rfl }
     ·intro L s w2 h hk hd hn
      have s114 := h.e7 hd.1
      have s116 := h.e9 hd.2.1
      refine sP fun K hK => ?_
      go_simp
      exact hK _ _ { h with e10 := fun _ => rfl }
     ·intro L s w2 h hk hd hn
      have s117 := h.e10 hd.1
      refine sP fun K hK => ?_
      exact rs_move rfl s117 (hK _ _ { h with e11 := fun _ => rfl })
     ·intro L s w2 h hk hd hn
      have gq := h.e11 hd.1
      have s11 : s 11 = _ := hk 11 (by kernel_rfl)
      have kb := ((h.mu.same _ ((Array.getElem?_eq_some_iff.1 HBB.out).1) (by simp)).trans HBB.out)
      refine stepSP (by simp [Region.wanted, yieldS, gq]) fun K hK => ?_
      exact rs_load rfl s11 (sp_load (p := 0) kb (by simp)) (hK _ _ { h with e12 := fun _ => rfl })
     ·intro L s w2 h hk hd hn
      have gq := h.e11 hd.1
      refine stepSP (by simp [Region.wanted, yieldS, gq]) fun K hK => ?_
      go_simp
      exact hK _ _ { h with e13 := fun _ => rfl }
     ·intro L s w2 h hk hd hn
      have gq := h.e11 hd.2.2.1
      have s119 := h.e12 hd.1
      have s120 := h.e13 hd.2.1
      have hq := bin_eqS (((-4294967296, 4294967296) : Int × Int)) (((-4294967296, 4294967296) : Int × Int))
      have hg := guard_eqS (((-4294967296, 4294967296) : Int × Int)) (((-4294967296, 4294967296) : Int × Int))
      rw [show decide (((-4294967296, 4294967296) : Int × Int) = ((-4294967296, 4294967296) : Int × Int)) = true from decide_eq_true rfl] at hq
      refine stepSP (by simp [Region.wanted, yieldS, gq]) fun K hK => ?_
      go_simp
      exact hK _ _ { h with e14 := fun _ => rfl }
     ·intro L s w2 h hk hd hn
      have s118 := h.e11 hd.1
      have s121 := h.e14 hd.2.1
      refine sP fun K hK => ?_
      go_simp
      exact hK _ _ { h with e15 := fun _ => rfl }
     ·intro L s w2 h hk hd hn
      have s122 := h.e15 hd.1
      refine sP fun K hK => ?_
      exact rs_move rfl s122 (hK _ _ { h with e16 := fun _ => rfl })
     ·intro L s w2 h hk hd hn
      have gq := h.e16 hd.1
      have s14 : s 14 = _ := hk 14 (by kernel_rfl)
      refine stepSP (by simp [Region.wanted, yieldS, gq]) fun K hK => ?_
      exact rs_move rfl s14 (hK _ _ { h with e17 := fun _ => rfl })
     ·intro L s w2 h hk hd hn
      have gq := h.e16 hd.2.1
      have s124 := h.e17 hd.1
      refine stepSP (by simp [Region.wanted, yieldS, gq]) fun K hK => ?_
      go_simp
      exact hK _ _ { h with e18 := fun _ => rfl }
     ·intro L s w2 h hk hd hn
      have s123 := h.e16 hd.1
      have s125 := h.e18 hd.2.1
      refine sP fun K hK => ?_
      go_simp
      exact hK _ _ { h with e19 := fun _ => rfl }
     ·intro L s w2 h hk hd hn
      have s126 := h.e19 hd.1
      refine sP fun K hK => ?_
      exact rs_move rfl s126 (hK _ _ { h with e20 := fun _ => rfl })
     ·intro L s w2 h hk hd hn
      have gq := h.e20 hd.1
      have s16 : s 16 = _ := hk 16 (by kernel_rfl)
      refine stepSP (by simp [Region.wanted, yieldS, gq]) fun K hK => ?_
      exact rs_move rfl s16 (hK _ _ { h with e21 := fun _ => rfl })
     ·intro L s w2 h hk hd hn
      have gq := h.e20 hd.2.1
      have s128 := h.e21 hd.1
      refine stepSP (by simp [Region.wanted, yieldS, gq]) fun K hK => ?_
      go_simp
      exact hK _ _ { h with e22 := fun _ => rfl }
     ·intro L s w2 h hk hd hn
      have s127 := h.e20 hd.1
      have s129 := h.e22 hd.2.1
      refine sP fun K hK => ?_
      go_simp
      exact hK _ _ { h with e23 := fun _ => rfl }
     ·intro L s w2 h hk hd hn
      have s130 := h.e23 hd.1
      refine sP fun K hK => ?_
      exact rs_move rfl s130 (hK _ _ { h with e24 := fun _ => rfl })
     ·intro L s w2 h hk hd hn
      have gq := h.e24 hd.1
      have s15 : s 15 = _ := hk 15 (by kernel_rfl)
      have kb := ((h.mu.same _ ((Array.getElem?_eq_some_iff.1 HCC.out).1) (by simp)).trans HCC.out)
      refine stepSP (by simp [Region.wanted, yieldS, gq]) fun K hK => ?_
      exact rs_load rfl s15 (sp_load (p := 0) kb (by simp)) (hK _ _ { h with e25 := fun _ => rfl })
     ·intro L s w2 h hk hd hn
      have gq := h.e24 hd.1
      refine stepSP (by simp [Region.wanted, yieldS, gq]) fun K hK => ?_
      go_simp
      exact hK _ _ { h with e26 := fun _ => rfl }
     ·intro L s w2 h hk hd hn
      have gq := h.e24 hd.2.2.1
      have s132 := h.e25 hd.1
      have s133 := h.e26 hd.2.1
      have hq := bin_eqS (((0, 4294967296) : Int × Int)) (((0, 4294967296) : Int × Int))
      have hg := guard_eqS (((0, 4294967296) : Int × Int)) (((0, 4294967296) : Int × Int))
      rw [show decide (((0, 4294967296) : Int × Int) = ((0, 4294967296) : Int × Int)) = true from decide_eq_true rfl] at hq
      refine stepSP (by simp [Region.wanted, yieldS, gq]) fun K hK => ?_
      go_simp
      exact hK _ _ { h with e27 := fun _ => rfl }
     ·intro L s w2 h hk hd hn
      have s131 := h.e24 hd.1
      have s134 := h.e27 hd.2.1
      refine sP fun K hK => ?_
      go_simp
      exact hK _ _ { h with e28 := fun _ => rfl }
     ·intro L s w2 h hk hd hn
      have s135 := h.e28 hd.1
      refine sP fun K hK => ?_
      exact rs_move rfl s135 (hK _ _ { h with e29 := fun _ => rfl })
     ·intro L s w2 h hk hd hn
      have gq := h.e29 hd.1
      have s18 : s 18 = _ := hk 18 (by kernel_rfl)
      refine stepSP (by simp [Region.wanted, yieldS, gq]) fun K hK => ?_
      exact rs_move rfl s18 (hK _ _ { h with e30 := fun _ => rfl })
     ·intro L s w2 h hk hd hn
      have gq := h.e29 hd.2.1
      have s137 := h.e30 hd.1
      refine stepSP (by simp [Region.wanted, yieldS, gq]) fun K hK => ?_
      go_simp
      exact hK _ _ { h with e31 := fun _ => rfl }
     ·intro L s w2 h hk hd hn
      have s136 := h.e29 hd.1
      have s138 := h.e31 hd.2.1
      refine sP fun K hK => ?_
      go_simp
      exact hK _ _ { h with e32 := fun _ => rfl }
     ·intro L s w2 h hk hd hn
      have s139 := h.e32 hd.1
      refine sP fun K hK => ?_
      exact rs_move rfl s139 (hK _ _ { h with e33 := fun _ => rfl })
     ·intro L s w2 h hk hd hn
      have gq := h.e33 hd.1
      have s17 : s 17 = _ := hk 17 (by kernel_rfl)
      refine stepSP (by simp [Region.wanted, yieldS, gq]) fun K hK => ?_
      exact rs_field rfl s17 (fl_model0 _ _) (hK _ _ { h with e34 := fun _ => rfl })
     ·intro L s w2 h hk hd hn
      have gq := h.e33 hd.2.1
      have s141 := h.e34 hd.1
      refine stepSP (by simp [Region.wanted, yieldS, gq]) fun K hK => ?_
      exact rs_index rfl s141 rfl (ix_model _ 5 (by decide)) (hK _ _ { h with e35 := fun _ => rfl })
     ·intro L s w2 h hk hd hn
      have gq := h.e33 hd.2.1
      have s142 := h.e35 hd.1
      have kb := ((h.mu.same _ ((Array.getElem?_eq_some_iff.1 HIV.out).1) (by simp)).trans HIV.out)
      refine stepSP (by simp [Region.wanted, yieldS, gq]) fun K hK => ?_
      exact rs_load rfl s142 (sp_load (p := 5) kb (by have := (mInv_len : mInv.length = 22); omega)) (hK _ _ { h with e36 := fun _ => rfl })
     ·intro L s w2 h hk hd hn
      have gq := h.e33 hd.1
      refine stepSP (by simp [Region.wanted, yieldS, gq]) fun K hK => ?_
      go_simp
      refine (law21_pt 1073741824 _).mono ?_
      rintro e w3 ⟨rfl, hb⟩
      exact .inl ⟨_, rfl, hK _ _ { h with mu := h.mu.step hb, e37 := fun _ => rfl }⟩
     ·intro L s w2 h hk hd hn
      have gq := h.e33 hd.2.2.1
      have s143 := h.e36 hd.1
      have s144 := h.e37 hd.2.1
      have hq := bin_eqS (tAt mInv 5) (((1073741824, 1073741824) : Int × Int))
      have hg := guard_eqS (tAt mInv 5) (((1073741824, 1073741824) : Int × Int))
      rw [show decide (tAt mInv 5 = ((1073741824, 1073741824) : Int × Int)) = true from decide_eq_true ex_inv.2] at hq
      refine stepSP (by simp [Region.wanted, yieldS, gq]) fun K hK => ?_
      go_simp
      exact hK _ _ { h with e38 := fun _ => rfl }
     ·intro L s w2 h hk hd hn
      have s140 := h.e33 hd.1
      have s145 := h.e38 hd.2.1
      refine sP fun K hK => ?_
      go_simp
      exact hK _ _ { h with e39 := fun _ => rfl }
     ·intro L s w2 h hk hd hn
      have s146 := h.e39 hd.1
      refine sP fun K hK => ?_
      exact rs_move rfl s146 (hK _ _ { h with e40 := fun _ => rfl })
     ·intro L s w2 h hk hd hn
      have gq := h.e40 hd.1
      have s20 : s 20 = _ := hk 20 (by kernel_rfl)
      refine stepSP (by simp [Region.wanted, yieldS, gq]) fun K hK => ?_
      exact rs_move rfl s20 (hK _ _ { h with e41 := fun _ => rfl })
     ·intro L s w2 h hk hd hn
      have gq := h.e40 hd.2.1
      have s148 := h.e41 hd.1
      refine stepSP (by simp [Region.wanted, yieldS, gq]) fun K hK => ?_
      go_simp
      exact hK _ _ { h with e42 := fun _ => rfl }
     ·intro L s w2 h hk hd hn
      have s147 := h.e40 hd.1
      have s149 := h.e42 hd.2.1
      refine sP fun K hK => ?_
      go_simp
      exact hK _ _ { h with e43 := fun _ => rfl }
     ·intro L s w2 h hk hd hn
      have s150 := h.e43 hd.1
      refine sP fun K hK => ?_
      exact rs_move rfl s150 (hK _ _ { h with e44 := fun _ => rfl })
     ·intro L s w2 h hk hd hn
      have gq := h.e44 hd.1
      have s22 : s 22 = _ := hk 22 (by kernel_rfl)
      refine stepSP (by simp [Region.wanted, yieldS, gq]) fun K hK => ?_
      exact rs_move rfl s22 (hK _ _ { h with e45 := fun _ => rfl })
     ·intro L s w2 h hk hd hn
      have gq := h.e44 hd.2.1
      have s152 := h.e45 hd.1
      refine stepSP (by simp [Region.wanted, yieldS, gq]) fun K hK => ?_
      go_simp
      exact hK _ _ { h with e46 := fun _ => rfl }
     ·intro L s w2 h hk hd hn
      have s151 := h.e44 hd.1
      have s153 := h.e46 hd.2.1
      refine sP fun K hK => ?_
      go_simp
      exact hK _ _ { h with e47 := fun _ => rfl }
     ·intro L s w2 h hk hd hn
      have s154 := h.e47 hd.1
      refine sP fun K hK => ?_
      exact rs_assign rfl s154 (hK _ _ { h with e48 := fun _ => rfl })
    ·intro L s w2 h hk hl
     refine cA ?_ (hQ2 s w2 (⟨h.mu, h.e48 (hl 48 (by decide))⟩))
     exact frame_eq hk (by kernel_rfl) (by kernel_rfl)
    ·intro c s w2 hc
     exact hc.elim
   rotate_left
   ·rintro _ _ _ h
    exact h.elim
   rintro s19 V ⟨h1, k0⟩
   simp only [mergeL]
   rw [k0]
   replace HU := sm h1 HU
   replace HV := sm h1 HV
   replace HUV := sm h1 HUV
   replace HA := sm h1 HA
   replace HBB := sm h1 HBB
   replace HSQ := sm h1 HSQ
   replace HCC := sm h1 HCC
   replace HIV := sm h1 HIV
   replace HJ := sm h1 HJ
   replace HJ2 := sm h1 HJ2
   replace HM := lh (HM.out.stepM h1 (by simp))
   clear h1 k0
   refine HK19.out _ _ ?_
   refine wp_ret ?_
   exact bodyPost_ret (v := .bool true) (by simp [results, Tryz.results6, go_sem]) rfl ⟨rfl, by rw [← HBW.out]; exact HM.out.to0⟩
end Go.Proofs.YthhkcfpljgdnhaaGreat
