/- The walk of monoclelaw21.TaylorOrder. Printed by wip/genOd.py. -/
import Derived.Test.YthhkcfpljgdnhaaLawYW
import Derived.Test.YthhkcfpljgdnhaaOrdLawB
import Derived.Test.YthhkcfpljgdnhaaTayEq
import Derived.Test.YthhkcfpljgdnhaaTayArr
namespace Go.Proofs.Ythhkcfpljgdnhaa
open Go.RowKit Mnc
attribute [local go_sem] RunSP_value RunSP_skip RunSP_enter evS_tmp evS_const evS_global evS_func
theorem bin_neM (a c : List (Int × Int)) (ha : a.length = 22) (hc : c.length = 22) (w : World) : (binOp .neq 28 (mval a) (mval c)).run Try.prog w = .ok (.bool (!decide (a = c))) w := by
  have h := eqlM a c ha hc w
  unfold mval at h ⊢
  go_simp
theorem guard_neM (a c : List (Int × Int)) (x y : Operand) (w : World) : (eqGuard .neq 28 x y (mval a) (mval c)).run Try.prog w = .ok () w := by
  have h : Try.prog.eqGuardType Try.prog.depth 28 = false := by kernel_rfl
  unfold mval eqGuard
  simp [go_sem, h]
theorem co_load {W : World} {b : Nat} {t : TypeId} {a : List (Int × Int)} (h : W.heap[b]? = some (cobj t a)) (hl : a.length = 22) : (Instr.loadAt 26 (.pointer (some ⟨b, 0, none⟩))).run Try.prog W = .ok (mval (a.take 21)) W := by
  obtain ⟨d, hd⟩ := Option.isSome_iff_exists.1 (show (Try.prog.underlying 26).isSome = true by kernel_rfl)
  have hr : d.isRow = true := by
    have hm : (Try.prog.underlying 26).map TypeDesc.isRow = some true := by kernel_rfl
    rw [hd] at hm
    exact Option.some.inj hm
  refine run_loadAt_mid W b 0 _ _ d (fun j v hv => cobj_all h j v ?_) hd hr (by rw [mc_length, List.length_take, hl]; kernel_rfl)
  rw [← mc_takeN a 21 (by omega), List.getElem?_take] at hv
  split at hv
  · exact hv
  · simp at hv
set_option maxRecDepth 1000000 in
theorem ix_co {a : List (Int × Int)} (hl : a.length = 22) {k : Nat} (hk : k < 21) (W : World) : (Instr.index 26 (mval (a.take 21)) (.int .i64 (k : Int))).run Try.prog W = .ok (sval (tAt a k)) W := by
  obtain ⟨x0, x1, x2, x3, x4, x5, x6, x7, x8, x9, x10, x11, x12, x13, x14, x15, x16, x17, x18, x19, x20, x21, rfl⟩ := list22 hl
  obtain rfl | rfl | rfl | rfl | rfl | rfl | rfl | rfl | rfl | rfl | rfl | rfl | rfl | rfl | rfl | rfl | rfl | rfl | rfl | rfl | rfl : k = 0 ∨ k = 1 ∨ k = 2 ∨ k = 3 ∨ k = 4 ∨ k = 5 ∨ k = 6 ∨ k = 7 ∨ k = 8 ∨ k = 9 ∨ k = 10 ∨ k = 11 ∨ k = 12 ∨ k = 13 ∨ k = 14 ∨ k = 15 ∨ k = 16 ∨ k = 17 ∨ k = 18 ∨ k = 19 ∨ k = 20 := by omega
  all_goals kernel_rfl
theorem dr_ModelA {c r : Int} {ts : List Tm} {ao : Option Addr} {cap : Nat} {A : List (Int × Int)} (hA : dModel c ts r = A) (hc : -32768 ≤ c ∧ c ≤ 32767) (hr : 0 ≤ r ∧ r ≤ 65535) (w : World) (ht : TmSl w ao cap ts) :
    Calls Try.prog 15 #[.agg #[.int .i16 c, .slice ao ts.length cap, .int .u16 r]] w fun e w' => e = .returned (mval A) ∧ Below w.heap.size w w' := by
  subst hA
  exact dr_Model c r ts ao cap hc hr w ht
theorem wr_i32 {x : Int} (h : -2147483648 ≤ x ∧ x ≤ 2147483647) : IntKind.i64.wrap x = x ∧ IntKind.i64.wrap (2 * x) = 2 * x := by
  constructor <;>
  · simp [IntKind.wrap, IntKind.bits, IntKind.signed]
    omega
theorem gConst1 (h : xConst (4294967296, 4294967296) = (oneM, 0)) (w : World) : Calls Try.prog 22 #[sval (4294967296, 4294967296)] w fun e w' => e = .returned (.tuple #[mval oneM, .int .i64 0]) ∧ Below w.heap.size w w' := by
  have h2 := taw_Const (4294967296, 4294967296) w
  rw [h] at h2
  exact h2
theorem gScale0 {a m : List (Int × Int)} {s : Int × Int} (ha : a.length = 22) (hs : okS s) (h1 : (xScale a s).1 = m) (h0 : (xScale a s).2 = 0) (w : World) : Calls Try.prog 29 #[mval a, sval s] w fun e w' => e = .returned (.tuple #[mval m, .int .i64 0]) ∧ Below w.heap.size w w' := by
  have h2 := taw_Scale a s ha hs w
  rw [h1, h0] at h2
  exact h2
theorem gMul0 {a d m : List (Int × Int)} (ha : a.length = 22) (hd : d.length = 22) (h1 : (xMul a d).1 = m) (h0 : (xMul a d).2 = 0) (w : World) : Calls Try.prog 30 #[mval a, mval d] w fun e w' => e = .returned (.tuple #[mval m, .int .i64 0]) ∧ Below w.heap.size w w' := by
  have h2 := taw_Mul a d ha hd w
  rw [h1, h0] at h2
  exact h2
theorem gAdd0 {a d m : List (Int × Int)} (ha : a.length = 22) (hd : d.length = 22) (h1 : (xAdd a d).1 = m) (h0 : (xAdd a d).2 = 0) (w : World) : Calls Try.prog 31 #[mval a, mval d] w fun e w' => e = .returned (.tuple #[mval m, .int .i64 0]) ∧ Below w.heap.size w w' := by
  have h2 := taw_Add a d ha hd w
  rw [h1, h0] at h2
  exact h2
theorem gSub0 {a d m : List (Int × Int)} (ha : a.length = 22) (hd : d.length = 22) (h1 : (xSub a d).1 = m) (h0 : (xSub a d).2 = 0) (w : World) : Calls Try.prog 32 #[mval a, mval d] w fun e w' => e = .returned (.tuple #[mval m, .int .i64 0]) ∧ Below w.heap.size w w' := by
  have h2 := taw_Sub a d ha hd w
  rw [h1, h0] at h2
  exact h2
theorem gBound0 {a : List (Int × Int)} {m : Int × Int} (ha : a.length = 22) (h1 : (xBound a).1 = m) (h0 : (xBound a).2 = 0) (w : World) : Calls Try.prog 33 #[mval a] w fun e w' => e = .returned (.tuple #[sval m, .int .i64 0]) ∧ Below w.heap.size w w' := by
  have h2 := taw_Bound a ha w
  rw [h1, h0] at h2
  exact h2
theorem gEval0 {a : List (Int × Int)} {u v m : Int × Int} (ha : a.length = 22) (hr : (tRight a).2 = 0) (hu : okU u) (hv : okU v) (h1 : (xEval a u v).1 = m) (h0 : (xEval a u v).2 = 0) (w : World) : Calls Try.prog 11 #[mval a, sval u, sval v] w fun e w' => e = .returned (.tuple #[sval m, .int .i64 0]) ∧ Below w.heap.size w w' := by
  have h2 := taw_Eval a u v ha hr hu hv w
  rw [h1, h0] at h2
  exact h2
/-- What the walk asks, in letters. -/
structure TOrdG (A B X S T : List (Int × Int)) (u v ev bo : Int × Int) : Prop where
  f : TOrdF A B u v
  x1 : (xMul A B).1 = X
  x2 : (xMul B A).1 = X
  x0 : (xMul B A).2 = 0
  y1 : (xMul A oneM).1 = A
  y0 : (xMul A oneM).2 = 0
  s1 : (xAdd A B).1 = S
  t1 : (xSub S B).1 = T
  t0 : (xSub S B).2 = 0
  e1 : (xEval A u v).1 = ev
  b1 : (xBound A).1 = bo
  c1 : (xScale A (4294967296, 4294967296)).1 = A
  c0 : (xScale A (4294967296, 4294967296)).2 = 0
  lX : X.length = 22
  lS : S.length = 22
  lT : T.length = 22
  m1 : ev.1 ≤ bo.2
  m2 : bo.1 ≤ ev.2
  back : ∀ n, sIn (tAt A n) (tAt T n)
theorem tOrdG {A B : List (Int × Int)} {u v : Int × Int} (F : TOrdF A B u v) : TOrdG A B (xMul A B).1 (xAdd A B).1 (xSub (xAdd A B).1 B).1 u v (xEval A u v).1 (xBound A).1 where
  f := F
  x1 := rfl
  x2 := by rw [F.mulc]
  x0 := by rw [F.mulc]; exact F.mul0
  y1 := by rw [F.mul1]
  y0 := by rw [F.mul1]
  s1 := rfl
  t1 := rfl
  t0 := F.sub0
  e1 := rfl
  b1 := rfl
  c1 := by rw [F.scl]
  c0 := by rw [F.scl]
  lX := xMulLen _ _ F.lenA F.lenB
  lS := xAddLen _ _ F.lenA F.lenB
  lT := xSubLen _ _ (xAddLen _ _ F.lenA F.lenB) F.lenB
  m1 := F.meet1
  m2 := F.meet2
  back := F.back
structure Od1 (V : World) (L : Nat → Bool) (s : Nat → Value) (w : World) : Prop where
  mu : Mut [] V w
  e0 : L 0 = true → s 26 = .bool true
  e1 : L 1 = true → s 27 = .bool false
structure Od3 (V : World) (c : Int) (r : Int) (ts : List Tm) (ao : Option Addr) (cap : Nat) (c2 : Int) (r2 : Int) (ts2 : List Tm) (ao2 : Option Addr) (cap2 : Nat) (A : List (Int × Int)) (B : List (Int × Int)) (L : Nat → Bool) (s : Nat → Value) (w : World) : Prop where
  mu : Mut [] V w
  e0 : L 0 = true → s 28 = .agg #[.int .i16 c, .slice ao ts.length cap, .int .u16 r]
  e1 : L 1 = true → s 29 = mval A
  e2 : L 2 = true → s 30 = .agg #[.int .i16 c2, .slice ao2 ts2.length cap2, .int .u16 r2]
  e3 : L 3 = true → s 31 = mval B
  al_a : L 4 = true → ∃ g : Nat, s 9 = .pointer (some ⟨g, 0, none⟩) ∧ V.heap.size ≤ g ∧ g < w.heap.size ∧ (L 6 = false → w.heap[g]? = some (cobj 28 zeroM)) ∧ (L 6 = true → w.heap[g]? = some (cobj 28 A))
  dn_a_bb : L 4 = true → L 5 = true → s 9 ≠ s 10
  al_bb : L 5 = true → ∃ g : Nat, s 10 = .pointer (some ⟨g, 0, none⟩) ∧ V.heap.size ≤ g ∧ g < w.heap.size ∧ (L 7 = false → w.heap[g]? = some (cobj 28 zeroM)) ∧ (L 7 = true → w.heap[g]? = some (cobj 28 B))
  b6_4 : L 6 = true → L 4 = true
  b7_5 : L 7 = true → L 5 = true
structure Od4 (V : World) (L : Nat → Bool) (s : Nat → Value) (w : World) : Prop where
  mu : Mut [] V w
  e0 : L 0 = true → s 33 = sval (4294967296, 4294967296)
  e1 : L 1 = true → s 34 = .tuple #[mval oneM, .int .i64 0]
  e2 : L 2 = true → s 32 = .tuple #[mval oneM, .int .i64 0]
  e3 : L 3 = true → s 35 = mval oneM
  e4 : L 4 = true → s 36 = .int .i64 0
  al_on : L 5 = true → ∃ g : Nat, s 11 = .pointer (some ⟨g, 0, none⟩) ∧ V.heap.size ≤ g ∧ g < w.heap.size ∧ (L 6 = false → w.heap[g]? = some (cobj 28 zeroM)) ∧ (L 6 = true → w.heap[g]? = some (cobj 28 oneM))
  e7 : L 7 = true → s 12 = .int .i64 0
  b6_5 : L 6 = true → L 5 = true
structure Od5 (V : World) (A : List (Int × Int)) (L : Nat → Bool) (s : Nat → Value) (w : World) : Prop where
  mu : Mut [] V w
  e0 : L 0 = true → s 38 = mval A
  e1 : L 1 = true → s 39 = sval (4294967296, 4294967296)
  e2 : L 2 = true → s 40 = .tuple #[mval A, .int .i64 0]
  e3 : L 3 = true → s 37 = .tuple #[mval A, .int .i64 0]
  e4 : L 4 = true → s 41 = mval A
  e5 : L 5 = true → s 42 = .int .i64 0
  al_sa : L 6 = true → ∃ g : Nat, s 13 = .pointer (some ⟨g, 0, none⟩) ∧ V.heap.size ≤ g ∧ g < w.heap.size ∧ (L 7 = false → w.heap[g]? = some (cobj 28 zeroM)) ∧ (L 7 = true → w.heap[g]? = some (cobj 28 A))
  e8 : L 8 = true → s 14 = .int .i64 0
  b7_6 : L 7 = true → L 6 = true
structure Od6 (V : World) (A : List (Int × Int)) (L : Nat → Bool) (s : Nat → Value) (w : World) : Prop where
  mu : Mut [] V w
  e0 : L 0 = true → s 43 = .int .i64 0
  e1 : L 1 = true → s 44 = .bool false
  e2 : L 2 = true → s 45 = .bool false
  e3 : L 3 = true → s 46 = .int .i64 0
  e4 : L 4 = true → s 47 = .bool false
  e5 : L 5 = true → s 48 = .bool false
  e6 : L 6 = true → s 49 = .bool false
  e7 : L 7 = true → s 50 = mval A
  e8 : L 8 = true → s 51 = mval A
  e9 : L 9 = true → s 52 = .bool false
  e10 : L 10 = true → s 53 = .bool false
structure Od8 (V : World) (A : List (Int × Int)) (B : List (Int × Int)) (X : List (Int × Int)) (L : Nat → Bool) (s : Nat → Value) (w : World) : Prop where
  mu : Mut [] V w
  e0 : L 0 = true → s 55 = mval A
  e1 : L 1 = true → s 56 = mval B
  e2 : L 2 = true → s 57 = .tuple #[mval X, .int .i64 0]
  e3 : L 3 = true → s 54 = .tuple #[mval X, .int .i64 0]
  e4 : L 4 = true → s 58 = mval X
  e5 : L 5 = true → s 59 = .int .i64 0
  al_x : L 6 = true → ∃ g : Nat, s 15 = .pointer (some ⟨g, 0, none⟩) ∧ V.heap.size ≤ g ∧ g < w.heap.size ∧ (L 7 = false → w.heap[g]? = some (cobj 28 zeroM)) ∧ (L 7 = true → w.heap[g]? = some (cobj 28 X))
  e8 : L 8 = true → s 12 = .int .i64 0
  b7_6 : L 7 = true → L 6 = true
structure Od9 (V : World) (A : List (Int × Int)) (B : List (Int × Int)) (X : List (Int × Int)) (L : Nat → Bool) (s : Nat → Value) (w : World) : Prop where
  mu : Mut [] V w
  e0 : L 0 = true → s 61 = mval B
  e1 : L 1 = true → s 62 = mval A
  e2 : L 2 = true → s 63 = .tuple #[mval X, .int .i64 0]
  e3 : L 3 = true → s 60 = .tuple #[mval X, .int .i64 0]
  e4 : L 4 = true → s 64 = mval X
  e5 : L 5 = true → s 65 = .int .i64 0
  al_y : L 6 = true → ∃ g : Nat, s 16 = .pointer (some ⟨g, 0, none⟩) ∧ V.heap.size ≤ g ∧ g < w.heap.size ∧ (L 7 = false → w.heap[g]? = some (cobj 28 zeroM)) ∧ (L 7 = true → w.heap[g]? = some (cobj 28 X))
  e8 : L 8 = true → s 14 = .int .i64 0
  b7_6 : L 7 = true → L 6 = true
structure Od10 (V : World) (A : List (Int × Int)) (L : Nat → Bool) (s : Nat → Value) (w : World) : Prop where
  mu : Mut [] V w
  e0 : L 0 = true → s 67 = mval A
  e1 : L 1 = true → s 68 = mval oneM
  e2 : L 2 = true → s 69 = .tuple #[mval A, .int .i64 0]
  e3 : L 3 = true → s 66 = .tuple #[mval A, .int .i64 0]
  e4 : L 4 = true → s 70 = mval A
  e5 : L 5 = true → s 71 = .int .i64 0
  al_z : L 6 = true → ∃ g : Nat, s 17 = .pointer (some ⟨g, 0, none⟩) ∧ V.heap.size ≤ g ∧ g < w.heap.size ∧ (L 7 = false → w.heap[g]? = some (cobj 28 zeroM)) ∧ (L 7 = true → w.heap[g]? = some (cobj 28 A))
  e8 : L 8 = true → s 18 = .int .i64 0
  b7_6 : L 7 = true → L 6 = true
structure Od11 (V : World) (A : List (Int × Int)) (X : List (Int × Int)) (L : Nat → Bool) (s : Nat → Value) (w : World) : Prop where
  mu : Mut [] V w
  e0 : L 0 = true → s 72 = .int .i64 0
  e1 : L 1 = true → s 73 = .bool false
  e2 : L 2 = true → s 74 = .bool false
  e3 : L 3 = true → s 75 = .int .i64 0
  e4 : L 4 = true → s 76 = .bool false
  e5 : L 5 = true → s 77 = .bool false
  e6 : L 6 = true → s 78 = .bool false
  e7 : L 7 = true → s 79 = .int .i64 0
  e8 : L 8 = true → s 80 = .bool false
  e9 : L 9 = true → s 81 = .bool false
  e10 : L 10 = true → s 82 = .bool false
  e11 : L 11 = true → s 83 = mval X
  e12 : L 12 = true → s 84 = mval X
  e13 : L 13 = true → s 85 = .bool false
  e14 : L 14 = true → s 86 = .bool false
  e15 : L 15 = true → s 87 = .bool false
  e16 : L 16 = true → s 88 = mval A
  e17 : L 17 = true → s 89 = mval A
  e18 : L 18 = true → s 90 = .bool false
  e19 : L 19 = true → s 91 = .bool false
structure Od13 (V : World) (A : List (Int × Int)) (B : List (Int × Int)) (S : List (Int × Int)) (L : Nat → Bool) (s : Nat → Value) (w : World) : Prop where
  mu : Mut [] V w
  e0 : L 0 = true → s 93 = mval A
  e1 : L 1 = true → s 94 = mval B
  e2 : L 2 = true → s 95 = .tuple #[mval S, .int .i64 0]
  e3 : L 3 = true → s 92 = .tuple #[mval S, .int .i64 0]
  e4 : L 4 = true → s 96 = mval S
  e5 : L 5 = true → s 97 = .int .i64 0
  al_s : L 6 = true → ∃ g : Nat, s 19 = .pointer (some ⟨g, 0, none⟩) ∧ V.heap.size ≤ g ∧ g < w.heap.size ∧ (L 7 = false → w.heap[g]? = some (cobj 28 zeroM)) ∧ (L 7 = true → w.heap[g]? = some (cobj 28 S))
  e8 : L 8 = true → s 12 = .int .i64 0
  b7_6 : L 7 = true → L 6 = true
structure Od14 (V : World) (B : List (Int × Int)) (S : List (Int × Int)) (T : List (Int × Int)) (L : Nat → Bool) (s : Nat → Value) (w : World) : Prop where
  mu : Mut [] V w
  e0 : L 0 = true → s 99 = mval S
  e1 : L 1 = true → s 100 = mval B
  e2 : L 2 = true → s 101 = .tuple #[mval T, .int .i64 0]
  e3 : L 3 = true → s 98 = .tuple #[mval T, .int .i64 0]
  e4 : L 4 = true → s 102 = mval T
  e5 : L 5 = true → s 103 = .int .i64 0
  al_bk : L 6 = true → ∃ g : Nat, s 20 = .pointer (some ⟨g, 0, none⟩) ∧ V.heap.size ≤ g ∧ g < w.heap.size ∧ (L 7 = false → w.heap[g]? = some (cobj 28 zeroM)) ∧ (L 7 = true → w.heap[g]? = some (cobj 28 T))
  e8 : L 8 = true → s 14 = .int .i64 0
  b7_6 : L 7 = true → L 6 = true
structure Od15 (V : World) (u : Int) (v : Int) (A : List (Int × Int)) (ev : (Int × Int)) (L : Nat → Bool) (s : Nat → Value) (w : World) : Prop where
  mu : Mut [] V w
  e0 : L 0 = true → s 105 = mval A
  e1 : L 1 = true → s 106 = .int .i32 u
  e2 : L 2 = true → s 107 = .int .i64 u
  e3 : L 3 = true → s 108 = .int .i64 (2 * u)
  e4 : L 4 = true → s 109 = sval (2 * u, 2 * u)
  e5 : L 5 = true → s 110 = .int .i32 v
  e6 : L 6 = true → s 111 = .int .i64 v
  e7 : L 7 = true → s 112 = .int .i64 (2 * v)
  e8 : L 8 = true → s 113 = sval (2 * v, 2 * v)
  e9 : L 9 = true → s 114 = .tuple #[sval ev, .int .i64 0]
  e10 : L 10 = true → s 104 = .tuple #[sval ev, .int .i64 0]
  e11 : L 11 = true → s 115 = sval ev
  e12 : L 12 = true → s 116 = .int .i64 0
  al_ev : L 13 = true → ∃ g : Nat, s 21 = .pointer (some ⟨g, 0, none⟩) ∧ V.heap.size ≤ g ∧ g < w.heap.size ∧ (L 14 = false → w.heap[g]? = some (cobj 25 [(0, 0)])) ∧ (L 14 = true → w.heap[g]? = some (cobj 25 [ev]))
  e15 : L 15 = true → s 18 = .int .i64 0
  b14_13 : L 14 = true → L 13 = true
structure Od16 (V : World) (A : List (Int × Int)) (bo : (Int × Int)) (L : Nat → Bool) (s : Nat → Value) (w : World) : Prop where
  mu : Mut [] V w
  e0 : L 0 = true → s 118 = mval A
  e1 : L 1 = true → s 119 = .tuple #[sval bo, .int .i64 0]
  e2 : L 2 = true → s 117 = .tuple #[sval bo, .int .i64 0]
  e3 : L 3 = true → s 120 = sval bo
  e4 : L 4 = true → s 121 = .int .i64 0
  al_bo : L 5 = true → ∃ g : Nat, s 22 = .pointer (some ⟨g, 0, none⟩) ∧ V.heap.size ≤ g ∧ g < w.heap.size ∧ (L 6 = false → w.heap[g]? = some (cobj 25 [(0, 0)])) ∧ (L 6 = true → w.heap[g]? = some (cobj 25 [bo]))
  e7 : L 7 = true → s 23 = .int .i64 0
  b6_5 : L 6 = true → L 5 = true
structure Od17 (V : World) (ev : (Int × Int)) (bo : (Int × Int)) (g9 : Nat) (g10 : Nat) (L : Nat → Bool) (s : Nat → Value) (w : World) : Prop where
  mu : Mut [] V w
  e0 : L 0 = true → s 122 = .int .i64 0
  e1 : L 1 = true → s 123 = .bool false
  e2 : L 2 = true → s 124 = .bool false
  e3 : L 3 = true → s 125 = .int .i64 0
  e4 : L 4 = true → s 126 = .bool false
  e5 : L 5 = true → s 127 = .bool false
  e6 : L 6 = true → s 128 = .bool false
  e7 : L 7 = true → s 129 = .int .i64 0
  e8 : L 8 = true → s 130 = .bool false
  e9 : L 9 = true → s 131 = .bool false
  e10 : L 10 = true → s 132 = .bool false
  e11 : L 11 = true → s 133 = .int .i64 0
  e12 : L 12 = true → s 134 = .bool false
  e13 : L 13 = true → s 135 = .bool false
  e14 : L 14 = true → s 136 = .bool false
  e15 : L 15 = true → s 137 = .pointer (some ⟨g9, 0 * 2, none⟩)
  e16 : L 16 = true → s 138 = .int .i64 ev.1
  e17 : L 17 = true → s 139 = .pointer (some ⟨g10, 0 * 2 + 1, none⟩)
  e18 : L 18 = true → s 140 = .int .i64 bo.2
  e19 : L 19 = true → s 141 = .bool false
  e20 : L 20 = true → s 142 = .bool false
  e21 : L 21 = true → s 143 = .bool false
  e22 : L 22 = true → s 144 = .pointer (some ⟨g10, 0 * 2, none⟩)
  e23 : L 23 = true → s 145 = .int .i64 bo.1
  e24 : L 24 = true → s 146 = .pointer (some ⟨g9, 0 * 2 + 1, none⟩)
  e25 : L 25 = true → s 147 = .int .i64 ev.2
  e26 : L 26 = true → s 148 = .bool false
  e27 : L 27 = true → s 149 = .bool false
structure Od19 (V : World) (T : List (Int × Int)) (g8 : Nat) (L : Nat → Bool) (s : Nat → Value) (w : World) : Prop where
  mu : Mut [] V w
  e0 : L 0 = true → s 150 = .pointer (some ⟨g8, 0, none⟩)
  e1 : L 1 = true → s 151 = mval (T.take 21)
  e2 : L 2 = true → s 152 = .int .i64 ((0 : Nat) : Int)
structure Od21 (V : World) (T : List (Int × Int)) (k : Nat) (L : Nat → Bool) (s : Nat → Value) (w : World) : Prop where
  mu : Mut [] V w
  e0 : L 0 = true → s 154 = .int .i64 ((k : Nat) : Int)
  e1 : L 1 = true → s 155 = sval (tAt T k)
  al_cc : L 2 = true → ∃ g : Nat, s 25 = .pointer (some ⟨g, 0, none⟩) ∧ V.heap.size ≤ g ∧ g < w.heap.size ∧ (L 4 = false → w.heap[g]? = some (cobj 25 [(0, 0)])) ∧ (L 4 = true → w.heap[g]? = some (cobj 25 [tAt T k]))
  e3 : L 3 = true → s 24 = .int .i64 ((k : Nat) : Int)
  b4_2 : L 4 = true → L 2 = true
structure Od22 (V : World) (A : List (Int × Int)) (T : List (Int × Int)) (g0 : Nat) (k : Nat) (gc : Nat) (L : Nat → Bool) (s : Nat → Value) (w : World) : Prop where
  mu : Mut [] V w
  e0 : L 0 = true → s 156 = .pointer (some ⟨gc, 0 * 2, none⟩)
  e1 : L 1 = true → s 157 = .int .i64 ((tAt T k).1)
  e2 : L 2 = true → s 158 = .int .i64 ((k : Nat) : Int)
  e3 : L 3 = true → s 159 = .pointer (some ⟨g0, 0, none⟩)
  e4 : L 4 = true → s 160 = .pointer (some ⟨g0, k * 2, none⟩)
  e5 : L 5 = true → s 161 = .pointer (some ⟨g0, k * 2, none⟩)
  e6 : L 6 = true → s 162 = .int .i64 ((tAt A k).1)
  e7 : L 7 = true → s 163 = .bool false
  e8 : L 8 = true → s 164 = .bool false
  e9 : L 9 = true → s 165 = .pointer (some ⟨gc, 0 * 2 + 1, none⟩)
  e10 : L 10 = true → s 166 = .int .i64 ((tAt T k).2)
  e11 : L 11 = true → s 167 = .int .i64 ((k : Nat) : Int)
  e12 : L 12 = true → s 168 = .pointer (some ⟨g0, 0, none⟩)
  e13 : L 13 = true → s 169 = .pointer (some ⟨g0, k * 2, none⟩)
  e14 : L 14 = true → s 170 = .pointer (some ⟨g0, k * 2 + 1, none⟩)
  e15 : L 15 = true → s 171 = .int .i64 ((tAt A k).2)
  e16 : L 16 = true → s 172 = .bool false
  e17 : L 17 = true → s 173 = .bool false
structure Od25 (V : World) (A : List (Int × Int)) (T : List (Int × Int)) (g0 : Nat) (g8 : Nat) (L : Nat → Bool) (s : Nat → Value) (w : World) : Prop where
  mu : Mut [] V w
  e0 : L 0 = true → s 175 = .pointer (some ⟨g8, 21 * 2, none⟩)
  e1 : L 1 = true → s 176 = .pointer (some ⟨g8, 21 * 2, none⟩)
  e2 : L 2 = true → s 177 = .int .i64 ((tAt T 21).1)
  e3 : L 3 = true → s 178 = .pointer (some ⟨g0, 21 * 2, none⟩)
  e4 : L 4 = true → s 179 = .pointer (some ⟨g0, 21 * 2, none⟩)
  e5 : L 5 = true → s 180 = .int .i64 ((tAt A 21).1)
  e6 : L 6 = true → s 181 = .bool true
  e7 : L 7 = true → s 182 = .bool true
  e8 : L 8 = true → s 183 = .pointer (some ⟨g8, 21 * 2, none⟩)
  e9 : L 9 = true → s 184 = .pointer (some ⟨g8, 21 * 2 + 1, none⟩)
  e10 : L 10 = true → s 185 = .int .i64 ((tAt T 21).2)
  e11 : L 11 = true → s 186 = .pointer (some ⟨g0, 21 * 2, none⟩)
  e12 : L 12 = true → s 187 = .pointer (some ⟨g0, 21 * 2 + 1, none⟩)
  e13 : L 13 = true → s 188 = .int .i64 ((tAt A 21).2)
  e14 : L 14 = true → s 189 = .bool true
  e15 : L 15 = true → s 190 = .bool true
  e16 : L 16 = true → s 8 = .bool true
set_option maxRecDepth 100000 in
set_option maxHeartbeats 8000000 in
theorem taylorOrder_walk (c r : Int) (ts : List Tm) (ao : Option Addr) (cap : Nat) (c2 r2 : Int) (ts2 : List Tm) (ao2 : Option Addr) (cap2 : Nat) (u v : Int) (hy : (-32768 ≤ c ∧ c ≤ 32767) ∧ (0 ≤ r ∧ r ≤ 65535) ∧ (-32768 ≤ c2 ∧ c2 ≤ 32767) ∧ (0 ≤ r2 ∧ r2 ≤ 65535) ∧ (-2147483648 ≤ u ∧ u ≤ 2147483647) ∧ -2147483648 ≤ v ∧ v ≤ 2147483647) (w : World) (ht : TmSl w ao cap ts) (ht2 : TmSl w ao2 cap2 ts2) :
    Calls Try.prog 5 #[.agg #[.int .i16 c, .slice ao ts.length cap, .int .u16 r], .agg #[.int .i16 c2, .slice ao2 ts2.length cap2, .int .u16 r2], .int .i32 u, .int .i32 v] w fun e w' => e = .returned (.bool true) ∧ Below w.heap.size w w' := by
  have HY := Lib.hid hy
  have HT := Lib.hid ht
  have HT2 := Lib.hid ht2
  have HG0 := Lib.hid (tOrdG (tOrdF (dModel_len c ts r) (dModel_len c2 ts2 r2) (dModel_bd hy.1 hy.2.1 ht.wf) (dModel_bd hy.2.2.1 hy.2.2.2.1 ht2.wf) (show pt1 (2 * u, 2 * u) from ⟨rfl, by simp only; omega, by simp only; omega⟩) (show pt1 (2 * v, 2 * v) from ⟨rfl, by simp only; omega, by simp only; omega⟩)))
  clear hy ht ht2
  go_enter Try.func5, Try.ntmps5
  refine wp_seq_k fun K0 hK0 => ?_
  have HK0 := Lib.hid hK0
  clear hK0
  go_wp2_with fail
  obtain ⟨b, hb⟩ : ∃ b, w.heap.size = b := ⟨_, rfl⟩
  refine HK0.out _ _ ?_
  refine wp_world (fun V => Mut [] w V ∧ V.heap[b]? = some (.cells #[.int .i16 c, .slice ao ts.length cap, .int .u16 r] 45 (0, 0)) ∧ V.heap[b + 1]? = some (.cells #[.int .i16 c2, .slice ao2 ts2.length cap2, .int .u16 r2] 45 (0, 0))) ?_
    (by
      rw [← hb]
      exact ⟨(((Mut.refl _ _).alloc _).alloc _), heap_up _ (heap_at (.cells #[.int .i16 c, .slice ao ts.length cap, .int .u16 r] 45 (0, 0)) (by simp)), heap_at (.cells #[.int .i16 c2, .slice ao2 ts2.length cap2, .int .u16 r2] 45 (0, 0)) (by simp)⟩)
  rintro V ⟨hm, hHD, hHD2⟩
  rw [hb]
  have HM := Lib.hid hm
  have HBW := Lib.hid hb
  have HLT := Lib.hid trivial
  have HD := Lib.hid hHD
  have HD2 := Lib.hid hHD2
  clear hm hHD hHD2 hb HK0
  obtain ⟨A, hA⟩ : ∃ A, dModel c ts r = A := ⟨_, rfl⟩
  obtain ⟨B, hB⟩ : ∃ B, dModel c2 ts2 r2 = B := ⟨_, rfl⟩
  rw [hA, hB] at HG0
  have HEA := Lib.hid hA
  have HEB := Lib.hid hB
  clear hA hB
  obtain ⟨X, S, T, ev, bo, HG1⟩ : ∃ X S T ev bo, TOrdG A B X S T (2 * u, 2 * u) (2 * v, 2 * v) ev bo := ⟨_, _, _, _, _, HG0.out⟩
  clear HG0
  have HG := Lib.hid HG1
  clear HG1
  refine wp_seq_k fun KA hKA => ?_
  have HKA := Lib.hid hKA
  clear hKA
  refine wp_seq_k fun K1 hK1 => ?_
  have HK1 := Lib.hid hK1
  clear hK1
  refine wp_cut_mergeP [none, none, none, none, none, none, none, none, none, none, none, none, none, none, none, none, none, none, none, none, none, none, none, none, none, none, some 26, some 27, none, none, none, none, none, none, none, none, none, none, none, none, none, none, none, none, none, none, none, none, none, none, none, none, none, none, none, none, none, none, none, none, none, none, none, none, none, none, none, none, none, none, none, none, none, none, none, none, none, none, none, none, none, none, none, none, none, none, none, none, none, none, none, none, none, none, none, none, none, none, none, none, none, none, none, none, none, none, none, none, none, none, none, none, none, none, none, none, none, none, none, none, none, none, none, none, none, none, none, none, none, none, none, none, none, none, none, none, none, none, none, none, none, none, none, none, none, none, none, none, none, none, none, none, none, none, none, none, none, none, none, none, none, none, none, none, none, none, none, none, none, none, none, none, none, none, none, none, none, none, none, none, none, none, none, none, none, none, none, none, none, none, none] (fun s w' => Mut [] V w' ∧ s 27 = .bool false) (fun _ _ => False) ?_ ?_ ?_
  · intro Q2 hQ2 hP2
    refine (wpIn_wide (n := 0)).1 (show Code.wpIn (G none) 0 _ _ _ _ _ from ?_)
    refine wp_region_G (b := false) (Pn := (fun _ _ => False)) (Od1 V) (by kernel_rfl) (by kernel_rfl) ?_ ?_ ?_ ?_
    · exact ⟨Mut.start _ false _, fun h => absurd h Bool.false_ne_true, fun h => absurd h Bool.false_ne_true⟩
    · refine AllSP.cons ?_ (AllSP.cons ?_ AllSP.nil)
      · intro L s w2 h hk hd hn
        refine stepSP rfl fun K hK => ?_
        go_simp
        refine (law21_works _).mono ?_
        rintro e w3 ⟨rfl, hb⟩
        exact .inl ⟨_, rfl, hK _ _ { h with mu := h.mu.step hb, e0 := fun _ => rfl }⟩
      · intro L s w2 h hk hd hn
        have s26 := h.e0 hd.1
        refine stepSP rfl fun K hK => ?_
        go_simp
        exact hK _ _ { h with e1 := fun _ => rfl }
    · intro L s w2 h hk hl
      refine (congrArg (fun a => Q2 .normal a w2) (?_ : _ = _)).mpr (hQ2 s w2 (⟨h.mu, h.e1 (hl 1 (by decide))⟩))
      exact frame_eq hk (by kernel_rfl) (by kernel_rfl)
    · intro c s w2 hc
      exact hc.elim
  rotate_left
  · rintro _ _ _ h
    exact h.elim
  rintro s1 V ⟨h1, k27⟩
  simp only [mergeL]
  rw [k27]
  replace HD := Lib.hid ((h1.same _ (lt_of_block HD.out) (by simp)).trans HD.out)
  replace HD2 := Lib.hid ((h1.same _ (lt_of_block HD2.out) (by simp)).trans HD2.out)
  replace HM := Lib.hid (HM.out.stepM h1 (by simp))
  clear h1 k27
  refine HK1.out _ _ ?_
  go_wp2_with fail
  refine HKA.out _ _ ?_
  refine wp_seq_k fun K3 hK3 => ?_
  have HK3 := Lib.hid hK3
  clear hK3
  refine wp_cut_mergeP [none, none, none, none, none, none, none, none, none, some 9, some 10, none, none, none, none, none, none, none, none, none, none, none, none, none, none, none, none, none, some 28, some 29, some 30, some 31, none, none, none, none, none, none, none, none, none, none, none, none, none, none, none, none, none, none, none, none, none, none, none, none, none, none, none, none, none, none, none, none, none, none, none, none, none, none, none, none, none, none, none, none, none, none, none, none, none, none, none, none, none, none, none, none, none, none, none, none, none, none, none, none, none, none, none, none, none, none, none, none, none, none, none, none, none, none, none, none, none, none, none, none, none, none, none, none, none, none, none, none, none, none, none, none, none, none, none, none, none, none, none, none, none, none, none, none, none, none, none, none, none, none, none, none, none, none, none, none, none, none, none, none, none, none, none, none, none, none, none, none, none, none, none, none, none, none, none, none, none, none, none, none, none, none, none, none, none, none, none, none, none, none, none, none, none, none, none] (fun s w' => Mut [] V w' ∧ (∃ g : Nat, s 9 = .pointer (some ⟨g, 0, none⟩) ∧ V.heap.size ≤ g ∧ w'.heap[g]? = some (cobj 28 A)) ∧ (∃ g : Nat, s 10 = .pointer (some ⟨g, 0, none⟩) ∧ V.heap.size ≤ g ∧ w'.heap[g]? = some (cobj 28 B))) (fun _ _ => False) ?_ ?_ ?_
  · intro Q2 hQ2 hP2
    refine (wpIn_wide (n := 0)).1 (show Code.wpIn (G none) 0 _ _ _ _ _ from ?_)
    refine wp_region_G (b := true) (Pn := (fun _ _ => False)) (Od3 V c r ts ao cap c2 r2 ts2 ao2 cap2 A B) (by kernel_rfl) (by kernel_rfl) ?_ ?_ ?_ ?_
    · exact ⟨Mut.start _ true _, fun h => absurd h Bool.false_ne_true, fun h => absurd h Bool.false_ne_true, fun h => absurd h Bool.false_ne_true, fun h => absurd h Bool.false_ne_true, fun h => absurd h Bool.false_ne_true, fun h => absurd h Bool.false_ne_true, fun h => absurd h Bool.false_ne_true, fun h => absurd h Bool.false_ne_true, fun h => absurd h Bool.false_ne_true⟩
    · refine AllSP.cons ?_ (AllSP.cons ?_ (AllSP.cons ?_ (AllSP.cons ?_ (AllSP.cons ?_ (AllSP.cons ?_ (AllSP.cons ?_ (AllSP.cons ?_ AllSP.nil)))))))
      · intro L s w2 h hk hd hn
        have s4 : s 4 = _ := hk 4 (by kernel_rfl)
        have kqka := (h.mu.same _ (lt_of_block HD.out) (by simp)).trans HD.out
        have ka : w2.cell? ⟨b, 0, none⟩ = some (.int .i16 c) := by rw [cell_of_row w2 (b) 0 _ _ _ kqka]; rfl
        have kqkb := (h.mu.same _ (lt_of_block HD.out) (by simp)).trans HD.out
        have kb : w2.cell? ⟨b, 1, none⟩ = some (.slice ao ts.length cap) := by rw [cell_of_row w2 (b) 1 _ _ _ kqkb]; rfl
        have kqkc := (h.mu.same _ (lt_of_block HD.out) (by simp)).trans HD.out
        have kc : w2.cell? ⟨b, 2, none⟩ = some (.int .u16 r) := by rw [cell_of_row w2 (b) 2 _ _ _ kqkc]; rfl
        refine stepSP rfl fun K hK => ?_
        go_simp
        exact hK _ _ { h with e0 := fun _ => rfl }
      · intro L s w2 h hk hd hn
        have s28 := h.e0 hd.1
        refine stepSP rfl fun K hK => ?_
        go_simp
        refine (dr_ModelA HEA.out HY.out.1 HY.out.2.1 _ (HT.out.on (HM.out.trans h.mu).to0)).mono ?_
        rintro e w3 ⟨rfl, hb⟩
        exact .inl ⟨_, rfl, hK _ _ { h with mu := h.mu.step hb, al_a := fun a => let ⟨g, h0, h1, hl, h2, h3⟩ := h.al_a a; ⟨g, h0, h1, Nat.lt_of_lt_of_le hl hb.size, fun c => (hb.block _ (lt_of_block (h2 c))).trans (h2 c), fun c => (hb.block _ (lt_of_block (h3 c))).trans (h3 c)⟩, al_bb := fun a => let ⟨g, h0, h1, hl, h2, h3⟩ := h.al_bb a; ⟨g, h0, h1, Nat.lt_of_lt_of_le hl hb.size, fun c => (hb.block _ (lt_of_block (h2 c))).trans (h2 c), fun c => (hb.block _ (lt_of_block (h3 c))).trans (h3 c)⟩, e1 := fun _ => rfl }⟩
      · intro L s w2 h hk hd hn
        have s5 : s 5 = _ := hk 5 (by kernel_rfl)
        have kqka := (h.mu.same _ (lt_of_block HD2.out) (by simp)).trans HD2.out
        have ka : w2.cell? ⟨b + 1, 0, none⟩ = some (.int .i16 c2) := by rw [cell_of_row w2 (b + 1) 0 _ _ _ kqka]; rfl
        have kqkb := (h.mu.same _ (lt_of_block HD2.out) (by simp)).trans HD2.out
        have kb : w2.cell? ⟨b + 1, 1, none⟩ = some (.slice ao2 ts2.length cap2) := by rw [cell_of_row w2 (b + 1) 1 _ _ _ kqkb]; rfl
        have kqkc := (h.mu.same _ (lt_of_block HD2.out) (by simp)).trans HD2.out
        have kc : w2.cell? ⟨b + 1, 2, none⟩ = some (.int .u16 r2) := by rw [cell_of_row w2 (b + 1) 2 _ _ _ kqkc]; rfl
        refine stepSP rfl fun K hK => ?_
        go_simp
        exact hK _ _ { h with e2 := fun _ => rfl }
      · intro L s w2 h hk hd hn
        have s30 := h.e2 hd.1
        refine stepSP rfl fun K hK => ?_
        go_simp
        refine (dr_ModelA HEB.out HY.out.2.2.1 HY.out.2.2.2.1 _ (HT2.out.on (HM.out.trans h.mu).to0)).mono ?_
        rintro e w3 ⟨rfl, hb⟩
        exact .inl ⟨_, rfl, hK _ _ { h with mu := h.mu.step hb, al_a := fun a => let ⟨g, h0, h1, hl, h2, h3⟩ := h.al_a a; ⟨g, h0, h1, Nat.lt_of_lt_of_le hl hb.size, fun c => (hb.block _ (lt_of_block (h2 c))).trans (h2 c), fun c => (hb.block _ (lt_of_block (h3 c))).trans (h3 c)⟩, al_bb := fun a => let ⟨g, h0, h1, hl, h2, h3⟩ := h.al_bb a; ⟨g, h0, h1, Nat.lt_of_lt_of_le hl hb.size, fun c => (hb.block _ (lt_of_block (h2 c))).trans (h2 c), fun c => (hb.block _ (lt_of_block (h3 c))).trans (h3 c)⟩, e3 := fun _ => rfl }⟩
      · intro L s w2 h hk hd hn
        refine stepSP rfl fun K hK => ?_
        go_simp
        exact hK _ _ { h with mu := h.mu.alloc _, al_bb := fun a => let ⟨g, h0, h1, hl, h2, h3⟩ := h.al_bb a; ⟨g, h0, h1, by simp; omega, fun c => heap_up _ (h2 c), fun c => heap_up _ (h3 c)⟩, dn_a_bb := fun _ b => let ⟨g, h0, _, hl, _, _⟩ := h.al_bb b; ptr_ne hl h0, al_a := fun _ => ⟨_, rfl, h.mu.size, by simp, fun _ => heap_at _ rfl, fun a => absurd (h.b6_4 a) (by rw [hn]; exact Bool.false_ne_true)⟩, b6_4 := fun _ => rfl }
      · intro L s w2 h hk hd hn
        refine stepSP rfl fun K hK => ?_
        go_simp
        exact hK _ _ { h with mu := h.mu.alloc _, al_a := fun a => let ⟨g, h0, h1, hl, h2, h3⟩ := h.al_a a; ⟨g, h0, h1, by simp; omega, fun c => heap_up _ (h2 c), fun c => heap_up _ (h3 c)⟩, dn_a_bb := fun a _ => let ⟨g, h0, _, hl, _, _⟩ := h.al_a a; (ptr_ne hl h0).symm, al_bb := fun _ => ⟨_, rfl, h.mu.size, by simp, fun _ => heap_at _ rfl, fun a => absurd (h.b7_5 a) (by rw [hn]; exact Bool.false_ne_true)⟩, b7_5 := fun _ => rfl }
      · intro L s w2 h hk hd hn
        have s29 := h.e1 hd.2.1
        obtain ⟨g, hg0, hg1, hgl, hg2, hg3⟩ := h.al_a hd.1
        have kb := hg2 hn
        refine stepSP rfl fun K hK => ?_
        exact rs_store rfl hg0 s29 (md_store kb rfl _ HG.out.f.lenA) (hK _ _ { h with mu := h.mu.putNew hg1 _, al_bb := fun a => let ⟨g2, h0, h1, hl, h2, h3⟩ := h.al_bb a; have hne := ptr_inj (h.dn_a_bb hd.1 a) hg0 h0; ⟨g2, h0, h1, by simpa using hl, fun c => (World.putObj_heap_other (Ne.symm hne)).trans (h2 c), fun c => (World.putObj_heap_other (Ne.symm hne)).trans (h3 c)⟩, al_a := fun a => ⟨g, hg0, hg1, by simpa using hgl, nF, fun _ => pH kb⟩, b6_4 := fun _ => hd.1 })
      · intro L s w2 h hk hd hn
        have s31 := h.e3 hd.2.1
        obtain ⟨g, hg0, hg1, hgl, hg2, hg3⟩ := h.al_bb hd.1
        have kb := hg2 hn
        refine stepSP rfl fun K hK => ?_
        exact rs_store rfl hg0 s31 (md_store kb rfl _ HG.out.f.lenB) (hK _ _ { h with mu := h.mu.putNew hg1 _, al_a := fun a => let ⟨g2, h0, h1, hl, h2, h3⟩ := h.al_a a; have hne := ptr_inj ((h.dn_a_bb a hd.1).symm) hg0 h0; ⟨g2, h0, h1, by simpa using hl, fun c => (World.putObj_heap_other (Ne.symm hne)).trans (h2 c), fun c => (World.putObj_heap_other (Ne.symm hne)).trans (h3 c)⟩, al_bb := fun a => ⟨g, hg0, hg1, by simpa using hgl, nF, fun _ => pH kb⟩, b7_5 := fun _ => hd.1 })
    · intro L s w2 h hk hl
      refine (congrArg (fun a => Q2 .normal a w2) (?_ : _ = _)).mpr (hQ2 s w2 (⟨h.mu, (let ⟨g, h0, h1, _, _, h3⟩ := h.al_a (hl 4 (by decide)); ⟨g, h0, h1, h3 (hl 6 (by decide))⟩), (let ⟨g, h0, h1, _, _, h3⟩ := h.al_bb (hl 5 (by decide)); ⟨g, h0, h1, h3 (hl 7 (by decide))⟩)⟩))
      exact frame_eq hk (by kernel_rfl) (by kernel_rfl)
    · intro c s w2 hc
      exact hc.elim
  rotate_left
  · rintro _ _ _ h
    exact h.elim
  rintro s3 V ⟨h1, ⟨g0, k_a, g_a, c_a⟩, ⟨g1, k_bb, g_bb, c_bb⟩⟩
  simp only [mergeL]
  rw [k_a]
  rw [k_bb]
  replace HD := Lib.hid ((h1.same _ (lt_of_block HD.out) (by simp)).trans HD.out)
  replace HD2 := Lib.hid ((h1.same _ (lt_of_block HD2.out) (by simp)).trans HD2.out)
  have HA := Lib.hid c_a
  have HB := Lib.hid c_bb
  replace HM := Lib.hid (HM.out.stepM h1 (by simp))
  clear h1 k_a g_a c_a k_bb g_bb c_bb
  refine HK3.out _ _ ?_
  refine wp_seq_k fun K4 hK4 => ?_
  have HK4 := Lib.hid hK4
  clear hK4
  refine wp_cut_mergeP [none, none, none, none, none, none, none, none, none, none, none, some 11, some 12, none, none, none, none, none, none, none, none, none, none, none, none, none, none, none, none, none, none, none, some 32, some 33, some 34, some 35, some 36, none, none, none, none, none, none, none, none, none, none, none, none, none, none, none, none, none, none, none, none, none, none, none, none, none, none, none, none, none, none, none, none, none, none, none, none, none, none, none, none, none, none, none, none, none, none, none, none, none, none, none, none, none, none, none, none, none, none, none, none, none, none, none, none, none, none, none, none, none, none, none, none, none, none, none, none, none, none, none, none, none, none, none, none, none, none, none, none, none, none, none, none, none, none, none, none, none, none, none, none, none, none, none, none, none, none, none, none, none, none, none, none, none, none, none, none, none, none, none, none, none, none, none, none, none, none, none, none, none, none, none, none, none, none, none, none, none, none, none, none, none, none, none, none, none, none, none, none, none, none, none, none, none, none] (fun s w' => Mut [] V w' ∧ (∃ g : Nat, s 11 = .pointer (some ⟨g, 0, none⟩) ∧ V.heap.size ≤ g ∧ w'.heap[g]? = some (cobj 28 oneM)) ∧ s 12 = .int .i64 0) (fun _ _ => False) ?_ ?_ ?_
  · intro Q2 hQ2 hP2
    refine (wpIn_wide (n := 0)).1 (show Code.wpIn (G none) 0 _ _ _ _ _ from ?_)
    refine wp_region_G (b := false) (Pn := (fun _ _ => False)) (Od4 V) (by kernel_rfl) (by kernel_rfl) ?_ ?_ ?_ ?_
    · exact ⟨Mut.start _ false _, fun h => absurd h Bool.false_ne_true, fun h => absurd h Bool.false_ne_true, fun h => absurd h Bool.false_ne_true, fun h => absurd h Bool.false_ne_true, fun h => absurd h Bool.false_ne_true, fun h => absurd h Bool.false_ne_true, fun h => absurd h Bool.false_ne_true, fun h => absurd h Bool.false_ne_true⟩
    · refine AllSP.cons ?_ (AllSP.cons ?_ (AllSP.cons ?_ (AllSP.cons ?_ (AllSP.cons ?_ (AllSP.cons ?_ (AllSP.cons ?_ (AllSP.cons ?_ AllSP.nil)))))))
      · intro L s w2 h hk hd hn
        refine stepSP rfl fun K hK => ?_
        go_simp
        refine (law21_pt 4294967296 _).mono ?_
        rintro e w3 ⟨rfl, hb⟩
        exact .inl ⟨_, rfl, hK _ _ { h with mu := h.mu.step hb, al_on := fun a => let ⟨g, h0, h1, hl, h2, h3⟩ := h.al_on a; ⟨g, h0, h1, Nat.lt_of_lt_of_le hl hb.size, fun c => (hb.block _ (lt_of_block (h2 c))).trans (h2 c), fun c => (hb.block _ (lt_of_block (h3 c))).trans (h3 c)⟩, e0 := fun _ => rfl }⟩
      · intro L s w2 h hk hd hn
        have s33 := h.e0 hd.1
        refine stepSP rfl fun K hK => ?_
        go_simp
        refine (gConst1 HG.out.f.ok1 _).mono ?_
        rintro e w3 ⟨rfl, hb⟩
        exact .inl ⟨_, rfl, hK _ _ { h with mu := h.mu.step hb, al_on := fun a => let ⟨g, h0, h1, hl, h2, h3⟩ := h.al_on a; ⟨g, h0, h1, Nat.lt_of_lt_of_le hl hb.size, fun c => (hb.block _ (lt_of_block (h2 c))).trans (h2 c), fun c => (hb.block _ (lt_of_block (h3 c))).trans (h3 c)⟩, e1 := fun _ => rfl }⟩
      · intro L s w2 h hk hd hn
        have s34 := h.e1 hd.1
        refine stepSP rfl fun K hK => ?_
        exact rs_move rfl s34 (hK _ _ { h with e2 := fun _ => rfl })
      · intro L s w2 h hk hd hn
        have s32 := h.e2 hd.1
        refine stepSP rfl fun K hK => ?_
        exact rs_extract rfl s32 rfl (hK _ _ { h with e3 := fun _ => rfl })
      · intro L s w2 h hk hd hn
        have s32 := h.e2 hd.1
        refine stepSP rfl fun K hK => ?_
        exact rs_extract rfl s32 rfl (hK _ _ { h with e4 := fun _ => rfl })
      · intro L s w2 h hk hd hn
        refine stepSP rfl fun K hK => ?_
        go_simp
        exact hK _ _ { h with mu := h.mu.alloc _, al_on := fun _ => ⟨_, rfl, h.mu.size, by simp, fun _ => heap_at _ rfl, fun a => absurd (h.b6_5 a) (by rw [hn]; exact Bool.false_ne_true)⟩, b6_5 := fun _ => rfl }
      · intro L s w2 h hk hd hn
        have s35 := h.e3 hd.2.1
        obtain ⟨g, hg0, hg1, hgl, hg2, hg3⟩ := h.al_on hd.1
        have kb := hg2 hn
        refine stepSP rfl fun K hK => ?_
        exact rs_store rfl hg0 s35 (md_store kb rfl _ rfl) (hK _ _ { h with mu := h.mu.putNew hg1 _, al_on := fun a => ⟨g, hg0, hg1, by simpa using hgl, nF, fun _ => pH kb⟩, b6_5 := fun _ => hd.1 })
      · intro L s w2 h hk hd hn
        have s36 := h.e4 hd.1
        refine stepSP rfl fun K hK => ?_
        exact rs_assign rfl s36 (hK _ _ { h with e7 := fun _ => rfl })
    · intro L s w2 h hk hl
      refine (congrArg (fun a => Q2 .normal a w2) (?_ : _ = _)).mpr (hQ2 s w2 (⟨h.mu, (let ⟨g, h0, h1, _, _, h3⟩ := h.al_on (hl 5 (by decide)); ⟨g, h0, h1, h3 (hl 6 (by decide))⟩), h.e7 (hl 7 (by decide))⟩))
      exact frame_eq hk (by kernel_rfl) (by kernel_rfl)
    · intro c s w2 hc
      exact hc.elim
  rotate_left
  · rintro _ _ _ h
    exact h.elim
  rintro s4 V ⟨h1, ⟨g2, k_on, g_on, c_on⟩, k12⟩
  simp only [mergeL]
  rw [k_on]
  rw [k12]
  replace HD := Lib.hid ((h1.same _ (lt_of_block HD.out) (by simp)).trans HD.out)
  replace HD2 := Lib.hid ((h1.same _ (lt_of_block HD2.out) (by simp)).trans HD2.out)
  replace HA := Lib.hid ((h1.same _ (lt_of_block HA.out) (by simp)).trans HA.out)
  replace HB := Lib.hid ((h1.same _ (lt_of_block HB.out) (by simp)).trans HB.out)
  have HON := Lib.hid c_on
  replace HM := Lib.hid (HM.out.stepM h1 (by simp))
  clear h1 k_on g_on c_on k12
  refine HK4.out _ _ ?_
  refine wp_seq_k fun K5 hK5 => ?_
  have HK5 := Lib.hid hK5
  clear hK5
  refine wp_cut_mergeP [none, none, none, none, none, none, none, none, none, none, none, none, none, some 13, some 14, none, none, none, none, none, none, none, none, none, none, none, none, none, none, none, none, none, none, none, none, none, none, some 37, some 38, some 39, some 40, some 41, some 42, none, none, none, none, none, none, none, none, none, none, none, none, none, none, none, none, none, none, none, none, none, none, none, none, none, none, none, none, none, none, none, none, none, none, none, none, none, none, none, none, none, none, none, none, none, none, none, none, none, none, none, none, none, none, none, none, none, none, none, none, none, none, none, none, none, none, none, none, none, none, none, none, none, none, none, none, none, none, none, none, none, none, none, none, none, none, none, none, none, none, none, none, none, none, none, none, none, none, none, none, none, none, none, none, none, none, none, none, none, none, none, none, none, none, none, none, none, none, none, none, none, none, none, none, none, none, none, none, none, none, none, none, none, none, none, none, none, none, none, none, none, none, none, none, none, none, none, none] (fun s w' => Mut [] V w' ∧ (∃ g : Nat, s 13 = .pointer (some ⟨g, 0, none⟩) ∧ V.heap.size ≤ g ∧ w'.heap[g]? = some (cobj 28 A)) ∧ s 14 = .int .i64 0) (fun _ _ => False) ?_ ?_ ?_
  · intro Q2 hQ2 hP2
    refine (wpIn_wide (n := 0)).1 (show Code.wpIn (G none) 0 _ _ _ _ _ from ?_)
    refine wp_region_G (b := true) (Pn := (fun _ _ => False)) (Od5 V A) (by kernel_rfl) (by kernel_rfl) ?_ ?_ ?_ ?_
    · exact ⟨Mut.start _ true _, fun h => absurd h Bool.false_ne_true, fun h => absurd h Bool.false_ne_true, fun h => absurd h Bool.false_ne_true, fun h => absurd h Bool.false_ne_true, fun h => absurd h Bool.false_ne_true, fun h => absurd h Bool.false_ne_true, fun h => absurd h Bool.false_ne_true, fun h => absurd h Bool.false_ne_true, fun h => absurd h Bool.false_ne_true⟩
    · refine AllSP.cons ?_ (AllSP.cons ?_ (AllSP.cons ?_ (AllSP.cons ?_ (AllSP.cons ?_ (AllSP.cons ?_ (AllSP.cons ?_ (AllSP.cons ?_ (AllSP.cons ?_ AllSP.nil))))))))
      · intro L s w2 h hk hd hn
        have s9 : s 9 = _ := hk 9 (by kernel_rfl)
        have kb := ((h.mu.same _ ((Array.getElem?_eq_some_iff.1 HA.out).1) (by simp)).trans HA.out)
        refine stepSP rfl fun K hK => ?_
        exact rs_load rfl s9 (md_load kb HG.out.f.lenA) (hK _ _ { h with e0 := fun _ => rfl })
      · intro L s w2 h hk hd hn
        refine stepSP rfl fun K hK => ?_
        go_simp
        refine (law21_pt 4294967296 _).mono ?_
        rintro e w3 ⟨rfl, hb⟩
        exact .inl ⟨_, rfl, hK _ _ { h with mu := h.mu.step hb, al_sa := fun a => let ⟨g, h0, h1, hl, h2, h3⟩ := h.al_sa a; ⟨g, h0, h1, Nat.lt_of_lt_of_le hl hb.size, fun c => (hb.block _ (lt_of_block (h2 c))).trans (h2 c), fun c => (hb.block _ (lt_of_block (h3 c))).trans (h3 c)⟩, e1 := fun _ => rfl }⟩
      · intro L s w2 h hk hd hn
        have s38 := h.e0 hd.1
        have s39 := h.e1 hd.2.1
        refine stepSP rfl fun K hK => ?_
        go_simp
        refine (gScale0 HG.out.f.lenA okS_one HG.out.c1 HG.out.c0 _).mono ?_
        rintro e w3 ⟨rfl, hb⟩
        exact .inl ⟨_, rfl, hK _ _ { h with mu := h.mu.step hb, al_sa := fun a => let ⟨g, h0, h1, hl, h2, h3⟩ := h.al_sa a; ⟨g, h0, h1, Nat.lt_of_lt_of_le hl hb.size, fun c => (hb.block _ (lt_of_block (h2 c))).trans (h2 c), fun c => (hb.block _ (lt_of_block (h3 c))).trans (h3 c)⟩, e2 := fun _ => rfl }⟩
      · intro L s w2 h hk hd hn
        have s40 := h.e2 hd.1
        refine stepSP rfl fun K hK => ?_
        exact rs_move rfl s40 (hK _ _ { h with e3 := fun _ => rfl })
      · intro L s w2 h hk hd hn
        have s37 := h.e3 hd.1
        refine stepSP rfl fun K hK => ?_
        exact rs_extract rfl s37 rfl (hK _ _ { h with e4 := fun _ => rfl })
      · intro L s w2 h hk hd hn
        have s37 := h.e3 hd.1
        refine stepSP rfl fun K hK => ?_
        exact rs_extract rfl s37 rfl (hK _ _ { h with e5 := fun _ => rfl })
      · intro L s w2 h hk hd hn
        refine stepSP rfl fun K hK => ?_
        go_simp
        exact hK _ _ { h with mu := h.mu.alloc _, al_sa := fun _ => ⟨_, rfl, h.mu.size, by simp, fun _ => heap_at _ rfl, fun a => absurd (h.b7_6 a) (by rw [hn]; exact Bool.false_ne_true)⟩, b7_6 := fun _ => rfl }
      · intro L s w2 h hk hd hn
        have s41 := h.e4 hd.2.1
        obtain ⟨g, hg0, hg1, hgl, hg2, hg3⟩ := h.al_sa hd.1
        have kb := hg2 hn
        refine stepSP rfl fun K hK => ?_
        exact rs_store rfl hg0 s41 (md_store kb rfl _ HG.out.f.lenA) (hK _ _ { h with mu := h.mu.putNew hg1 _, al_sa := fun a => ⟨g, hg0, hg1, by simpa using hgl, nF, fun _ => pH kb⟩, b7_6 := fun _ => hd.1 })
      · intro L s w2 h hk hd hn
        have s42 := h.e5 hd.1
        refine stepSP rfl fun K hK => ?_
        exact rs_assign rfl s42 (hK _ _ { h with e8 := fun _ => rfl })
    · intro L s w2 h hk hl
      refine (congrArg (fun a => Q2 .normal a w2) (?_ : _ = _)).mpr (hQ2 s w2 (⟨h.mu, (let ⟨g, h0, h1, _, _, h3⟩ := h.al_sa (hl 6 (by decide)); ⟨g, h0, h1, h3 (hl 7 (by decide))⟩), h.e8 (hl 8 (by decide))⟩))
      exact frame_eq hk (by kernel_rfl) (by kernel_rfl)
    · intro c s w2 hc
      exact hc.elim
  rotate_left
  · rintro _ _ _ h
    exact h.elim
  rintro s5 V ⟨h1, ⟨g3, k_sa, g_sa, c_sa⟩, k14⟩
  simp only [mergeL]
  rw [k_sa]
  rw [k14]
  replace HD := Lib.hid ((h1.same _ (lt_of_block HD.out) (by simp)).trans HD.out)
  replace HD2 := Lib.hid ((h1.same _ (lt_of_block HD2.out) (by simp)).trans HD2.out)
  replace HA := Lib.hid ((h1.same _ (lt_of_block HA.out) (by simp)).trans HA.out)
  replace HB := Lib.hid ((h1.same _ (lt_of_block HB.out) (by simp)).trans HB.out)
  replace HON := Lib.hid ((h1.same _ (lt_of_block HON.out) (by simp)).trans HON.out)
  have HSA := Lib.hid c_sa
  replace HM := Lib.hid (HM.out.stepM h1 (by simp))
  clear h1 k_sa g_sa c_sa k14
  refine HK5.out _ _ ?_
  refine wp_seq_k fun KB hKB => ?_
  have HKB := Lib.hid hKB
  clear hKB
  refine wp_seq_k fun K6 hK6 => ?_
  have HK6 := Lib.hid hK6
  clear hK6
  refine wp_cut_mergeP [none, none, none, none, none, none, none, none, none, none, none, none, none, none, none, none, none, none, none, none, none, none, none, none, none, none, none, none, none, none, none, none, none, none, none, none, none, none, none, none, none, none, none, some 43, some 44, some 45, some 46, some 47, some 48, some 49, some 50, some 51, some 52, some 53, none, none, none, none, none, none, none, none, none, none, none, none, none, none, none, none, none, none, none, none, none, none, none, none, none, none, none, none, none, none, none, none, none, none, none, none, none, none, none, none, none, none, none, none, none, none, none, none, none, none, none, none, none, none, none, none, none, none, none, none, none, none, none, none, none, none, none, none, none, none, none, none, none, none, none, none, none, none, none, none, none, none, none, none, none, none, none, none, none, none, none, none, none, none, none, none, none, none, none, none, none, none, none, none, none, none, none, none, none, none, none, none, none, none, none, none, none, none, none, none, none, none, none, none, none, none, none, none, none, none, none, none, none, none, none, none, none] (fun s w' => Mut [] V w' ∧ s 53 = .bool false) (fun _ _ => False) ?_ ?_ ?_
  · intro Q2 hQ2 hP2
    refine (wpIn_wide (n := 0)).1 (show Code.wpIn (G none) 0 _ _ _ _ _ from ?_)
    refine wp_region_G (b := false) (Pn := (fun _ _ => False)) (Od6 V A) (by kernel_rfl) (by kernel_rfl) ?_ ?_ ?_ ?_
    · exact ⟨Mut.start _ false _, fun h => absurd h Bool.false_ne_true, fun h => absurd h Bool.false_ne_true, fun h => absurd h Bool.false_ne_true, fun h => absurd h Bool.false_ne_true, fun h => absurd h Bool.false_ne_true, fun h => absurd h Bool.false_ne_true, fun h => absurd h Bool.false_ne_true, fun h => absurd h Bool.false_ne_true, fun h => absurd h Bool.false_ne_true, fun h => absurd h Bool.false_ne_true, fun h => absurd h Bool.false_ne_true⟩
    · refine AllSP.cons ?_ (AllSP.cons ?_ (AllSP.cons ?_ (AllSP.cons ?_ (AllSP.cons ?_ (AllSP.cons ?_ (AllSP.cons ?_ (AllSP.cons ?_ (AllSP.cons ?_ (AllSP.cons ?_ (AllSP.cons ?_ AllSP.nil))))))))))
      · intro L s w2 h hk hd hn
        have s12 : s 12 = _ := hk 12 (by kernel_rfl)
        refine stepSP rfl fun K hK => ?_
        exact rs_move rfl s12 (hK _ _ { h with e0 := fun _ => rfl })
      · intro L s w2 h hk hd hn
        have s43 := h.e0 hd.1
        refine stepSP rfl fun K hK => ?_
        go_simp
        exact hK _ _ { h with e1 := fun _ => rfl }
      · intro L s w2 h hk hd hn
        have s44 := h.e1 hd.1
        refine stepSP rfl fun K hK => ?_
        exact rs_move rfl s44 (hK _ _ { h with e2 := fun _ => rfl })
      · intro L s w2 h hk hd hn
        have gq := h.e2 hd.1
        have s14 : s 14 = _ := hk 14 (by kernel_rfl)
        refine stepSP (by simp [Region.wanted, yieldS, gq]) fun K hK => ?_
        exact rs_move rfl s14 (hK _ _ { h with e3 := fun _ => rfl })
      · intro L s w2 h hk hd hn
        have gq := h.e2 hd.2.1
        have s46 := h.e3 hd.1
        refine stepSP (by simp [Region.wanted, yieldS, gq]) fun K hK => ?_
        go_simp
        exact hK _ _ { h with e4 := fun _ => rfl }
      · intro L s w2 h hk hd hn
        have s45 := h.e2 hd.1
        have s47 := h.e4 hd.2.1
        refine stepSP rfl fun K hK => ?_
        go_simp
        exact hK _ _ { h with e5 := fun _ => rfl }
      · intro L s w2 h hk hd hn
        have s48 := h.e5 hd.1
        refine stepSP rfl fun K hK => ?_
        exact rs_move rfl s48 (hK _ _ { h with e6 := fun _ => rfl })
      · intro L s w2 h hk hd hn
        have gq := h.e6 hd.1
        have s13 : s 13 = _ := hk 13 (by kernel_rfl)
        have kb := ((h.mu.same _ ((Array.getElem?_eq_some_iff.1 HSA.out).1) (by simp)).trans HSA.out)
        refine stepSP (by simp [Region.wanted, yieldS, gq]) fun K hK => ?_
        exact rs_load rfl s13 (md_load kb HG.out.f.lenA) (hK _ _ { h with e7 := fun _ => rfl })
      · intro L s w2 h hk hd hn
        have gq := h.e6 hd.1
        have s9 : s 9 = _ := hk 9 (by kernel_rfl)
        have kb := ((h.mu.same _ ((Array.getElem?_eq_some_iff.1 HA.out).1) (by simp)).trans HA.out)
        refine stepSP (by simp [Region.wanted, yieldS, gq]) fun K hK => ?_
        exact rs_load rfl s9 (md_load kb HG.out.f.lenA) (hK _ _ { h with e8 := fun _ => rfl })
      · intro L s w2 h hk hd hn
        have gq := h.e6 hd.2.2.1
        have s50 := h.e7 hd.1
        have s51 := h.e8 hd.2.1
        have hq := bin_neM A A HG.out.f.lenA HG.out.f.lenA
        have hg := guard_neM A A
        rw [show decide (A = A) = true from decide_eq_true rfl] at hq
        refine stepSP (by simp [Region.wanted, yieldS, gq]) fun K hK => ?_
        go_simp
        exact hK _ _ { h with e9 := fun _ => rfl }
      · intro L s w2 h hk hd hn
        have s49 := h.e6 hd.1
        have s52 := h.e9 hd.2.1
        refine stepSP rfl fun K hK => ?_
        go_simp
        exact hK _ _ { h with e10 := fun _ => rfl }
    · intro L s w2 h hk hl
      refine (congrArg (fun a => Q2 .normal a w2) (?_ : _ = _)).mpr (hQ2 s w2 (⟨h.mu, h.e10 (hl 10 (by decide))⟩))
      exact frame_eq hk (by kernel_rfl) (by kernel_rfl)
    · intro c s w2 hc
      exact hc.elim
  rotate_left
  · rintro _ _ _ h
    exact h.elim
  rintro s6 V ⟨h1, k53⟩
  simp only [mergeL]
  rw [k53]
  replace HD := Lib.hid ((h1.same _ (lt_of_block HD.out) (by simp)).trans HD.out)
  replace HD2 := Lib.hid ((h1.same _ (lt_of_block HD2.out) (by simp)).trans HD2.out)
  replace HA := Lib.hid ((h1.same _ (lt_of_block HA.out) (by simp)).trans HA.out)
  replace HB := Lib.hid ((h1.same _ (lt_of_block HB.out) (by simp)).trans HB.out)
  replace HON := Lib.hid ((h1.same _ (lt_of_block HON.out) (by simp)).trans HON.out)
  replace HSA := Lib.hid ((h1.same _ (lt_of_block HSA.out) (by simp)).trans HSA.out)
  replace HM := Lib.hid (HM.out.stepM h1 (by simp))
  clear h1 k53
  refine HK6.out _ _ ?_
  go_wp2_with fail
  refine HKB.out _ _ ?_
  refine wp_seq_k fun K8 hK8 => ?_
  have HK8 := Lib.hid hK8
  clear hK8
  refine wp_cut_mergeP [none, none, none, none, none, none, none, none, none, none, none, none, some 12, none, none, some 15, none, none, none, none, none, none, none, none, none, none, none, none, none, none, none, none, none, none, none, none, none, none, none, none, none, none, none, none, none, none, none, none, none, none, none, none, none, none, some 54, some 55, some 56, some 57, some 58, some 59, none, none, none, none, none, none, none, none, none, none, none, none, none, none, none, none, none, none, none, none, none, none, none, none, none, none, none, none, none, none, none, none, none, none, none, none, none, none, none, none, none, none, none, none, none, none, none, none, none, none, none, none, none, none, none, none, none, none, none, none, none, none, none, none, none, none, none, none, none, none, none, none, none, none, none, none, none, none, none, none, none, none, none, none, none, none, none, none, none, none, none, none, none, none, none, none, none, none, none, none, none, none, none, none, none, none, none, none, none, none, none, none, none, none, none, none, none, none, none, none, none, none, none, none, none, none, none, none, none, none, none] (fun s w' => Mut [] V w' ∧ (∃ g : Nat, s 15 = .pointer (some ⟨g, 0, none⟩) ∧ V.heap.size ≤ g ∧ w'.heap[g]? = some (cobj 28 X)) ∧ s 12 = .int .i64 0) (fun _ _ => False) ?_ ?_ ?_
  · intro Q2 hQ2 hP2
    refine (wpIn_wide (n := 0)).1 (show Code.wpIn (G none) 0 _ _ _ _ _ from ?_)
    refine wp_region_G (b := false) (Pn := (fun _ _ => False)) (Od8 V A B X) (by kernel_rfl) (by kernel_rfl) ?_ ?_ ?_ ?_
    · exact ⟨Mut.start _ false _, fun h => absurd h Bool.false_ne_true, fun h => absurd h Bool.false_ne_true, fun h => absurd h Bool.false_ne_true, fun h => absurd h Bool.false_ne_true, fun h => absurd h Bool.false_ne_true, fun h => absurd h Bool.false_ne_true, fun h => absurd h Bool.false_ne_true, fun h => absurd h Bool.false_ne_true, fun h => absurd h Bool.false_ne_true⟩
    · refine AllSP.cons ?_ (AllSP.cons ?_ (AllSP.cons ?_ (AllSP.cons ?_ (AllSP.cons ?_ (AllSP.cons ?_ (AllSP.cons ?_ (AllSP.cons ?_ (AllSP.cons ?_ AllSP.nil))))))))
      · intro L s w2 h hk hd hn
        have s9 : s 9 = _ := hk 9 (by kernel_rfl)
        have kb := ((h.mu.same _ ((Array.getElem?_eq_some_iff.1 HA.out).1) (by simp)).trans HA.out)
        refine stepSP rfl fun K hK => ?_
        exact rs_load rfl s9 (md_load kb HG.out.f.lenA) (hK _ _ { h with e0 := fun _ => rfl })
      · intro L s w2 h hk hd hn
        have s10 : s 10 = _ := hk 10 (by kernel_rfl)
        have kb := ((h.mu.same _ ((Array.getElem?_eq_some_iff.1 HB.out).1) (by simp)).trans HB.out)
        refine stepSP rfl fun K hK => ?_
        exact rs_load rfl s10 (md_load kb HG.out.f.lenB) (hK _ _ { h with e1 := fun _ => rfl })
      · intro L s w2 h hk hd hn
        have s55 := h.e0 hd.1
        have s56 := h.e1 hd.2.1
        refine stepSP rfl fun K hK => ?_
        go_simp
        refine (gMul0 HG.out.f.lenA HG.out.f.lenB HG.out.x1 HG.out.f.mul0 _).mono ?_
        rintro e w3 ⟨rfl, hb⟩
        exact .inl ⟨_, rfl, hK _ _ { h with mu := h.mu.step hb, al_x := fun a => let ⟨g, h0, h1, hl, h2, h3⟩ := h.al_x a; ⟨g, h0, h1, Nat.lt_of_lt_of_le hl hb.size, fun c => (hb.block _ (lt_of_block (h2 c))).trans (h2 c), fun c => (hb.block _ (lt_of_block (h3 c))).trans (h3 c)⟩, e2 := fun _ => rfl }⟩
      · intro L s w2 h hk hd hn
        have s57 := h.e2 hd.1
        refine stepSP rfl fun K hK => ?_
        exact rs_move rfl s57 (hK _ _ { h with e3 := fun _ => rfl })
      · intro L s w2 h hk hd hn
        have s54 := h.e3 hd.1
        refine stepSP rfl fun K hK => ?_
        exact rs_extract rfl s54 rfl (hK _ _ { h with e4 := fun _ => rfl })
      · intro L s w2 h hk hd hn
        have s54 := h.e3 hd.1
        refine stepSP rfl fun K hK => ?_
        exact rs_extract rfl s54 rfl (hK _ _ { h with e5 := fun _ => rfl })
      · intro L s w2 h hk hd hn
        refine stepSP rfl fun K hK => ?_
        go_simp
        exact hK _ _ { h with mu := h.mu.alloc _, al_x := fun _ => ⟨_, rfl, h.mu.size, by simp, fun _ => heap_at _ rfl, fun a => absurd (h.b7_6 a) (by rw [hn]; exact Bool.false_ne_true)⟩, b7_6 := fun _ => rfl }
      · intro L s w2 h hk hd hn
        have s58 := h.e4 hd.2.1
        obtain ⟨g, hg0, hg1, hgl, hg2, hg3⟩ := h.al_x hd.1
        have kb := hg2 hn
        refine stepSP rfl fun K hK => ?_
        exact rs_store rfl hg0 s58 (md_store kb rfl _ HG.out.lX) (hK _ _ { h with mu := h.mu.putNew hg1 _, al_x := fun a => ⟨g, hg0, hg1, by simpa using hgl, nF, fun _ => pH kb⟩, b7_6 := fun _ => hd.1 })
      · intro L s w2 h hk hd hn
        have s59 := h.e5 hd.1
        refine stepSP rfl fun K hK => ?_
        exact rs_assign rfl s59 (hK _ _ { h with e8 := fun _ => rfl })
    · intro L s w2 h hk hl
      refine (congrArg (fun a => Q2 .normal a w2) (?_ : _ = _)).mpr (hQ2 s w2 (⟨h.mu, (let ⟨g, h0, h1, _, _, h3⟩ := h.al_x (hl 6 (by decide)); ⟨g, h0, h1, h3 (hl 7 (by decide))⟩), h.e8 (hl 8 (by decide))⟩))
      exact frame_eq hk (by kernel_rfl) (by kernel_rfl)
    · intro c s w2 hc
      exact hc.elim
  rotate_left
  · rintro _ _ _ h
    exact h.elim
  rintro s8 V ⟨h1, ⟨g4, k_x, g_x, c_x⟩, k12⟩
  simp only [mergeL]
  rw [k_x]
  rw [k12]
  replace HD := Lib.hid ((h1.same _ (lt_of_block HD.out) (by simp)).trans HD.out)
  replace HD2 := Lib.hid ((h1.same _ (lt_of_block HD2.out) (by simp)).trans HD2.out)
  replace HA := Lib.hid ((h1.same _ (lt_of_block HA.out) (by simp)).trans HA.out)
  replace HB := Lib.hid ((h1.same _ (lt_of_block HB.out) (by simp)).trans HB.out)
  replace HON := Lib.hid ((h1.same _ (lt_of_block HON.out) (by simp)).trans HON.out)
  replace HSA := Lib.hid ((h1.same _ (lt_of_block HSA.out) (by simp)).trans HSA.out)
  have HX := Lib.hid c_x
  replace HM := Lib.hid (HM.out.stepM h1 (by simp))
  clear h1 k_x g_x c_x k12
  refine HK8.out _ _ ?_
  refine wp_seq_k fun K9 hK9 => ?_
  have HK9 := Lib.hid hK9
  clear hK9
  refine wp_cut_mergeP [none, none, none, none, none, none, none, none, none, none, none, none, none, none, some 14, none, some 16, none, none, none, none, none, none, none, none, none, none, none, none, none, none, none, none, none, none, none, none, none, none, none, none, none, none, none, none, none, none, none, none, none, none, none, none, none, none, none, none, none, none, none, some 60, some 61, some 62, some 63, some 64, some 65, none, none, none, none, none, none, none, none, none, none, none, none, none, none, none, none, none, none, none, none, none, none, none, none, none, none, none, none, none, none, none, none, none, none, none, none, none, none, none, none, none, none, none, none, none, none, none, none, none, none, none, none, none, none, none, none, none, none, none, none, none, none, none, none, none, none, none, none, none, none, none, none, none, none, none, none, none, none, none, none, none, none, none, none, none, none, none, none, none, none, none, none, none, none, none, none, none, none, none, none, none, none, none, none, none, none, none, none, none, none, none, none, none, none, none, none, none, none, none, none, none, none, none, none, none] (fun s w' => Mut [] V w' ∧ (∃ g : Nat, s 16 = .pointer (some ⟨g, 0, none⟩) ∧ V.heap.size ≤ g ∧ w'.heap[g]? = some (cobj 28 X)) ∧ s 14 = .int .i64 0) (fun _ _ => False) ?_ ?_ ?_
  · intro Q2 hQ2 hP2
    refine (wpIn_wide (n := 0)).1 (show Code.wpIn (G none) 0 _ _ _ _ _ from ?_)
    refine wp_region_G (b := false) (Pn := (fun _ _ => False)) (Od9 V A B X) (by kernel_rfl) (by kernel_rfl) ?_ ?_ ?_ ?_
    · exact ⟨Mut.start _ false _, fun h => absurd h Bool.false_ne_true, fun h => absurd h Bool.false_ne_true, fun h => absurd h Bool.false_ne_true, fun h => absurd h Bool.false_ne_true, fun h => absurd h Bool.false_ne_true, fun h => absurd h Bool.false_ne_true, fun h => absurd h Bool.false_ne_true, fun h => absurd h Bool.false_ne_true, fun h => absurd h Bool.false_ne_true⟩
    · refine AllSP.cons ?_ (AllSP.cons ?_ (AllSP.cons ?_ (AllSP.cons ?_ (AllSP.cons ?_ (AllSP.cons ?_ (AllSP.cons ?_ (AllSP.cons ?_ (AllSP.cons ?_ AllSP.nil))))))))
      · intro L s w2 h hk hd hn
        have s10 : s 10 = _ := hk 10 (by kernel_rfl)
        have kb := ((h.mu.same _ ((Array.getElem?_eq_some_iff.1 HB.out).1) (by simp)).trans HB.out)
        refine stepSP rfl fun K hK => ?_
        exact rs_load rfl s10 (md_load kb HG.out.f.lenB) (hK _ _ { h with e0 := fun _ => rfl })
      · intro L s w2 h hk hd hn
        have s9 : s 9 = _ := hk 9 (by kernel_rfl)
        have kb := ((h.mu.same _ ((Array.getElem?_eq_some_iff.1 HA.out).1) (by simp)).trans HA.out)
        refine stepSP rfl fun K hK => ?_
        exact rs_load rfl s9 (md_load kb HG.out.f.lenA) (hK _ _ { h with e1 := fun _ => rfl })
      · intro L s w2 h hk hd hn
        have s61 := h.e0 hd.1
        have s62 := h.e1 hd.2.1
        refine stepSP rfl fun K hK => ?_
        go_simp
        refine (gMul0 HG.out.f.lenB HG.out.f.lenA HG.out.x2 HG.out.x0 _).mono ?_
        rintro e w3 ⟨rfl, hb⟩
        exact .inl ⟨_, rfl, hK _ _ { h with mu := h.mu.step hb, al_y := fun a => let ⟨g, h0, h1, hl, h2, h3⟩ := h.al_y a; ⟨g, h0, h1, Nat.lt_of_lt_of_le hl hb.size, fun c => (hb.block _ (lt_of_block (h2 c))).trans (h2 c), fun c => (hb.block _ (lt_of_block (h3 c))).trans (h3 c)⟩, e2 := fun _ => rfl }⟩
      · intro L s w2 h hk hd hn
        have s63 := h.e2 hd.1
        refine stepSP rfl fun K hK => ?_
        exact rs_move rfl s63 (hK _ _ { h with e3 := fun _ => rfl })
      · intro L s w2 h hk hd hn
        have s60 := h.e3 hd.1
        refine stepSP rfl fun K hK => ?_
        exact rs_extract rfl s60 rfl (hK _ _ { h with e4 := fun _ => rfl })
      · intro L s w2 h hk hd hn
        have s60 := h.e3 hd.1
        refine stepSP rfl fun K hK => ?_
        exact rs_extract rfl s60 rfl (hK _ _ { h with e5 := fun _ => rfl })
      · intro L s w2 h hk hd hn
        refine stepSP rfl fun K hK => ?_
        go_simp
        exact hK _ _ { h with mu := h.mu.alloc _, al_y := fun _ => ⟨_, rfl, h.mu.size, by simp, fun _ => heap_at _ rfl, fun a => absurd (h.b7_6 a) (by rw [hn]; exact Bool.false_ne_true)⟩, b7_6 := fun _ => rfl }
      · intro L s w2 h hk hd hn
        have s64 := h.e4 hd.2.1
        obtain ⟨g, hg0, hg1, hgl, hg2, hg3⟩ := h.al_y hd.1
        have kb := hg2 hn
        refine stepSP rfl fun K hK => ?_
        exact rs_store rfl hg0 s64 (md_store kb rfl _ HG.out.lX) (hK _ _ { h with mu := h.mu.putNew hg1 _, al_y := fun a => ⟨g, hg0, hg1, by simpa using hgl, nF, fun _ => pH kb⟩, b7_6 := fun _ => hd.1 })
      · intro L s w2 h hk hd hn
        have s65 := h.e5 hd.1
        refine stepSP rfl fun K hK => ?_
        exact rs_assign rfl s65 (hK _ _ { h with e8 := fun _ => rfl })
    · intro L s w2 h hk hl
      refine (congrArg (fun a => Q2 .normal a w2) (?_ : _ = _)).mpr (hQ2 s w2 (⟨h.mu, (let ⟨g, h0, h1, _, _, h3⟩ := h.al_y (hl 6 (by decide)); ⟨g, h0, h1, h3 (hl 7 (by decide))⟩), h.e8 (hl 8 (by decide))⟩))
      exact frame_eq hk (by kernel_rfl) (by kernel_rfl)
    · intro c s w2 hc
      exact hc.elim
  rotate_left
  · rintro _ _ _ h
    exact h.elim
  rintro s9 V ⟨h1, ⟨g5, k_y, g_y, c_y⟩, k14⟩
  simp only [mergeL]
  rw [k_y]
  rw [k14]
  replace HD := Lib.hid ((h1.same _ (lt_of_block HD.out) (by simp)).trans HD.out)
  replace HD2 := Lib.hid ((h1.same _ (lt_of_block HD2.out) (by simp)).trans HD2.out)
  replace HA := Lib.hid ((h1.same _ (lt_of_block HA.out) (by simp)).trans HA.out)
  replace HB := Lib.hid ((h1.same _ (lt_of_block HB.out) (by simp)).trans HB.out)
  replace HON := Lib.hid ((h1.same _ (lt_of_block HON.out) (by simp)).trans HON.out)
  replace HSA := Lib.hid ((h1.same _ (lt_of_block HSA.out) (by simp)).trans HSA.out)
  replace HX := Lib.hid ((h1.same _ (lt_of_block HX.out) (by simp)).trans HX.out)
  have HYY := Lib.hid c_y
  replace HM := Lib.hid (HM.out.stepM h1 (by simp))
  clear h1 k_y g_y c_y k14
  refine HK9.out _ _ ?_
  refine wp_seq_k fun K10 hK10 => ?_
  have HK10 := Lib.hid hK10
  clear hK10
  refine wp_cut_mergeP [none, none, none, none, none, none, none, none, none, none, none, none, none, none, none, none, none, some 17, some 18, none, none, none, none, none, none, none, none, none, none, none, none, none, none, none, none, none, none, none, none, none, none, none, none, none, none, none, none, none, none, none, none, none, none, none, none, none, none, none, none, none, none, none, none, none, none, none, some 66, some 67, some 68, some 69, some 70, some 71, none, none, none, none, none, none, none, none, none, none, none, none, none, none, none, none, none, none, none, none, none, none, none, none, none, none, none, none, none, none, none, none, none, none, none, none, none, none, none, none, none, none, none, none, none, none, none, none, none, none, none, none, none, none, none, none, none, none, none, none, none, none, none, none, none, none, none, none, none, none, none, none, none, none, none, none, none, none, none, none, none, none, none, none, none, none, none, none, none, none, none, none, none, none, none, none, none, none, none, none, none, none, none, none, none, none, none, none, none, none, none, none, none, none, none, none, none, none, none] (fun s w' => Mut [] V w' ∧ (∃ g : Nat, s 17 = .pointer (some ⟨g, 0, none⟩) ∧ V.heap.size ≤ g ∧ w'.heap[g]? = some (cobj 28 A)) ∧ s 18 = .int .i64 0) (fun _ _ => False) ?_ ?_ ?_
  · intro Q2 hQ2 hP2
    refine (wpIn_wide (n := 0)).1 (show Code.wpIn (G none) 0 _ _ _ _ _ from ?_)
    refine wp_region_G (b := false) (Pn := (fun _ _ => False)) (Od10 V A) (by kernel_rfl) (by kernel_rfl) ?_ ?_ ?_ ?_
    · exact ⟨Mut.start _ false _, fun h => absurd h Bool.false_ne_true, fun h => absurd h Bool.false_ne_true, fun h => absurd h Bool.false_ne_true, fun h => absurd h Bool.false_ne_true, fun h => absurd h Bool.false_ne_true, fun h => absurd h Bool.false_ne_true, fun h => absurd h Bool.false_ne_true, fun h => absurd h Bool.false_ne_true, fun h => absurd h Bool.false_ne_true⟩
    · refine AllSP.cons ?_ (AllSP.cons ?_ (AllSP.cons ?_ (AllSP.cons ?_ (AllSP.cons ?_ (AllSP.cons ?_ (AllSP.cons ?_ (AllSP.cons ?_ (AllSP.cons ?_ AllSP.nil))))))))
      · intro L s w2 h hk hd hn
        have s9 : s 9 = _ := hk 9 (by kernel_rfl)
        have kb := ((h.mu.same _ ((Array.getElem?_eq_some_iff.1 HA.out).1) (by simp)).trans HA.out)
        refine stepSP rfl fun K hK => ?_
        exact rs_load rfl s9 (md_load kb HG.out.f.lenA) (hK _ _ { h with e0 := fun _ => rfl })
      · intro L s w2 h hk hd hn
        have s11 : s 11 = _ := hk 11 (by kernel_rfl)
        have kb := ((h.mu.same _ ((Array.getElem?_eq_some_iff.1 HON.out).1) (by simp)).trans HON.out)
        refine stepSP rfl fun K hK => ?_
        exact rs_load rfl s11 (md_load kb rfl) (hK _ _ { h with e1 := fun _ => rfl })
      · intro L s w2 h hk hd hn
        have s67 := h.e0 hd.1
        have s68 := h.e1 hd.2.1
        refine stepSP rfl fun K hK => ?_
        go_simp
        refine (gMul0 HG.out.f.lenA rfl HG.out.y1 HG.out.y0 _).mono ?_
        rintro e w3 ⟨rfl, hb⟩
        exact .inl ⟨_, rfl, hK _ _ { h with mu := h.mu.step hb, al_z := fun a => let ⟨g, h0, h1, hl, h2, h3⟩ := h.al_z a; ⟨g, h0, h1, Nat.lt_of_lt_of_le hl hb.size, fun c => (hb.block _ (lt_of_block (h2 c))).trans (h2 c), fun c => (hb.block _ (lt_of_block (h3 c))).trans (h3 c)⟩, e2 := fun _ => rfl }⟩
      · intro L s w2 h hk hd hn
        have s69 := h.e2 hd.1
        refine stepSP rfl fun K hK => ?_
        exact rs_move rfl s69 (hK _ _ { h with e3 := fun _ => rfl })
      · intro L s w2 h hk hd hn
        have s66 := h.e3 hd.1
        refine stepSP rfl fun K hK => ?_
        exact rs_extract rfl s66 rfl (hK _ _ { h with e4 := fun _ => rfl })
      · intro L s w2 h hk hd hn
        have s66 := h.e3 hd.1
        refine stepSP rfl fun K hK => ?_
        exact rs_extract rfl s66 rfl (hK _ _ { h with e5 := fun _ => rfl })
      · intro L s w2 h hk hd hn
        refine stepSP rfl fun K hK => ?_
        go_simp
        exact hK _ _ { h with mu := h.mu.alloc _, al_z := fun _ => ⟨_, rfl, h.mu.size, by simp, fun _ => heap_at _ rfl, fun a => absurd (h.b7_6 a) (by rw [hn]; exact Bool.false_ne_true)⟩, b7_6 := fun _ => rfl }
      · intro L s w2 h hk hd hn
        have s70 := h.e4 hd.2.1
        obtain ⟨g, hg0, hg1, hgl, hg2, hg3⟩ := h.al_z hd.1
        have kb := hg2 hn
        refine stepSP rfl fun K hK => ?_
        exact rs_store rfl hg0 s70 (md_store kb rfl _ HG.out.f.lenA) (hK _ _ { h with mu := h.mu.putNew hg1 _, al_z := fun a => ⟨g, hg0, hg1, by simpa using hgl, nF, fun _ => pH kb⟩, b7_6 := fun _ => hd.1 })
      · intro L s w2 h hk hd hn
        have s71 := h.e5 hd.1
        refine stepSP rfl fun K hK => ?_
        exact rs_assign rfl s71 (hK _ _ { h with e8 := fun _ => rfl })
    · intro L s w2 h hk hl
      refine (congrArg (fun a => Q2 .normal a w2) (?_ : _ = _)).mpr (hQ2 s w2 (⟨h.mu, (let ⟨g, h0, h1, _, _, h3⟩ := h.al_z (hl 6 (by decide)); ⟨g, h0, h1, h3 (hl 7 (by decide))⟩), h.e8 (hl 8 (by decide))⟩))
      exact frame_eq hk (by kernel_rfl) (by kernel_rfl)
    · intro c s w2 hc
      exact hc.elim
  rotate_left
  · rintro _ _ _ h
    exact h.elim
  rintro s10 V ⟨h1, ⟨g6, k_z, g_z, c_z⟩, k18⟩
  simp only [mergeL]
  rw [k_z]
  rw [k18]
  replace HD := Lib.hid ((h1.same _ (lt_of_block HD.out) (by simp)).trans HD.out)
  replace HD2 := Lib.hid ((h1.same _ (lt_of_block HD2.out) (by simp)).trans HD2.out)
  replace HA := Lib.hid ((h1.same _ (lt_of_block HA.out) (by simp)).trans HA.out)
  replace HB := Lib.hid ((h1.same _ (lt_of_block HB.out) (by simp)).trans HB.out)
  replace HON := Lib.hid ((h1.same _ (lt_of_block HON.out) (by simp)).trans HON.out)
  replace HSA := Lib.hid ((h1.same _ (lt_of_block HSA.out) (by simp)).trans HSA.out)
  replace HX := Lib.hid ((h1.same _ (lt_of_block HX.out) (by simp)).trans HX.out)
  replace HYY := Lib.hid ((h1.same _ (lt_of_block HYY.out) (by simp)).trans HYY.out)
  have HZ := Lib.hid c_z
  replace HM := Lib.hid (HM.out.stepM h1 (by simp))
  clear h1 k_z g_z c_z k18
  refine HK10.out _ _ ?_
  refine wp_seq_k fun KC hKC => ?_
  have HKC := Lib.hid hKC
  clear hKC
  refine wp_seq_k fun K11 hK11 => ?_
  have HK11 := Lib.hid hK11
  clear hK11
  refine wp_cut_mergeP [none, none, none, none, none, none, none, none, none, none, none, none, none, none, none, none, none, none, none, none, none, none, none, none, none, none, none, none, none, none, none, none, none, none, none, none, none, none, none, none, none, none, none, none, none, none, none, none, none, none, none, none, none, none, none, none, none, none, none, none, none, none, none, none, none, none, none, none, none, none, none, none, some 72, some 73, some 74, some 75, some 76, some 77, some 78, some 79, some 80, some 81, some 82, some 83, some 84, some 85, some 86, some 87, some 88, some 89, some 90, some 91, none, none, none, none, none, none, none, none, none, none, none, none, none, none, none, none, none, none, none, none, none, none, none, none, none, none, none, none, none, none, none, none, none, none, none, none, none, none, none, none, none, none, none, none, none, none, none, none, none, none, none, none, none, none, none, none, none, none, none, none, none, none, none, none, none, none, none, none, none, none, none, none, none, none, none, none, none, none, none, none, none, none, none, none, none, none, none, none, none, none, none, none, none, none, none, none, none, none, none] (fun s w' => Mut [] V w' ∧ s 91 = .bool false) (fun _ _ => False) ?_ ?_ ?_
  · intro Q2 hQ2 hP2
    refine (wpIn_wide (n := 0)).1 (show Code.wpIn (G none) 0 _ _ _ _ _ from ?_)
    refine wp_region_G (b := false) (Pn := (fun _ _ => False)) (Od11 V A X) (by kernel_rfl) (by kernel_rfl) ?_ ?_ ?_ ?_
    · exact ⟨Mut.start _ false _, fun h => absurd h Bool.false_ne_true, fun h => absurd h Bool.false_ne_true, fun h => absurd h Bool.false_ne_true, fun h => absurd h Bool.false_ne_true, fun h => absurd h Bool.false_ne_true, fun h => absurd h Bool.false_ne_true, fun h => absurd h Bool.false_ne_true, fun h => absurd h Bool.false_ne_true, fun h => absurd h Bool.false_ne_true, fun h => absurd h Bool.false_ne_true, fun h => absurd h Bool.false_ne_true, fun h => absurd h Bool.false_ne_true, fun h => absurd h Bool.false_ne_true, fun h => absurd h Bool.false_ne_true, fun h => absurd h Bool.false_ne_true, fun h => absurd h Bool.false_ne_true, fun h => absurd h Bool.false_ne_true, fun h => absurd h Bool.false_ne_true, fun h => absurd h Bool.false_ne_true, fun h => absurd h Bool.false_ne_true⟩
    · refine AllSP.cons ?_ (AllSP.cons ?_ (AllSP.cons ?_ (AllSP.cons ?_ (AllSP.cons ?_ (AllSP.cons ?_ (AllSP.cons ?_ (AllSP.cons ?_ (AllSP.cons ?_ (AllSP.cons ?_ (AllSP.cons ?_ (AllSP.cons ?_ (AllSP.cons ?_ (AllSP.cons ?_ (AllSP.cons ?_ (AllSP.cons ?_ (AllSP.cons ?_ (AllSP.cons ?_ (AllSP.cons ?_ (AllSP.cons ?_ AllSP.nil)))))))))))))))))))
      · intro L s w2 h hk hd hn
        have s12 : s 12 = _ := hk 12 (by kernel_rfl)
        refine stepSP rfl fun K hK => ?_
        exact rs_move rfl s12 (hK _ _ { h with e0 := fun _ => rfl })
      · intro L s w2 h hk hd hn
        have s72 := h.e0 hd.1
        refine stepSP rfl fun K hK => ?_
        go_simp
        exact hK _ _ { h with e1 := fun _ => rfl }
      · intro L s w2 h hk hd hn
        have s73 := h.e1 hd.1
        refine stepSP rfl fun K hK => ?_
        exact rs_move rfl s73 (hK _ _ { h with e2 := fun _ => rfl })
      · intro L s w2 h hk hd hn
        have gq := h.e2 hd.1
        have s14 : s 14 = _ := hk 14 (by kernel_rfl)
        refine stepSP (by simp [Region.wanted, yieldS, gq]) fun K hK => ?_
        exact rs_move rfl s14 (hK _ _ { h with e3 := fun _ => rfl })
      · intro L s w2 h hk hd hn
        have gq := h.e2 hd.2.1
        have s75 := h.e3 hd.1
        refine stepSP (by simp [Region.wanted, yieldS, gq]) fun K hK => ?_
        go_simp
        exact hK _ _ { h with e4 := fun _ => rfl }
      · intro L s w2 h hk hd hn
        have s74 := h.e2 hd.1
        have s76 := h.e4 hd.2.1
        refine stepSP rfl fun K hK => ?_
        go_simp
        exact hK _ _ { h with e5 := fun _ => rfl }
      · intro L s w2 h hk hd hn
        have s77 := h.e5 hd.1
        refine stepSP rfl fun K hK => ?_
        exact rs_move rfl s77 (hK _ _ { h with e6 := fun _ => rfl })
      · intro L s w2 h hk hd hn
        have gq := h.e6 hd.1
        have s18 : s 18 = _ := hk 18 (by kernel_rfl)
        refine stepSP (by simp [Region.wanted, yieldS, gq]) fun K hK => ?_
        exact rs_move rfl s18 (hK _ _ { h with e7 := fun _ => rfl })
      · intro L s w2 h hk hd hn
        have gq := h.e6 hd.2.1
        have s79 := h.e7 hd.1
        refine stepSP (by simp [Region.wanted, yieldS, gq]) fun K hK => ?_
        go_simp
        exact hK _ _ { h with e8 := fun _ => rfl }
      · intro L s w2 h hk hd hn
        have s78 := h.e6 hd.1
        have s80 := h.e8 hd.2.1
        refine stepSP rfl fun K hK => ?_
        go_simp
        exact hK _ _ { h with e9 := fun _ => rfl }
      · intro L s w2 h hk hd hn
        have s81 := h.e9 hd.1
        refine stepSP rfl fun K hK => ?_
        exact rs_move rfl s81 (hK _ _ { h with e10 := fun _ => rfl })
      · intro L s w2 h hk hd hn
        have gq := h.e10 hd.1
        have s15 : s 15 = _ := hk 15 (by kernel_rfl)
        have kb := ((h.mu.same _ ((Array.getElem?_eq_some_iff.1 HX.out).1) (by simp)).trans HX.out)
        refine stepSP (by simp [Region.wanted, yieldS, gq]) fun K hK => ?_
        exact rs_load rfl s15 (md_load kb HG.out.lX) (hK _ _ { h with e11 := fun _ => rfl })
      · intro L s w2 h hk hd hn
        have gq := h.e10 hd.1
        have s16 : s 16 = _ := hk 16 (by kernel_rfl)
        have kb := ((h.mu.same _ ((Array.getElem?_eq_some_iff.1 HYY.out).1) (by simp)).trans HYY.out)
        refine stepSP (by simp [Region.wanted, yieldS, gq]) fun K hK => ?_
        exact rs_load rfl s16 (md_load kb HG.out.lX) (hK _ _ { h with e12 := fun _ => rfl })
      · intro L s w2 h hk hd hn
        have gq := h.e10 hd.2.2.1
        have s83 := h.e11 hd.1
        have s84 := h.e12 hd.2.1
        have hq := bin_neM X X HG.out.lX HG.out.lX
        have hg := guard_neM X X
        rw [show decide (X = X) = true from decide_eq_true rfl] at hq
        refine stepSP (by simp [Region.wanted, yieldS, gq]) fun K hK => ?_
        go_simp
        exact hK _ _ { h with e13 := fun _ => rfl }
      · intro L s w2 h hk hd hn
        have s82 := h.e10 hd.1
        have s85 := h.e13 hd.2.1
        refine stepSP rfl fun K hK => ?_
        go_simp
        exact hK _ _ { h with e14 := fun _ => rfl }
      · intro L s w2 h hk hd hn
        have s86 := h.e14 hd.1
        refine stepSP rfl fun K hK => ?_
        exact rs_move rfl s86 (hK _ _ { h with e15 := fun _ => rfl })
      · intro L s w2 h hk hd hn
        have gq := h.e15 hd.1
        have s17 : s 17 = _ := hk 17 (by kernel_rfl)
        have kb := ((h.mu.same _ ((Array.getElem?_eq_some_iff.1 HZ.out).1) (by simp)).trans HZ.out)
        refine stepSP (by simp [Region.wanted, yieldS, gq]) fun K hK => ?_
        exact rs_load rfl s17 (md_load kb HG.out.f.lenA) (hK _ _ { h with e16 := fun _ => rfl })
      · intro L s w2 h hk hd hn
        have gq := h.e15 hd.1
        have s9 : s 9 = _ := hk 9 (by kernel_rfl)
        have kb := ((h.mu.same _ ((Array.getElem?_eq_some_iff.1 HA.out).1) (by simp)).trans HA.out)
        refine stepSP (by simp [Region.wanted, yieldS, gq]) fun K hK => ?_
        exact rs_load rfl s9 (md_load kb HG.out.f.lenA) (hK _ _ { h with e17 := fun _ => rfl })
      · intro L s w2 h hk hd hn
        have gq := h.e15 hd.2.2.1
        have s88 := h.e16 hd.1
        have s89 := h.e17 hd.2.1
        have hq := bin_neM A A HG.out.f.lenA HG.out.f.lenA
        have hg := guard_neM A A
        rw [show decide (A = A) = true from decide_eq_true rfl] at hq
        refine stepSP (by simp [Region.wanted, yieldS, gq]) fun K hK => ?_
        go_simp
        exact hK _ _ { h with e18 := fun _ => rfl }
      · intro L s w2 h hk hd hn
        have s87 := h.e15 hd.1
        have s90 := h.e18 hd.2.1
        refine stepSP rfl fun K hK => ?_
        go_simp
        exact hK _ _ { h with e19 := fun _ => rfl }
    · intro L s w2 h hk hl
      refine (congrArg (fun a => Q2 .normal a w2) (?_ : _ = _)).mpr (hQ2 s w2 (⟨h.mu, h.e19 (hl 19 (by decide))⟩))
      exact frame_eq hk (by kernel_rfl) (by kernel_rfl)
    · intro c s w2 hc
      exact hc.elim
  rotate_left
  · rintro _ _ _ h
    exact h.elim
  rintro s11 V ⟨h1, k91⟩
  simp only [mergeL]
  rw [k91]
  replace HD := Lib.hid ((h1.same _ (lt_of_block HD.out) (by simp)).trans HD.out)
  replace HD2 := Lib.hid ((h1.same _ (lt_of_block HD2.out) (by simp)).trans HD2.out)
  replace HA := Lib.hid ((h1.same _ (lt_of_block HA.out) (by simp)).trans HA.out)
  replace HB := Lib.hid ((h1.same _ (lt_of_block HB.out) (by simp)).trans HB.out)
  replace HON := Lib.hid ((h1.same _ (lt_of_block HON.out) (by simp)).trans HON.out)
  replace HSA := Lib.hid ((h1.same _ (lt_of_block HSA.out) (by simp)).trans HSA.out)
  replace HX := Lib.hid ((h1.same _ (lt_of_block HX.out) (by simp)).trans HX.out)
  replace HYY := Lib.hid ((h1.same _ (lt_of_block HYY.out) (by simp)).trans HYY.out)
  replace HZ := Lib.hid ((h1.same _ (lt_of_block HZ.out) (by simp)).trans HZ.out)
  replace HM := Lib.hid (HM.out.stepM h1 (by simp))
  clear h1 k91
  refine HK11.out _ _ ?_
  go_wp2_with fail
  refine HKC.out _ _ ?_
  refine wp_seq_k fun K13 hK13 => ?_
  have HK13 := Lib.hid hK13
  clear hK13
  refine wp_cut_mergeP [none, none, none, none, none, none, none, none, none, none, none, none, some 12, none, none, none, none, none, none, some 19, none, none, none, none, none, none, none, none, none, none, none, none, none, none, none, none, none, none, none, none, none, none, none, none, none, none, none, none, none, none, none, none, none, none, none, none, none, none, none, none, none, none, none, none, none, none, none, none, none, none, none, none, none, none, none, none, none, none, none, none, none, none, none, none, none, none, none, none, none, none, none, none, some 92, some 93, some 94, some 95, some 96, some 97, none, none, none, none, none, none, none, none, none, none, none, none, none, none, none, none, none, none, none, none, none, none, none, none, none, none, none, none, none, none, none, none, none, none, none, none, none, none, none, none, none, none, none, none, none, none, none, none, none, none, none, none, none, none, none, none, none, none, none, none, none, none, none, none, none, none, none, none, none, none, none, none, none, none, none, none, none, none, none, none, none, none, none, none, none, none, none, none, none, none, none, none, none] (fun s w' => Mut [] V w' ∧ (∃ g : Nat, s 19 = .pointer (some ⟨g, 0, none⟩) ∧ V.heap.size ≤ g ∧ w'.heap[g]? = some (cobj 28 S)) ∧ s 12 = .int .i64 0) (fun _ _ => False) ?_ ?_ ?_
  · intro Q2 hQ2 hP2
    refine (wpIn_wide (n := 0)).1 (show Code.wpIn (G none) 0 _ _ _ _ _ from ?_)
    refine wp_region_G (b := false) (Pn := (fun _ _ => False)) (Od13 V A B S) (by kernel_rfl) (by kernel_rfl) ?_ ?_ ?_ ?_
    · exact ⟨Mut.start _ false _, fun h => absurd h Bool.false_ne_true, fun h => absurd h Bool.false_ne_true, fun h => absurd h Bool.false_ne_true, fun h => absurd h Bool.false_ne_true, fun h => absurd h Bool.false_ne_true, fun h => absurd h Bool.false_ne_true, fun h => absurd h Bool.false_ne_true, fun h => absurd h Bool.false_ne_true, fun h => absurd h Bool.false_ne_true⟩
    · refine AllSP.cons ?_ (AllSP.cons ?_ (AllSP.cons ?_ (AllSP.cons ?_ (AllSP.cons ?_ (AllSP.cons ?_ (AllSP.cons ?_ (AllSP.cons ?_ (AllSP.cons ?_ AllSP.nil))))))))
      · intro L s w2 h hk hd hn
        have s9 : s 9 = _ := hk 9 (by kernel_rfl)
        have kb := ((h.mu.same _ ((Array.getElem?_eq_some_iff.1 HA.out).1) (by simp)).trans HA.out)
        refine stepSP rfl fun K hK => ?_
        exact rs_load rfl s9 (md_load kb HG.out.f.lenA) (hK _ _ { h with e0 := fun _ => rfl })
      · intro L s w2 h hk hd hn
        have s10 : s 10 = _ := hk 10 (by kernel_rfl)
        have kb := ((h.mu.same _ ((Array.getElem?_eq_some_iff.1 HB.out).1) (by simp)).trans HB.out)
        refine stepSP rfl fun K hK => ?_
        exact rs_load rfl s10 (md_load kb HG.out.f.lenB) (hK _ _ { h with e1 := fun _ => rfl })
      · intro L s w2 h hk hd hn
        have s93 := h.e0 hd.1
        have s94 := h.e1 hd.2.1
        refine stepSP rfl fun K hK => ?_
        go_simp
        refine (gAdd0 HG.out.f.lenA HG.out.f.lenB HG.out.s1 HG.out.f.add0 _).mono ?_
        rintro e w3 ⟨rfl, hb⟩
        exact .inl ⟨_, rfl, hK _ _ { h with mu := h.mu.step hb, al_s := fun a => let ⟨g, h0, h1, hl, h2, h3⟩ := h.al_s a; ⟨g, h0, h1, Nat.lt_of_lt_of_le hl hb.size, fun c => (hb.block _ (lt_of_block (h2 c))).trans (h2 c), fun c => (hb.block _ (lt_of_block (h3 c))).trans (h3 c)⟩, e2 := fun _ => rfl }⟩
      · intro L s w2 h hk hd hn
        have s95 := h.e2 hd.1
        refine stepSP rfl fun K hK => ?_
        exact rs_move rfl s95 (hK _ _ { h with e3 := fun _ => rfl })
      · intro L s w2 h hk hd hn
        have s92 := h.e3 hd.1
        refine stepSP rfl fun K hK => ?_
        exact rs_extract rfl s92 rfl (hK _ _ { h with e4 := fun _ => rfl })
      · intro L s w2 h hk hd hn
        have s92 := h.e3 hd.1
        refine stepSP rfl fun K hK => ?_
        exact rs_extract rfl s92 rfl (hK _ _ { h with e5 := fun _ => rfl })
      · intro L s w2 h hk hd hn
        refine stepSP rfl fun K hK => ?_
        go_simp
        exact hK _ _ { h with mu := h.mu.alloc _, al_s := fun _ => ⟨_, rfl, h.mu.size, by simp, fun _ => heap_at _ rfl, fun a => absurd (h.b7_6 a) (by rw [hn]; exact Bool.false_ne_true)⟩, b7_6 := fun _ => rfl }
      · intro L s w2 h hk hd hn
        have s96 := h.e4 hd.2.1
        obtain ⟨g, hg0, hg1, hgl, hg2, hg3⟩ := h.al_s hd.1
        have kb := hg2 hn
        refine stepSP rfl fun K hK => ?_
        exact rs_store rfl hg0 s96 (md_store kb rfl _ HG.out.lS) (hK _ _ { h with mu := h.mu.putNew hg1 _, al_s := fun a => ⟨g, hg0, hg1, by simpa using hgl, nF, fun _ => pH kb⟩, b7_6 := fun _ => hd.1 })
      · intro L s w2 h hk hd hn
        have s97 := h.e5 hd.1
        refine stepSP rfl fun K hK => ?_
        exact rs_assign rfl s97 (hK _ _ { h with e8 := fun _ => rfl })
    · intro L s w2 h hk hl
      refine (congrArg (fun a => Q2 .normal a w2) (?_ : _ = _)).mpr (hQ2 s w2 (⟨h.mu, (let ⟨g, h0, h1, _, _, h3⟩ := h.al_s (hl 6 (by decide)); ⟨g, h0, h1, h3 (hl 7 (by decide))⟩), h.e8 (hl 8 (by decide))⟩))
      exact frame_eq hk (by kernel_rfl) (by kernel_rfl)
    · intro c s w2 hc
      exact hc.elim
  rotate_left
  · rintro _ _ _ h
    exact h.elim
  rintro s13 V ⟨h1, ⟨g7, k_s, g_s, c_s⟩, k12⟩
  simp only [mergeL]
  rw [k_s]
  rw [k12]
  replace HD := Lib.hid ((h1.same _ (lt_of_block HD.out) (by simp)).trans HD.out)
  replace HD2 := Lib.hid ((h1.same _ (lt_of_block HD2.out) (by simp)).trans HD2.out)
  replace HA := Lib.hid ((h1.same _ (lt_of_block HA.out) (by simp)).trans HA.out)
  replace HB := Lib.hid ((h1.same _ (lt_of_block HB.out) (by simp)).trans HB.out)
  replace HON := Lib.hid ((h1.same _ (lt_of_block HON.out) (by simp)).trans HON.out)
  replace HSA := Lib.hid ((h1.same _ (lt_of_block HSA.out) (by simp)).trans HSA.out)
  replace HX := Lib.hid ((h1.same _ (lt_of_block HX.out) (by simp)).trans HX.out)
  replace HYY := Lib.hid ((h1.same _ (lt_of_block HYY.out) (by simp)).trans HYY.out)
  replace HZ := Lib.hid ((h1.same _ (lt_of_block HZ.out) (by simp)).trans HZ.out)
  have HS := Lib.hid c_s
  replace HM := Lib.hid (HM.out.stepM h1 (by simp))
  clear h1 k_s g_s c_s k12
  refine HK13.out _ _ ?_
  refine wp_seq_k fun K14 hK14 => ?_
  have HK14 := Lib.hid hK14
  clear hK14
  refine wp_cut_mergeP [none, none, none, none, none, none, none, none, none, none, none, none, none, none, some 14, none, none, none, none, none, some 20, none, none, none, none, none, none, none, none, none, none, none, none, none, none, none, none, none, none, none, none, none, none, none, none, none, none, none, none, none, none, none, none, none, none, none, none, none, none, none, none, none, none, none, none, none, none, none, none, none, none, none, none, none, none, none, none, none, none, none, none, none, none, none, none, none, none, none, none, none, none, none, none, none, none, none, none, none, some 98, some 99, some 100, some 101, some 102, some 103, none, none, none, none, none, none, none, none, none, none, none, none, none, none, none, none, none, none, none, none, none, none, none, none, none, none, none, none, none, none, none, none, none, none, none, none, none, none, none, none, none, none, none, none, none, none, none, none, none, none, none, none, none, none, none, none, none, none, none, none, none, none, none, none, none, none, none, none, none, none, none, none, none, none, none, none, none, none, none, none, none, none, none, none, none, none, none] (fun s w' => Mut [] V w' ∧ (∃ g : Nat, s 20 = .pointer (some ⟨g, 0, none⟩) ∧ V.heap.size ≤ g ∧ w'.heap[g]? = some (cobj 28 T)) ∧ s 14 = .int .i64 0) (fun _ _ => False) ?_ ?_ ?_
  · intro Q2 hQ2 hP2
    refine (wpIn_wide (n := 0)).1 (show Code.wpIn (G none) 0 _ _ _ _ _ from ?_)
    refine wp_region_G (b := false) (Pn := (fun _ _ => False)) (Od14 V B S T) (by kernel_rfl) (by kernel_rfl) ?_ ?_ ?_ ?_
    · exact ⟨Mut.start _ false _, fun h => absurd h Bool.false_ne_true, fun h => absurd h Bool.false_ne_true, fun h => absurd h Bool.false_ne_true, fun h => absurd h Bool.false_ne_true, fun h => absurd h Bool.false_ne_true, fun h => absurd h Bool.false_ne_true, fun h => absurd h Bool.false_ne_true, fun h => absurd h Bool.false_ne_true, fun h => absurd h Bool.false_ne_true⟩
    · refine AllSP.cons ?_ (AllSP.cons ?_ (AllSP.cons ?_ (AllSP.cons ?_ (AllSP.cons ?_ (AllSP.cons ?_ (AllSP.cons ?_ (AllSP.cons ?_ (AllSP.cons ?_ AllSP.nil))))))))
      · intro L s w2 h hk hd hn
        have s19 : s 19 = _ := hk 19 (by kernel_rfl)
        have kb := ((h.mu.same _ ((Array.getElem?_eq_some_iff.1 HS.out).1) (by simp)).trans HS.out)
        refine stepSP rfl fun K hK => ?_
        exact rs_load rfl s19 (md_load kb HG.out.lS) (hK _ _ { h with e0 := fun _ => rfl })
      · intro L s w2 h hk hd hn
        have s10 : s 10 = _ := hk 10 (by kernel_rfl)
        have kb := ((h.mu.same _ ((Array.getElem?_eq_some_iff.1 HB.out).1) (by simp)).trans HB.out)
        refine stepSP rfl fun K hK => ?_
        exact rs_load rfl s10 (md_load kb HG.out.f.lenB) (hK _ _ { h with e1 := fun _ => rfl })
      · intro L s w2 h hk hd hn
        have s99 := h.e0 hd.1
        have s100 := h.e1 hd.2.1
        refine stepSP rfl fun K hK => ?_
        go_simp
        refine (gSub0 HG.out.lS HG.out.f.lenB HG.out.t1 HG.out.t0 _).mono ?_
        rintro e w3 ⟨rfl, hb⟩
        exact .inl ⟨_, rfl, hK _ _ { h with mu := h.mu.step hb, al_bk := fun a => let ⟨g, h0, h1, hl, h2, h3⟩ := h.al_bk a; ⟨g, h0, h1, Nat.lt_of_lt_of_le hl hb.size, fun c => (hb.block _ (lt_of_block (h2 c))).trans (h2 c), fun c => (hb.block _ (lt_of_block (h3 c))).trans (h3 c)⟩, e2 := fun _ => rfl }⟩
      · intro L s w2 h hk hd hn
        have s101 := h.e2 hd.1
        refine stepSP rfl fun K hK => ?_
        exact rs_move rfl s101 (hK _ _ { h with e3 := fun _ => rfl })
      · intro L s w2 h hk hd hn
        have s98 := h.e3 hd.1
        refine stepSP rfl fun K hK => ?_
        exact rs_extract rfl s98 rfl (hK _ _ { h with e4 := fun _ => rfl })
      · intro L s w2 h hk hd hn
        have s98 := h.e3 hd.1
        refine stepSP rfl fun K hK => ?_
        exact rs_extract rfl s98 rfl (hK _ _ { h with e5 := fun _ => rfl })
      · intro L s w2 h hk hd hn
        refine stepSP rfl fun K hK => ?_
        go_simp
        exact hK _ _ { h with mu := h.mu.alloc _, al_bk := fun _ => ⟨_, rfl, h.mu.size, by simp, fun _ => heap_at _ rfl, fun a => absurd (h.b7_6 a) (by rw [hn]; exact Bool.false_ne_true)⟩, b7_6 := fun _ => rfl }
      · intro L s w2 h hk hd hn
        have s102 := h.e4 hd.2.1
        obtain ⟨g, hg0, hg1, hgl, hg2, hg3⟩ := h.al_bk hd.1
        have kb := hg2 hn
        refine stepSP rfl fun K hK => ?_
        exact rs_store rfl hg0 s102 (md_store kb rfl _ HG.out.lT) (hK _ _ { h with mu := h.mu.putNew hg1 _, al_bk := fun a => ⟨g, hg0, hg1, by simpa using hgl, nF, fun _ => pH kb⟩, b7_6 := fun _ => hd.1 })
      · intro L s w2 h hk hd hn
        have s103 := h.e5 hd.1
        refine stepSP rfl fun K hK => ?_
        exact rs_assign rfl s103 (hK _ _ { h with e8 := fun _ => rfl })
    · intro L s w2 h hk hl
      refine (congrArg (fun a => Q2 .normal a w2) (?_ : _ = _)).mpr (hQ2 s w2 (⟨h.mu, (let ⟨g, h0, h1, _, _, h3⟩ := h.al_bk (hl 6 (by decide)); ⟨g, h0, h1, h3 (hl 7 (by decide))⟩), h.e8 (hl 8 (by decide))⟩))
      exact frame_eq hk (by kernel_rfl) (by kernel_rfl)
    · intro c s w2 hc
      exact hc.elim
  rotate_left
  · rintro _ _ _ h
    exact h.elim
  rintro s14 V ⟨h1, ⟨g8, k_bk, g_bk, c_bk⟩, k14⟩
  simp only [mergeL]
  rw [k_bk]
  rw [k14]
  replace HD := Lib.hid ((h1.same _ (lt_of_block HD.out) (by simp)).trans HD.out)
  replace HD2 := Lib.hid ((h1.same _ (lt_of_block HD2.out) (by simp)).trans HD2.out)
  replace HA := Lib.hid ((h1.same _ (lt_of_block HA.out) (by simp)).trans HA.out)
  replace HB := Lib.hid ((h1.same _ (lt_of_block HB.out) (by simp)).trans HB.out)
  replace HON := Lib.hid ((h1.same _ (lt_of_block HON.out) (by simp)).trans HON.out)
  replace HSA := Lib.hid ((h1.same _ (lt_of_block HSA.out) (by simp)).trans HSA.out)
  replace HX := Lib.hid ((h1.same _ (lt_of_block HX.out) (by simp)).trans HX.out)
  replace HYY := Lib.hid ((h1.same _ (lt_of_block HYY.out) (by simp)).trans HYY.out)
  replace HZ := Lib.hid ((h1.same _ (lt_of_block HZ.out) (by simp)).trans HZ.out)
  replace HS := Lib.hid ((h1.same _ (lt_of_block HS.out) (by simp)).trans HS.out)
  have HBK := Lib.hid c_bk
  replace HM := Lib.hid (HM.out.stepM h1 (by simp))
  clear h1 k_bk g_bk c_bk k14
  refine HK14.out _ _ ?_
  refine wp_seq_k fun K15 hK15 => ?_
  have HK15 := Lib.hid hK15
  clear hK15
  refine wp_cut_mergeP [none, none, none, none, none, none, none, none, none, none, none, none, none, none, none, none, none, none, some 18, none, none, some 21, none, none, none, none, none, none, none, none, none, none, none, none, none, none, none, none, none, none, none, none, none, none, none, none, none, none, none, none, none, none, none, none, none, none, none, none, none, none, none, none, none, none, none, none, none, none, none, none, none, none, none, none, none, none, none, none, none, none, none, none, none, none, none, none, none, none, none, none, none, none, none, none, none, none, none, none, none, none, none, none, none, none, some 104, some 105, some 106, some 107, some 108, some 109, some 110, some 111, some 112, some 113, some 114, some 115, some 116, none, none, none, none, none, none, none, none, none, none, none, none, none, none, none, none, none, none, none, none, none, none, none, none, none, none, none, none, none, none, none, none, none, none, none, none, none, none, none, none, none, none, none, none, none, none, none, none, none, none, none, none, none, none, none, none, none, none, none, none, none, none, none, none, none, none, none, none, none, none, none, none, none, none] (fun s w' => Mut [] V w' ∧ (∃ g : Nat, s 21 = .pointer (some ⟨g, 0, none⟩) ∧ V.heap.size ≤ g ∧ w'.heap[g]? = some (cobj 25 [ev])) ∧ s 18 = .int .i64 0) (fun _ _ => False) ?_ ?_ ?_
  · intro Q2 hQ2 hP2
    refine (wpIn_wide (n := 0)).1 (show Code.wpIn (G none) 0 _ _ _ _ _ from ?_)
    refine wp_region_G (b := true) (Pn := (fun _ _ => False)) (Od15 V u v A ev) (by kernel_rfl) (by kernel_rfl) ?_ ?_ ?_ ?_
    · exact ⟨Mut.start _ true _, fun h => absurd h Bool.false_ne_true, fun h => absurd h Bool.false_ne_true, fun h => absurd h Bool.false_ne_true, fun h => absurd h Bool.false_ne_true, fun h => absurd h Bool.false_ne_true, fun h => absurd h Bool.false_ne_true, fun h => absurd h Bool.false_ne_true, fun h => absurd h Bool.false_ne_true, fun h => absurd h Bool.false_ne_true, fun h => absurd h Bool.false_ne_true, fun h => absurd h Bool.false_ne_true, fun h => absurd h Bool.false_ne_true, fun h => absurd h Bool.false_ne_true, fun h => absurd h Bool.false_ne_true, fun h => absurd h Bool.false_ne_true, fun h => absurd h Bool.false_ne_true⟩
    · refine AllSP.cons ?_ (AllSP.cons ?_ (AllSP.cons ?_ (AllSP.cons ?_ (AllSP.cons ?_ (AllSP.cons ?_ (AllSP.cons ?_ (AllSP.cons ?_ (AllSP.cons ?_ (AllSP.cons ?_ (AllSP.cons ?_ (AllSP.cons ?_ (AllSP.cons ?_ (AllSP.cons ?_ (AllSP.cons ?_ (AllSP.cons ?_ AllSP.nil)))))))))))))))
      · intro L s w2 h hk hd hn
        have s9 : s 9 = _ := hk 9 (by kernel_rfl)
        have kb := ((h.mu.same _ ((Array.getElem?_eq_some_iff.1 HA.out).1) (by simp)).trans HA.out)
        refine stepSP rfl fun K hK => ?_
        exact rs_load rfl s9 (md_load kb HG.out.f.lenA) (hK _ _ { h with e0 := fun _ => rfl })
      · intro L s w2 h hk hd hn
        have s2 : s 2 = _ := hk 2 (by kernel_rfl)
        refine stepSP rfl fun K hK => ?_
        exact rs_move rfl s2 (hK _ _ { h with e1 := fun _ => rfl })
      · intro L s w2 h hk hd hn
        have s106 := h.e1 hd.1
        have e1 := (wr_i32 HY.out.2.2.2.2.1).1
        refine stepSP rfl fun K hK => ?_
        go_simp
        exact hK _ _ { h with e2 := fun _ => rfl }
      · intro L s w2 h hk hd hn
        have s107 := h.e2 hd.1
        have e1 := (wr_i32 HY.out.2.2.2.2.1).2
        refine stepSP rfl fun K hK => ?_
        go_simp
        exact hK _ _ { h with e3 := fun _ => rfl }
      · intro L s w2 h hk hd hn
        have s108 := h.e3 hd.1
        refine stepSP rfl fun K hK => ?_
        go_simp
        refine (law21_pt (2 * u) _).mono ?_
        rintro e w3 ⟨rfl, hb⟩
        exact .inl ⟨_, rfl, hK _ _ { h with mu := h.mu.step hb, al_ev := fun a => let ⟨g, h0, h1, hl, h2, h3⟩ := h.al_ev a; ⟨g, h0, h1, Nat.lt_of_lt_of_le hl hb.size, fun c => (hb.block _ (lt_of_block (h2 c))).trans (h2 c), fun c => (hb.block _ (lt_of_block (h3 c))).trans (h3 c)⟩, e4 := fun _ => rfl }⟩
      · intro L s w2 h hk hd hn
        have s3 : s 3 = _ := hk 3 (by kernel_rfl)
        refine stepSP rfl fun K hK => ?_
        exact rs_move rfl s3 (hK _ _ { h with e5 := fun _ => rfl })
      · intro L s w2 h hk hd hn
        have s110 := h.e5 hd.1
        have e1 := (wr_i32 HY.out.2.2.2.2.2).1
        refine stepSP rfl fun K hK => ?_
        go_simp
        exact hK _ _ { h with e6 := fun _ => rfl }
      · intro L s w2 h hk hd hn
        have s111 := h.e6 hd.1
        have e1 := (wr_i32 HY.out.2.2.2.2.2).2
        refine stepSP rfl fun K hK => ?_
        go_simp
        exact hK _ _ { h with e7 := fun _ => rfl }
      · intro L s w2 h hk hd hn
        have s112 := h.e7 hd.1
        refine stepSP rfl fun K hK => ?_
        go_simp
        refine (law21_pt (2 * v) _).mono ?_
        rintro e w3 ⟨rfl, hb⟩
        exact .inl ⟨_, rfl, hK _ _ { h with mu := h.mu.step hb, al_ev := fun a => let ⟨g, h0, h1, hl, h2, h3⟩ := h.al_ev a; ⟨g, h0, h1, Nat.lt_of_lt_of_le hl hb.size, fun c => (hb.block _ (lt_of_block (h2 c))).trans (h2 c), fun c => (hb.block _ (lt_of_block (h3 c))).trans (h3 c)⟩, e8 := fun _ => rfl }⟩
      · intro L s w2 h hk hd hn
        have s105 := h.e0 hd.1
        have s109 := h.e4 hd.2.1
        have s113 := h.e8 hd.2.2.1
        refine stepSP rfl fun K hK => ?_
        go_simp
        refine (gEval0 HG.out.f.lenA HG.out.f.okA HG.out.f.uO HG.out.f.vO HG.out.e1 HG.out.f.ev0 _).mono ?_
        rintro e w3 ⟨rfl, hb⟩
        exact .inl ⟨_, rfl, hK _ _ { h with mu := h.mu.step hb, al_ev := fun a => let ⟨g, h0, h1, hl, h2, h3⟩ := h.al_ev a; ⟨g, h0, h1, Nat.lt_of_lt_of_le hl hb.size, fun c => (hb.block _ (lt_of_block (h2 c))).trans (h2 c), fun c => (hb.block _ (lt_of_block (h3 c))).trans (h3 c)⟩, e9 := fun _ => rfl }⟩
      · intro L s w2 h hk hd hn
        have s114 := h.e9 hd.1
        refine stepSP rfl fun K hK => ?_
        exact rs_move rfl s114 (hK _ _ { h with e10 := fun _ => rfl })
      · intro L s w2 h hk hd hn
        have s104 := h.e10 hd.1
        refine stepSP rfl fun K hK => ?_
        exact rs_extract rfl s104 rfl (hK _ _ { h with e11 := fun _ => rfl })
      · intro L s w2 h hk hd hn
        have s104 := h.e10 hd.1
        refine stepSP rfl fun K hK => ?_
        exact rs_extract rfl s104 rfl (hK _ _ { h with e12 := fun _ => rfl })
      · intro L s w2 h hk hd hn
        refine stepSP rfl fun K hK => ?_
        go_simp
        exact hK _ _ { h with mu := h.mu.alloc _, al_ev := fun _ => ⟨_, rfl, h.mu.size, by simp, fun _ => heap_at _ rfl, fun a => absurd (h.b14_13 a) (by rw [hn]; exact Bool.false_ne_true)⟩, b14_13 := fun _ => rfl }
      · intro L s w2 h hk hd hn
        have s115 := h.e11 hd.2.1
        obtain ⟨g, hg0, hg1, hgl, hg2, hg3⟩ := h.al_ev hd.1
        have kb := hg2 hn
        refine stepSP rfl fun K hK => ?_
        exact rs_store rfl hg0 s115 (sp_store (p := 0) kb (by simp) ev) (hK _ _ { h with mu := h.mu.putNew hg1 _, al_ev := fun a => ⟨g, hg0, hg1, by simpa using hgl, nF, fun _ => pH kb⟩, b14_13 := fun _ => hd.1 })
      · intro L s w2 h hk hd hn
        have s116 := h.e12 hd.1
        refine stepSP rfl fun K hK => ?_
        exact rs_assign rfl s116 (hK _ _ { h with e15 := fun _ => rfl })
    · intro L s w2 h hk hl
      refine (congrArg (fun a => Q2 .normal a w2) (?_ : _ = _)).mpr (hQ2 s w2 (⟨h.mu, (let ⟨g, h0, h1, _, _, h3⟩ := h.al_ev (hl 13 (by decide)); ⟨g, h0, h1, h3 (hl 14 (by decide))⟩), h.e15 (hl 15 (by decide))⟩))
      exact frame_eq hk (by kernel_rfl) (by kernel_rfl)
    · intro c s w2 hc
      exact hc.elim
  rotate_left
  · rintro _ _ _ h
    exact h.elim
  rintro s15 V ⟨h1, ⟨g9, k_ev, g_ev, c_ev⟩, k18⟩
  simp only [mergeL]
  rw [k_ev]
  rw [k18]
  replace HD := Lib.hid ((h1.same _ (lt_of_block HD.out) (by simp)).trans HD.out)
  replace HD2 := Lib.hid ((h1.same _ (lt_of_block HD2.out) (by simp)).trans HD2.out)
  replace HA := Lib.hid ((h1.same _ (lt_of_block HA.out) (by simp)).trans HA.out)
  replace HB := Lib.hid ((h1.same _ (lt_of_block HB.out) (by simp)).trans HB.out)
  replace HON := Lib.hid ((h1.same _ (lt_of_block HON.out) (by simp)).trans HON.out)
  replace HSA := Lib.hid ((h1.same _ (lt_of_block HSA.out) (by simp)).trans HSA.out)
  replace HX := Lib.hid ((h1.same _ (lt_of_block HX.out) (by simp)).trans HX.out)
  replace HYY := Lib.hid ((h1.same _ (lt_of_block HYY.out) (by simp)).trans HYY.out)
  replace HZ := Lib.hid ((h1.same _ (lt_of_block HZ.out) (by simp)).trans HZ.out)
  replace HS := Lib.hid ((h1.same _ (lt_of_block HS.out) (by simp)).trans HS.out)
  replace HBK := Lib.hid ((h1.same _ (lt_of_block HBK.out) (by simp)).trans HBK.out)
  have HEV := Lib.hid c_ev
  replace HM := Lib.hid (HM.out.stepM h1 (by simp))
  clear h1 k_ev g_ev c_ev k18
  refine HK15.out _ _ ?_
  refine wp_seq_k fun K16 hK16 => ?_
  have HK16 := Lib.hid hK16
  clear hK16
  refine wp_cut_mergeP [none, none, none, none, none, none, none, none, none, none, none, none, none, none, none, none, none, none, none, none, none, none, some 22, some 23, none, none, none, none, none, none, none, none, none, none, none, none, none, none, none, none, none, none, none, none, none, none, none, none, none, none, none, none, none, none, none, none, none, none, none, none, none, none, none, none, none, none, none, none, none, none, none, none, none, none, none, none, none, none, none, none, none, none, none, none, none, none, none, none, none, none, none, none, none, none, none, none, none, none, none, none, none, none, none, none, none, none, none, none, none, none, none, none, none, none, none, none, none, some 117, some 118, some 119, some 120, some 121, none, none, none, none, none, none, none, none, none, none, none, none, none, none, none, none, none, none, none, none, none, none, none, none, none, none, none, none, none, none, none, none, none, none, none, none, none, none, none, none, none, none, none, none, none, none, none, none, none, none, none, none, none, none, none, none, none, none, none, none, none, none, none, none, none, none, none, none, none] (fun s w' => Mut [] V w' ∧ (∃ g : Nat, s 22 = .pointer (some ⟨g, 0, none⟩) ∧ V.heap.size ≤ g ∧ w'.heap[g]? = some (cobj 25 [bo])) ∧ s 23 = .int .i64 0) (fun _ _ => False) ?_ ?_ ?_
  · intro Q2 hQ2 hP2
    refine (wpIn_wide (n := 0)).1 (show Code.wpIn (G none) 0 _ _ _ _ _ from ?_)
    refine wp_region_G (b := false) (Pn := (fun _ _ => False)) (Od16 V A bo) (by kernel_rfl) (by kernel_rfl) ?_ ?_ ?_ ?_
    · exact ⟨Mut.start _ false _, fun h => absurd h Bool.false_ne_true, fun h => absurd h Bool.false_ne_true, fun h => absurd h Bool.false_ne_true, fun h => absurd h Bool.false_ne_true, fun h => absurd h Bool.false_ne_true, fun h => absurd h Bool.false_ne_true, fun h => absurd h Bool.false_ne_true, fun h => absurd h Bool.false_ne_true⟩
    · refine AllSP.cons ?_ (AllSP.cons ?_ (AllSP.cons ?_ (AllSP.cons ?_ (AllSP.cons ?_ (AllSP.cons ?_ (AllSP.cons ?_ (AllSP.cons ?_ AllSP.nil)))))))
      · intro L s w2 h hk hd hn
        have s9 : s 9 = _ := hk 9 (by kernel_rfl)
        have kb := ((h.mu.same _ ((Array.getElem?_eq_some_iff.1 HA.out).1) (by simp)).trans HA.out)
        refine stepSP rfl fun K hK => ?_
        exact rs_load rfl s9 (md_load kb HG.out.f.lenA) (hK _ _ { h with e0 := fun _ => rfl })
      · intro L s w2 h hk hd hn
        have s118 := h.e0 hd.1
        refine stepSP rfl fun K hK => ?_
        go_simp
        refine (gBound0 HG.out.f.lenA HG.out.b1 HG.out.f.bo0 _).mono ?_
        rintro e w3 ⟨rfl, hb⟩
        exact .inl ⟨_, rfl, hK _ _ { h with mu := h.mu.step hb, al_bo := fun a => let ⟨g, h0, h1, hl, h2, h3⟩ := h.al_bo a; ⟨g, h0, h1, Nat.lt_of_lt_of_le hl hb.size, fun c => (hb.block _ (lt_of_block (h2 c))).trans (h2 c), fun c => (hb.block _ (lt_of_block (h3 c))).trans (h3 c)⟩, e1 := fun _ => rfl }⟩
      · intro L s w2 h hk hd hn
        have s119 := h.e1 hd.1
        refine stepSP rfl fun K hK => ?_
        exact rs_move rfl s119 (hK _ _ { h with e2 := fun _ => rfl })
      · intro L s w2 h hk hd hn
        have s117 := h.e2 hd.1
        refine stepSP rfl fun K hK => ?_
        exact rs_extract rfl s117 rfl (hK _ _ { h with e3 := fun _ => rfl })
      · intro L s w2 h hk hd hn
        have s117 := h.e2 hd.1
        refine stepSP rfl fun K hK => ?_
        exact rs_extract rfl s117 rfl (hK _ _ { h with e4 := fun _ => rfl })
      · intro L s w2 h hk hd hn
        refine stepSP rfl fun K hK => ?_
        go_simp
        exact hK _ _ { h with mu := h.mu.alloc _, al_bo := fun _ => ⟨_, rfl, h.mu.size, by simp, fun _ => heap_at _ rfl, fun a => absurd (h.b6_5 a) (by rw [hn]; exact Bool.false_ne_true)⟩, b6_5 := fun _ => rfl }
      · intro L s w2 h hk hd hn
        have s120 := h.e3 hd.2.1
        obtain ⟨g, hg0, hg1, hgl, hg2, hg3⟩ := h.al_bo hd.1
        have kb := hg2 hn
        refine stepSP rfl fun K hK => ?_
        exact rs_store rfl hg0 s120 (sp_store (p := 0) kb (by simp) bo) (hK _ _ { h with mu := h.mu.putNew hg1 _, al_bo := fun a => ⟨g, hg0, hg1, by simpa using hgl, nF, fun _ => pH kb⟩, b6_5 := fun _ => hd.1 })
      · intro L s w2 h hk hd hn
        have s121 := h.e4 hd.1
        refine stepSP rfl fun K hK => ?_
        exact rs_assign rfl s121 (hK _ _ { h with e7 := fun _ => rfl })
    · intro L s w2 h hk hl
      refine (congrArg (fun a => Q2 .normal a w2) (?_ : _ = _)).mpr (hQ2 s w2 (⟨h.mu, (let ⟨g, h0, h1, _, _, h3⟩ := h.al_bo (hl 5 (by decide)); ⟨g, h0, h1, h3 (hl 6 (by decide))⟩), h.e7 (hl 7 (by decide))⟩))
      exact frame_eq hk (by kernel_rfl) (by kernel_rfl)
    · intro c s w2 hc
      exact hc.elim
  rotate_left
  · rintro _ _ _ h
    exact h.elim
  rintro s16 V ⟨h1, ⟨g10, k_bo, g_bo, c_bo⟩, k23⟩
  simp only [mergeL]
  rw [k_bo]
  rw [k23]
  replace HD := Lib.hid ((h1.same _ (lt_of_block HD.out) (by simp)).trans HD.out)
  replace HD2 := Lib.hid ((h1.same _ (lt_of_block HD2.out) (by simp)).trans HD2.out)
  replace HA := Lib.hid ((h1.same _ (lt_of_block HA.out) (by simp)).trans HA.out)
  replace HB := Lib.hid ((h1.same _ (lt_of_block HB.out) (by simp)).trans HB.out)
  replace HON := Lib.hid ((h1.same _ (lt_of_block HON.out) (by simp)).trans HON.out)
  replace HSA := Lib.hid ((h1.same _ (lt_of_block HSA.out) (by simp)).trans HSA.out)
  replace HX := Lib.hid ((h1.same _ (lt_of_block HX.out) (by simp)).trans HX.out)
  replace HYY := Lib.hid ((h1.same _ (lt_of_block HYY.out) (by simp)).trans HYY.out)
  replace HZ := Lib.hid ((h1.same _ (lt_of_block HZ.out) (by simp)).trans HZ.out)
  replace HS := Lib.hid ((h1.same _ (lt_of_block HS.out) (by simp)).trans HS.out)
  replace HBK := Lib.hid ((h1.same _ (lt_of_block HBK.out) (by simp)).trans HBK.out)
  replace HEV := Lib.hid ((h1.same _ (lt_of_block HEV.out) (by simp)).trans HEV.out)
  have HBO := Lib.hid c_bo
  replace HM := Lib.hid (HM.out.stepM h1 (by simp))
  clear h1 k_bo g_bo c_bo k23
  refine HK16.out _ _ ?_
  refine wp_seq_k fun KD hKD => ?_
  have HKD := Lib.hid hKD
  clear hKD
  refine wp_seq_k fun K17 hK17 => ?_
  have HK17 := Lib.hid hK17
  clear hK17
  refine wp_cut_mergeP [none, none, none, none, none, none, none, none, none, none, none, none, none, none, none, none, none, none, none, none, none, none, none, none, none, none, none, none, none, none, none, none, none, none, none, none, none, none, none, none, none, none, none, none, none, none, none, none, none, none, none, none, none, none, none, none, none, none, none, none, none, none, none, none, none, none, none, none, none, none, none, none, none, none, none, none, none, none, none, none, none, none, none, none, none, none, none, none, none, none, none, none, none, none, none, none, none, none, none, none, none, none, none, none, none, none, none, none, none, none, none, none, none, none, none, none, none, none, none, none, none, none, some 122, some 123, some 124, some 125, some 126, some 127, some 128, some 129, some 130, some 131, some 132, some 133, some 134, some 135, some 136, some 137, some 138, some 139, some 140, some 141, some 142, some 143, some 144, some 145, some 146, some 147, some 148, some 149, none, none, none, none, none, none, none, none, none, none, none, none, none, none, none, none, none, none, none, none, none, none, none, none, none, none, none, none, none, none, none, none, none, none, none, none, none, none, none, none, none] (fun s w' => Mut [] V w' ∧ s 149 = .bool false) (fun _ _ => False) ?_ ?_ ?_
  · intro Q2 hQ2 hP2
    refine (wpIn_wide (n := 0)).1 (show Code.wpIn (G none) 0 _ _ _ _ _ from ?_)
    refine wp_region_G (b := false) (Pn := (fun _ _ => False)) (Od17 V ev bo g9 g10) (by kernel_rfl) (by kernel_rfl) ?_ ?_ ?_ ?_
    · exact ⟨Mut.start _ false _, fun h => absurd h Bool.false_ne_true, fun h => absurd h Bool.false_ne_true, fun h => absurd h Bool.false_ne_true, fun h => absurd h Bool.false_ne_true, fun h => absurd h Bool.false_ne_true, fun h => absurd h Bool.false_ne_true, fun h => absurd h Bool.false_ne_true, fun h => absurd h Bool.false_ne_true, fun h => absurd h Bool.false_ne_true, fun h => absurd h Bool.false_ne_true, fun h => absurd h Bool.false_ne_true, fun h => absurd h Bool.false_ne_true, fun h => absurd h Bool.false_ne_true, fun h => absurd h Bool.false_ne_true, fun h => absurd h Bool.false_ne_true, fun h => absurd h Bool.false_ne_true, fun h => absurd h Bool.false_ne_true, fun h => absurd h Bool.false_ne_true, fun h => absurd h Bool.false_ne_true, fun h => absurd h Bool.false_ne_true, fun h => absurd h Bool.false_ne_true, fun h => absurd h Bool.false_ne_true, fun h => absurd h Bool.false_ne_true, fun h => absurd h Bool.false_ne_true, fun h => absurd h Bool.false_ne_true, fun h => absurd h Bool.false_ne_true, fun h => absurd h Bool.false_ne_true, fun h => absurd h Bool.false_ne_true⟩
    · refine AllSP.cons ?_ (AllSP.cons ?_ (AllSP.cons ?_ (AllSP.cons ?_ (AllSP.cons ?_ (AllSP.cons ?_ (AllSP.cons ?_ (AllSP.cons ?_ (AllSP.cons ?_ (AllSP.cons ?_ (AllSP.cons ?_ (AllSP.cons ?_ (AllSP.cons ?_ (AllSP.cons ?_ (AllSP.cons ?_ (AllSP.cons ?_ (AllSP.cons ?_ (AllSP.cons ?_ (AllSP.cons ?_ (AllSP.cons ?_ (AllSP.cons ?_ (AllSP.cons ?_ (AllSP.cons ?_ (AllSP.cons ?_ (AllSP.cons ?_ (AllSP.cons ?_ (AllSP.cons ?_ (AllSP.cons ?_ AllSP.nil)))))))))))))))))))))))))))
      · intro L s w2 h hk hd hn
        have s12 : s 12 = _ := hk 12 (by kernel_rfl)
        refine stepSP rfl fun K hK => ?_
        exact rs_move rfl s12 (hK _ _ { h with e0 := fun _ => rfl })
      · intro L s w2 h hk hd hn
        have s122 := h.e0 hd.1
        refine stepSP rfl fun K hK => ?_
        go_simp
        exact hK _ _ { h with e1 := fun _ => rfl }
      · intro L s w2 h hk hd hn
        have s123 := h.e1 hd.1
        refine stepSP rfl fun K hK => ?_
        exact rs_move rfl s123 (hK _ _ { h with e2 := fun _ => rfl })
      · intro L s w2 h hk hd hn
        have gq := h.e2 hd.1
        have s14 : s 14 = _ := hk 14 (by kernel_rfl)
        refine stepSP (by simp [Region.wanted, yieldS, gq]) fun K hK => ?_
        exact rs_move rfl s14 (hK _ _ { h with e3 := fun _ => rfl })
      · intro L s w2 h hk hd hn
        have gq := h.e2 hd.2.1
        have s125 := h.e3 hd.1
        refine stepSP (by simp [Region.wanted, yieldS, gq]) fun K hK => ?_
        go_simp
        exact hK _ _ { h with e4 := fun _ => rfl }
      · intro L s w2 h hk hd hn
        have s124 := h.e2 hd.1
        have s126 := h.e4 hd.2.1
        refine stepSP rfl fun K hK => ?_
        go_simp
        exact hK _ _ { h with e5 := fun _ => rfl }
      · intro L s w2 h hk hd hn
        have s127 := h.e5 hd.1
        refine stepSP rfl fun K hK => ?_
        exact rs_move rfl s127 (hK _ _ { h with e6 := fun _ => rfl })
      · intro L s w2 h hk hd hn
        have gq := h.e6 hd.1
        have s18 : s 18 = _ := hk 18 (by kernel_rfl)
        refine stepSP (by simp [Region.wanted, yieldS, gq]) fun K hK => ?_
        exact rs_move rfl s18 (hK _ _ { h with e7 := fun _ => rfl })
      · intro L s w2 h hk hd hn
        have gq := h.e6 hd.2.1
        have s129 := h.e7 hd.1
        refine stepSP (by simp [Region.wanted, yieldS, gq]) fun K hK => ?_
        go_simp
        exact hK _ _ { h with e8 := fun _ => rfl }
      · intro L s w2 h hk hd hn
        have s128 := h.e6 hd.1
        have s130 := h.e8 hd.2.1
        refine stepSP rfl fun K hK => ?_
        go_simp
        exact hK _ _ { h with e9 := fun _ => rfl }
      · intro L s w2 h hk hd hn
        have s131 := h.e9 hd.1
        refine stepSP rfl fun K hK => ?_
        exact rs_move rfl s131 (hK _ _ { h with e10 := fun _ => rfl })
      · intro L s w2 h hk hd hn
        have gq := h.e10 hd.1
        have s23 : s 23 = _ := hk 23 (by kernel_rfl)
        refine stepSP (by simp [Region.wanted, yieldS, gq]) fun K hK => ?_
        exact rs_move rfl s23 (hK _ _ { h with e11 := fun _ => rfl })
      · intro L s w2 h hk hd hn
        have gq := h.e10 hd.2.1
        have s133 := h.e11 hd.1
        refine stepSP (by simp [Region.wanted, yieldS, gq]) fun K hK => ?_
        go_simp
        exact hK _ _ { h with e12 := fun _ => rfl }
      · intro L s w2 h hk hd hn
        have s132 := h.e10 hd.1
        have s134 := h.e12 hd.2.1
        refine stepSP rfl fun K hK => ?_
        go_simp
        exact hK _ _ { h with e13 := fun _ => rfl }
      · intro L s w2 h hk hd hn
        have s135 := h.e13 hd.1
        refine stepSP rfl fun K hK => ?_
        exact rs_move rfl s135 (hK _ _ { h with e14 := fun _ => rfl })
      · intro L s w2 h hk hd hn
        have gq := h.e14 hd.1
        have s21 : s 21 = _ := hk 21 (by kernel_rfl)
        refine stepSP (by simp [Region.wanted, yieldS, gq]) fun K hK => ?_
        exact rs_field rfl s21 (fl_span0 _ 0 _) (hK _ _ { h with e15 := fun _ => rfl })
      · intro L s w2 h hk hd hn
        have gq := h.e14 hd.2.1
        have s137 := h.e15 hd.1
        have kb := ((h.mu.same _ ((Array.getElem?_eq_some_iff.1 HEV.out).1) (by simp)).trans HEV.out)
        refine stepSP (by simp [Region.wanted, yieldS, gq]) fun K hK => ?_
        exact rs_load rfl s137 (ld_span0 (p := 0) kb (by simp)) (hK _ _ { h with e16 := fun _ => rfl })
      · intro L s w2 h hk hd hn
        have gq := h.e14 hd.1
        have s22 : s 22 = _ := hk 22 (by kernel_rfl)
        refine stepSP (by simp [Region.wanted, yieldS, gq]) fun K hK => ?_
        exact rs_field rfl s22 (fl_span1 _ 0 _) (hK _ _ { h with e17 := fun _ => rfl })
      · intro L s w2 h hk hd hn
        have gq := h.e14 hd.2.1
        have s139 := h.e17 hd.1
        have kb := ((h.mu.same _ ((Array.getElem?_eq_some_iff.1 HBO.out).1) (by simp)).trans HBO.out)
        refine stepSP (by simp [Region.wanted, yieldS, gq]) fun K hK => ?_
        exact rs_load rfl s139 (ld_span1 (p := 0) kb (by simp)) (hK _ _ { h with e18 := fun _ => rfl })
      · intro L s w2 h hk hd hn
        have gq := h.e14 hd.2.2.1
        have s138 := h.e16 hd.1
        have s140 := h.e18 hd.2.1
        refine stepSP (by simp [Region.wanted, yieldS, gq]) fun K hK => ?_
        go_simp
        exact hK _ _ { h with e19 := fun _ => congrArg Value.bool (by have := HG.out.m1; simp; omega) }
      · intro L s w2 h hk hd hn
        have s136 := h.e14 hd.1
        have s141 := h.e19 hd.2.1
        refine stepSP rfl fun K hK => ?_
        go_simp
        exact hK _ _ { h with e20 := fun _ => rfl }
      · intro L s w2 h hk hd hn
        have s142 := h.e20 hd.1
        refine stepSP rfl fun K hK => ?_
        exact rs_move rfl s142 (hK _ _ { h with e21 := fun _ => rfl })
      · intro L s w2 h hk hd hn
        have gq := h.e21 hd.1
        have s22 : s 22 = _ := hk 22 (by kernel_rfl)
        refine stepSP (by simp [Region.wanted, yieldS, gq]) fun K hK => ?_
        exact rs_field rfl s22 (fl_span0 _ 0 _) (hK _ _ { h with e22 := fun _ => rfl })
      · intro L s w2 h hk hd hn
        have gq := h.e21 hd.2.1
        have s144 := h.e22 hd.1
        have kb := ((h.mu.same _ ((Array.getElem?_eq_some_iff.1 HBO.out).1) (by simp)).trans HBO.out)
        refine stepSP (by simp [Region.wanted, yieldS, gq]) fun K hK => ?_
        exact rs_load rfl s144 (ld_span0 (p := 0) kb (by simp)) (hK _ _ { h with e23 := fun _ => rfl })
      · intro L s w2 h hk hd hn
        have gq := h.e21 hd.1
        have s21 : s 21 = _ := hk 21 (by kernel_rfl)
        refine stepSP (by simp [Region.wanted, yieldS, gq]) fun K hK => ?_
        exact rs_field rfl s21 (fl_span1 _ 0 _) (hK _ _ { h with e24 := fun _ => rfl })
      · intro L s w2 h hk hd hn
        have gq := h.e21 hd.2.1
        have s146 := h.e24 hd.1
        have kb := ((h.mu.same _ ((Array.getElem?_eq_some_iff.1 HEV.out).1) (by simp)).trans HEV.out)
        refine stepSP (by simp [Region.wanted, yieldS, gq]) fun K hK => ?_
        exact rs_load rfl s146 (ld_span1 (p := 0) kb (by simp)) (hK _ _ { h with e25 := fun _ => rfl })
      · intro L s w2 h hk hd hn
        have gq := h.e21 hd.2.2.1
        have s145 := h.e23 hd.1
        have s147 := h.e25 hd.2.1
        refine stepSP (by simp [Region.wanted, yieldS, gq]) fun K hK => ?_
        go_simp
        exact hK _ _ { h with e26 := fun _ => congrArg Value.bool (by have := HG.out.m2; simp; omega) }
      · intro L s w2 h hk hd hn
        have s143 := h.e21 hd.1
        have s148 := h.e26 hd.2.1
        refine stepSP rfl fun K hK => ?_
        go_simp
        exact hK _ _ { h with e27 := fun _ => rfl }
    · intro L s w2 h hk hl
      refine (congrArg (fun a => Q2 .normal a w2) (?_ : _ = _)).mpr (hQ2 s w2 (⟨h.mu, h.e27 (hl 27 (by decide))⟩))
      exact frame_eq hk (by kernel_rfl) (by kernel_rfl)
    · intro c s w2 hc
      exact hc.elim
  rotate_left
  · rintro _ _ _ h
    exact h.elim
  rintro s17 V ⟨h1, k149⟩
  simp only [mergeL]
  rw [k149]
  replace HD := Lib.hid ((h1.same _ (lt_of_block HD.out) (by simp)).trans HD.out)
  replace HD2 := Lib.hid ((h1.same _ (lt_of_block HD2.out) (by simp)).trans HD2.out)
  replace HA := Lib.hid ((h1.same _ (lt_of_block HA.out) (by simp)).trans HA.out)
  replace HB := Lib.hid ((h1.same _ (lt_of_block HB.out) (by simp)).trans HB.out)
  replace HON := Lib.hid ((h1.same _ (lt_of_block HON.out) (by simp)).trans HON.out)
  replace HSA := Lib.hid ((h1.same _ (lt_of_block HSA.out) (by simp)).trans HSA.out)
  replace HX := Lib.hid ((h1.same _ (lt_of_block HX.out) (by simp)).trans HX.out)
  replace HYY := Lib.hid ((h1.same _ (lt_of_block HYY.out) (by simp)).trans HYY.out)
  replace HZ := Lib.hid ((h1.same _ (lt_of_block HZ.out) (by simp)).trans HZ.out)
  replace HS := Lib.hid ((h1.same _ (lt_of_block HS.out) (by simp)).trans HS.out)
  replace HBK := Lib.hid ((h1.same _ (lt_of_block HBK.out) (by simp)).trans HBK.out)
  replace HEV := Lib.hid ((h1.same _ (lt_of_block HEV.out) (by simp)).trans HEV.out)
  replace HBO := Lib.hid ((h1.same _ (lt_of_block HBO.out) (by simp)).trans HBO.out)
  replace HM := Lib.hid (HM.out.stepM h1 (by simp))
  clear h1 k149
  refine HK17.out _ _ ?_
  go_wp2_with fail
  refine HKD.out _ _ ?_
  refine wp_seq_k fun KE hKE => ?_
  have HKE := Lib.hid hKE
  clear hKE
  refine wp_seq_k fun K19 hK19 => ?_
  have HK19 := Lib.hid hK19
  clear hK19
  refine wp_cut_mergeP [none, none, none, none, none, none, none, none, none, none, none, none, none, none, none, none, none, none, none, none, none, none, none, none, none, none, none, none, none, none, none, none, none, none, none, none, none, none, none, none, none, none, none, none, none, none, none, none, none, none, none, none, none, none, none, none, none, none, none, none, none, none, none, none, none, none, none, none, none, none, none, none, none, none, none, none, none, none, none, none, none, none, none, none, none, none, none, none, none, none, none, none, none, none, none, none, none, none, none, none, none, none, none, none, none, none, none, none, none, none, none, none, none, none, none, none, none, none, none, none, none, none, none, none, none, none, none, none, none, none, none, none, none, none, none, none, none, none, none, none, none, none, none, none, none, none, none, none, none, none, some 150, some 151, some 152, none, none, none, none, none, none, none, none, none, none, none, none, none, none, none, none, none, none, none, none, none, none, none, none, none, none, none, none, none, none, none, none, none, none, none, none, none, none] (fun s w' => Mut [] V w' ∧ s 151 = mval (T.take 21) ∧ s 152 = .int .i64 ((0 : Nat) : Int)) (fun _ _ => False) ?_ ?_ ?_
  · intro Q2 hQ2 hP2
    refine (wpIn_wide (n := 0)).1 (show Code.wpIn (G none) 0 _ _ _ _ _ from ?_)
    refine wp_region_G (b := false) (Pn := (fun _ _ => False)) (Od19 V T g8) (by kernel_rfl) (by kernel_rfl) ?_ ?_ ?_ ?_
    · exact ⟨Mut.start _ false _, fun h => absurd h Bool.false_ne_true, fun h => absurd h Bool.false_ne_true, fun h => absurd h Bool.false_ne_true⟩
    · refine AllSP.cons ?_ (AllSP.cons ?_ (AllSP.cons ?_ AllSP.nil))
      · intro L s w2 h hk hd hn
        have s20 : s 20 = _ := hk 20 (by kernel_rfl)
        refine stepSP rfl fun K hK => ?_
        exact rs_field rfl s20 (fl_model0 _ _) (hK _ _ { h with e0 := fun _ => rfl })
      · intro L s w2 h hk hd hn
        have s150 := h.e0 hd.1
        have kb := ((h.mu.same _ ((Array.getElem?_eq_some_iff.1 HBK.out).1) (by simp)).trans HBK.out)
        refine stepSP rfl fun K hK => ?_
        exact rs_load rfl s150 (co_load kb HG.out.lT) (hK _ _ { h with e1 := fun _ => rfl })
      · intro L s w2 h hk hd hn
        refine stepSP rfl fun K hK => ?_
        exact rs_move rfl rfl (hK _ _ { h with e2 := fun _ => rfl })
    · intro L s w2 h hk hl
      refine (congrArg (fun a => Q2 .normal a w2) (?_ : _ = _)).mpr (hQ2 s w2 (⟨h.mu, h.e1 (hl 1 (by decide)), h.e2 (hl 2 (by decide))⟩))
      exact frame_eq hk (by kernel_rfl) (by kernel_rfl)
    · intro c s w2 hc
      exact hc.elim
  rotate_left
  · rintro _ _ _ h
    exact h.elim
  rintro s19 V ⟨h1, k151, k152⟩
  simp only [mergeL]
  rw [k151]
  rw [k152]
  replace HD := Lib.hid ((h1.same _ (lt_of_block HD.out) (by simp)).trans HD.out)
  replace HD2 := Lib.hid ((h1.same _ (lt_of_block HD2.out) (by simp)).trans HD2.out)
  replace HA := Lib.hid ((h1.same _ (lt_of_block HA.out) (by simp)).trans HA.out)
  replace HB := Lib.hid ((h1.same _ (lt_of_block HB.out) (by simp)).trans HB.out)
  replace HON := Lib.hid ((h1.same _ (lt_of_block HON.out) (by simp)).trans HON.out)
  replace HSA := Lib.hid ((h1.same _ (lt_of_block HSA.out) (by simp)).trans HSA.out)
  replace HX := Lib.hid ((h1.same _ (lt_of_block HX.out) (by simp)).trans HX.out)
  replace HYY := Lib.hid ((h1.same _ (lt_of_block HYY.out) (by simp)).trans HYY.out)
  replace HZ := Lib.hid ((h1.same _ (lt_of_block HZ.out) (by simp)).trans HZ.out)
  replace HS := Lib.hid ((h1.same _ (lt_of_block HS.out) (by simp)).trans HS.out)
  replace HBK := Lib.hid ((h1.same _ (lt_of_block HBK.out) (by simp)).trans HBK.out)
  replace HEV := Lib.hid ((h1.same _ (lt_of_block HEV.out) (by simp)).trans HEV.out)
  replace HBO := Lib.hid ((h1.same _ (lt_of_block HBO.out) (by simp)).trans HBO.out)
  replace HM := Lib.hid (HM.out.stepM h1 (by simp))
  clear h1 k151 k152
  refine HK19.out _ _ ?_
  go_wp2_with fail
  go_loopw [152] (fun x wr => ∃ k : Nat, k ≤ 21 ∧ x = .int .i64 k ∧ Hid (Mut [] V wr)) (fun x _ => 21 - (intOf x).toNat)
  case atStart => exact ⟨0, by omega, rfl, Lib.hid (Mut.refl _ _)⟩
  case round =>
    obtain ⟨k, hk, rfl, HG2⟩ := hrel
    replace HD := Lib.hid ((HG2.out.same _ (lt_of_block HD.out) (by simp)).trans HD.out)
    replace HD2 := Lib.hid ((HG2.out.same _ (lt_of_block HD2.out) (by simp)).trans HD2.out)
    replace HA := Lib.hid ((HG2.out.same _ (lt_of_block HA.out) (by simp)).trans HA.out)
    replace HB := Lib.hid ((HG2.out.same _ (lt_of_block HB.out) (by simp)).trans HB.out)
    replace HON := Lib.hid ((HG2.out.same _ (lt_of_block HON.out) (by simp)).trans HON.out)
    replace HSA := Lib.hid ((HG2.out.same _ (lt_of_block HSA.out) (by simp)).trans HSA.out)
    replace HX := Lib.hid ((HG2.out.same _ (lt_of_block HX.out) (by simp)).trans HX.out)
    replace HYY := Lib.hid ((HG2.out.same _ (lt_of_block HYY.out) (by simp)).trans HYY.out)
    replace HZ := Lib.hid ((HG2.out.same _ (lt_of_block HZ.out) (by simp)).trans HZ.out)
    replace HS := Lib.hid ((HG2.out.same _ (lt_of_block HS.out) (by simp)).trans HS.out)
    replace HBK := Lib.hid ((HG2.out.same _ (lt_of_block HBK.out) (by simp)).trans HBK.out)
    replace HEV := Lib.hid ((HG2.out.same _ (lt_of_block HEV.out) (by simp)).trans HEV.out)
    replace HBO := Lib.hid ((HG2.out.same _ (lt_of_block HBO.out) (by simp)).trans HBO.out)
    have HM0 := HM
    have hm2 := HM.out.trans HG2.out
    refine wp_world (fun U => Mut [] w U ∧ Mut [] V U ∧ U.heap[b]? = some (.cells #[.int .i16 c, .slice ao ts.length cap, .int .u16 r] 45 (0, 0)) ∧ U.heap[b + 1]? = some (.cells #[.int .i16 c2, .slice ao2 ts2.length cap2, .int .u16 r2] 45 (0, 0)) ∧ U.heap[g0]? = some (cobj 28 A) ∧ U.heap[g1]? = some (cobj 28 B) ∧ U.heap[g2]? = some (cobj 28 oneM) ∧ U.heap[g3]? = some (cobj 28 A) ∧ U.heap[g4]? = some (cobj 28 X) ∧ U.heap[g5]? = some (cobj 28 X) ∧ U.heap[g6]? = some (cobj 28 A) ∧ U.heap[g7]? = some (cobj 28 S) ∧ U.heap[g8]? = some (cobj 28 T) ∧ U.heap[g9]? = some (cobj 25 ([ev])) ∧ U.heap[g10]? = some (cobj 25 ([bo]))) ?_ ⟨hm2, HG2.out, HD.out, HD2.out, HA.out, HB.out, HON.out, HSA.out, HX.out, HYY.out, HZ.out, HS.out, HBK.out, HEV.out, HBO.out⟩
    clear hm2 HM0 HM HG2 HD HD2 HA HB HON HSA HX HYY HZ HS HBK HEV HBO
    rintro V ⟨q1, q2, qHD, qHD2, qHA, qHB, qHON, qHSA, qHX, qHYY, qHZ, qHS, qHBK, qHEV, qHBO⟩
    have HM := Lib.hid q1
    have HGM := Lib.hid q2
    have HD := Lib.hid qHD
    have HD2 := Lib.hid qHD2
    have HA := Lib.hid qHA
    have HB := Lib.hid qHB
    have HON := Lib.hid qHON
    have HSA := Lib.hid qHSA
    have HX := Lib.hid qHX
    have HYY := Lib.hid qHYY
    have HZ := Lib.hid qHZ
    have HS := Lib.hid qHS
    have HBK := Lib.hid qHBK
    have HEV := Lib.hid qHEV
    have HBO := Lib.hid qHBO
    clear q1 q2 qHD qHD2 qHA qHB qHON qHSA qHX qHYY qHZ qHS qHBK qHEV qHBO
    rcases Nat.lt_or_ge k 21 with hk' | hk'
    · have HKK := Lib.hid hk'
      have t1 : decide ((k : Int) < 21) = true := by simp; omega
      have k0 : (0 : Int) ≤ (k : Int) := by omega
      have k1 : (k : Int) < 21 := by omega
      clear hk hk'
      refine wp_seq_k fun K1 hK1 => ?_
      have HK1 := Lib.hid hK1
      clear hK1
      go_wp2_with fail
      refine HK1.out _ _ ?_
      refine wp_seq_k fun K2 hK2 => ?_
      have HK2 := Lib.hid hK2
      clear hK2
      go_wp2_with fail
      refine HK2.out _ _ ?_
      refine wp_seq_k fun K3 hK3 => ?_
      have HK3 := Lib.hid hK3
      clear hK3
      refine wp_block ?_
      refine wp_seq_k fun K21 hK21 => ?_
      have HK21 := Lib.hid hK21
      clear hK21
      refine wp_cut_mergeP [none, none, none, none, none, none, none, none, none, none, none, none, none, none, none, none, none, none, none, none, none, none, none, none, some 24, some 25, none, none, none, none, none, none, none, none, none, none, none, none, none, none, none, none, none, none, none, none, none, none, none, none, none, none, none, none, none, none, none, none, none, none, none, none, none, none, none, none, none, none, none, none, none, none, none, none, none, none, none, none, none, none, none, none, none, none, none, none, none, none, none, none, none, none, none, none, none, none, none, none, none, none, none, none, none, none, none, none, none, none, none, none, none, none, none, none, none, none, none, none, none, none, none, none, none, none, none, none, none, none, none, none, none, none, none, none, none, none, none, none, none, none, none, none, none, none, none, none, none, none, none, none, none, none, none, none, some 154, some 155, none, none, none, none, none, none, none, none, none, none, none, none, none, none, none, none, none, none, none, none, none, none, none, none, none, none, none, none, none, none, none, none, none, none, none] (fun s w' => Mut [] V w' ∧ (∃ g : Nat, s 25 = .pointer (some ⟨g, 0, none⟩) ∧ V.heap.size ≤ g ∧ w'.heap[g]? = some (cobj 25 [tAt T k])) ∧ s 24 = .int .i64 ((k : Nat) : Int)) (fun _ _ => False) ?_ ?_ ?_
      · intro Q2 hQ2 hP2
        refine (wpIn_wide (n := 0)).1 (show Code.wpIn (G none) 0 _ _ _ _ _ from ?_)
        refine wp_region_G (b := false) (Pn := (fun _ _ => False)) (Od21 V T k) (by kernel_rfl) (by kernel_rfl) ?_ ?_ ?_ ?_
        · exact ⟨Mut.start _ false _, fun h => absurd h Bool.false_ne_true, fun h => absurd h Bool.false_ne_true, fun h => absurd h Bool.false_ne_true, fun h => absurd h Bool.false_ne_true, fun h => absurd h Bool.false_ne_true⟩
        · refine AllSP.cons ?_ (AllSP.cons ?_ (AllSP.cons ?_ (AllSP.cons ?_ (AllSP.cons ?_ AllSP.nil))))
          · intro L s w2 h hk hd hn
            have s152 : s 152 = _ := hk 152 (by kernel_rfl)
            refine stepSP rfl fun K hK => ?_
            exact rs_move rfl s152 (hK _ _ { h with e0 := fun _ => rfl })
          · intro L s w2 h hk hd hn
            have s151 : s 151 = _ := hk 151 (by kernel_rfl)
            have s152 : s 152 = _ := hk 152 (by kernel_rfl)
            refine stepSP rfl fun K hK => ?_
            exact rs_idx rfl s151 s152 (ix_co HG.out.lT HKK.out _) (hK _ _ { h with e1 := fun _ => rfl })
          · intro L s w2 h hk hd hn
            refine stepSP rfl fun K hK => ?_
            go_simp
            exact hK _ _ { h with mu := h.mu.alloc _, al_cc := fun _ => ⟨_, rfl, h.mu.size, by simp, fun _ => heap_at _ rfl, fun a => absurd (h.b4_2 a) (by rw [hn]; exact Bool.false_ne_true)⟩, b4_2 := fun _ => rfl }
          · intro L s w2 h hk hd hn
            have s154 := h.e0 hd.1
            refine stepSP rfl fun K hK => ?_
            exact rs_assign rfl s154 (hK _ _ { h with e3 := fun _ => rfl })
          · intro L s w2 h hk hd hn
            have s155 := h.e1 hd.2.1
            obtain ⟨g, hg0, hg1, hgl, hg2, hg3⟩ := h.al_cc hd.1
            have kb := hg2 hn
            refine stepSP rfl fun K hK => ?_
            exact rs_store rfl hg0 s155 (sp_store (p := 0) kb (by simp) (tAt T k)) (hK _ _ { h with mu := h.mu.putNew hg1 _, al_cc := fun a => ⟨g, hg0, hg1, by simpa using hgl, nF, fun _ => pH kb⟩, b4_2 := fun _ => hd.1 })
        · intro L s w2 h hk hl
          refine (congrArg (fun a => Q2 .normal a w2) (?_ : _ = _)).mpr (hQ2 s w2 (⟨h.mu, (let ⟨g, h0, h1, _, _, h3⟩ := h.al_cc (hl 2 (by decide)); ⟨g, h0, h1, h3 (hl 4 (by decide))⟩), h.e3 (hl 3 (by decide))⟩))
          exact frame_eq hk (by kernel_rfl) (by kernel_rfl)
        · intro c s w2 hc
          exact hc.elim
      rotate_left
      · rintro _ _ _ h
        exact h.elim
      rintro s21 V ⟨h1, ⟨gc, k_cc, g_cc, c_cc⟩, k24⟩
      simp only [mergeL]
      rw [k_cc]
      rw [k24]
      replace HD := Lib.hid ((h1.same _ (lt_of_block HD.out) (by simp)).trans HD.out)
      replace HD2 := Lib.hid ((h1.same _ (lt_of_block HD2.out) (by simp)).trans HD2.out)
      replace HA := Lib.hid ((h1.same _ (lt_of_block HA.out) (by simp)).trans HA.out)
      replace HB := Lib.hid ((h1.same _ (lt_of_block HB.out) (by simp)).trans HB.out)
      replace HON := Lib.hid ((h1.same _ (lt_of_block HON.out) (by simp)).trans HON.out)
      replace HSA := Lib.hid ((h1.same _ (lt_of_block HSA.out) (by simp)).trans HSA.out)
      replace HX := Lib.hid ((h1.same _ (lt_of_block HX.out) (by simp)).trans HX.out)
      replace HYY := Lib.hid ((h1.same _ (lt_of_block HYY.out) (by simp)).trans HYY.out)
      replace HZ := Lib.hid ((h1.same _ (lt_of_block HZ.out) (by simp)).trans HZ.out)
      replace HS := Lib.hid ((h1.same _ (lt_of_block HS.out) (by simp)).trans HS.out)
      replace HBK := Lib.hid ((h1.same _ (lt_of_block HBK.out) (by simp)).trans HBK.out)
      replace HEV := Lib.hid ((h1.same _ (lt_of_block HEV.out) (by simp)).trans HEV.out)
      replace HBO := Lib.hid ((h1.same _ (lt_of_block HBO.out) (by simp)).trans HBO.out)
      have HCC := Lib.hid c_cc
      replace HM := Lib.hid (HM.out.stepM h1 (by simp))
      have HF5 := Lib.hid (HGM.out.trans h1)
      clear h1 k_cc g_cc c_cc k24
      refine HK21.out _ _ ?_
      refine wp_seq_k fun K22 hK22 => ?_
      have HK22 := Lib.hid hK22
      clear hK22
      refine wp_cut_mergeP [none, none, none, none, none, none, none, none, none, none, none, none, none, none, none, none, none, none, none, none, none, none, none, none, none, none, none, none, none, none, none, none, none, none, none, none, none, none, none, none, none, none, none, none, none, none, none, none, none, none, none, none, none, none, none, none, none, none, none, none, none, none, none, none, none, none, none, none, none, none, none, none, none, none, none, none, none, none, none, none, none, none, none, none, none, none, none, none, none, none, none, none, none, none, none, none, none, none, none, none, none, none, none, none, none, none, none, none, none, none, none, none, none, none, none, none, none, none, none, none, none, none, none, none, none, none, none, none, none, none, none, none, none, none, none, none, none, none, none, none, none, none, none, none, none, none, none, none, none, none, none, none, none, none, none, none, some 156, some 157, some 158, some 159, some 160, some 161, some 162, some 163, some 164, some 165, some 166, some 167, some 168, some 169, some 170, some 171, some 172, some 173, none, none, none, none, none, none, none, none, none, none, none, none, none, none, none, none, none] (fun s w' => Mut [] V w' ∧ s 173 = .bool false) (fun _ _ => False) ?_ ?_ ?_
      · intro Q2 hQ2 hP2
        refine (wpIn_wide (n := 0)).1 (show Code.wpIn (G none) 0 _ _ _ _ _ from ?_)
        refine wp_region_G (b := true) (Pn := (fun _ _ => False)) (Od22 V A T g0 k gc) (by kernel_rfl) (by kernel_rfl) ?_ ?_ ?_ ?_
        · exact ⟨Mut.start _ true _, fun h => absurd h Bool.false_ne_true, fun h => absurd h Bool.false_ne_true, fun h => absurd h Bool.false_ne_true, fun h => absurd h Bool.false_ne_true, fun h => absurd h Bool.false_ne_true, fun h => absurd h Bool.false_ne_true, fun h => absurd h Bool.false_ne_true, fun h => absurd h Bool.false_ne_true, fun h => absurd h Bool.false_ne_true, fun h => absurd h Bool.false_ne_true, fun h => absurd h Bool.false_ne_true, fun h => absurd h Bool.false_ne_true, fun h => absurd h Bool.false_ne_true, fun h => absurd h Bool.false_ne_true, fun h => absurd h Bool.false_ne_true, fun h => absurd h Bool.false_ne_true, fun h => absurd h Bool.false_ne_true, fun h => absurd h Bool.false_ne_true⟩
        · refine AllSP.cons ?_ (AllSP.cons ?_ (AllSP.cons ?_ (AllSP.cons ?_ (AllSP.cons ?_ (AllSP.cons ?_ (AllSP.cons ?_ (AllSP.cons ?_ (AllSP.cons ?_ (AllSP.cons ?_ (AllSP.cons ?_ (AllSP.cons ?_ (AllSP.cons ?_ (AllSP.cons ?_ (AllSP.cons ?_ (AllSP.cons ?_ (AllSP.cons ?_ (AllSP.cons ?_ AllSP.nil)))))))))))))))))
          · intro L s w2 h hk hd hn
            have s25 : s 25 = _ := hk 25 (by kernel_rfl)
            refine stepSP rfl fun K hK => ?_
            exact rs_field rfl s25 (fl_span0 _ 0 _) (hK _ _ { h with e0 := fun _ => rfl })
          · intro L s w2 h hk hd hn
            have s156 := h.e0 hd.1
            have kb := ((h.mu.same _ ((Array.getElem?_eq_some_iff.1 HCC.out).1) (by simp)).trans HCC.out)
            refine stepSP rfl fun K hK => ?_
            exact rs_load rfl s156 (ld_span0 (p := 0) kb (by simp)) (hK _ _ { h with e1 := fun _ => rfl })
          · intro L s w2 h hk hd hn
            have s24 : s 24 = _ := hk 24 (by kernel_rfl)
            refine stepSP rfl fun K hK => ?_
            exact rs_move rfl s24 (hK _ _ { h with e2 := fun _ => rfl })
          · intro L s w2 h hk hd hn
            have s9 : s 9 = _ := hk 9 (by kernel_rfl)
            refine stepSP rfl fun K hK => ?_
            exact rs_field rfl s9 (fl_model0 _ _) (hK _ _ { h with e3 := fun _ => rfl })
          · intro L s w2 h hk hd hn
            have s159 := h.e3 hd.1
            have s158 := h.e2 hd.2.1
            refine stepSP rfl fun K hK => ?_
            exact rs_index rfl s159 s158 (ix_model _ k (by have := HKK.out; omega)) (hK _ _ { h with e4 := fun _ => rfl })
          · intro L s w2 h hk hd hn
            have s160 := h.e4 hd.1
            refine stepSP rfl fun K hK => ?_
            exact rs_field rfl s160 (fl_span0 _ k _) (hK _ _ { h with e5 := fun _ => rfl })
          · intro L s w2 h hk hd hn
            have s161 := h.e5 hd.1
            have kb := ((h.mu.same _ ((Array.getElem?_eq_some_iff.1 HA.out).1) (by simp)).trans HA.out)
            refine stepSP rfl fun K hK => ?_
            exact rs_load rfl s161 (ld_span0 (p := k) kb (by have := HKK.out; have := HG.out.f.lenA; omega)) (hK _ _ { h with e6 := fun _ => rfl })
          · intro L s w2 h hk hd hn
            have s157 := h.e1 hd.1
            have s162 := h.e6 hd.2.1
            refine stepSP rfl fun K hK => ?_
            go_simp
            exact hK _ _ { h with e7 := fun _ => congrArg Value.bool (by have := (HG.out.back k).1; simp; omega) }
          · intro L s w2 h hk hd hn
            have s163 := h.e7 hd.1
            refine stepSP rfl fun K hK => ?_
            exact rs_move rfl s163 (hK _ _ { h with e8 := fun _ => rfl })
          · intro L s w2 h hk hd hn
            have gq := h.e8 hd.1
            have s25 : s 25 = _ := hk 25 (by kernel_rfl)
            refine stepSP (by simp [Region.wanted, yieldS, gq]) fun K hK => ?_
            exact rs_field rfl s25 (fl_span1 _ 0 _) (hK _ _ { h with e9 := fun _ => rfl })
          · intro L s w2 h hk hd hn
            have gq := h.e8 hd.2.1
            have s165 := h.e9 hd.1
            have kb := ((h.mu.same _ ((Array.getElem?_eq_some_iff.1 HCC.out).1) (by simp)).trans HCC.out)
            refine stepSP (by simp [Region.wanted, yieldS, gq]) fun K hK => ?_
            exact rs_load rfl s165 (ld_span1 (p := 0) kb (by simp)) (hK _ _ { h with e10 := fun _ => rfl })
          · intro L s w2 h hk hd hn
            have gq := h.e8 hd.1
            have s24 : s 24 = _ := hk 24 (by kernel_rfl)
            refine stepSP (by simp [Region.wanted, yieldS, gq]) fun K hK => ?_
            exact rs_move rfl s24 (hK _ _ { h with e11 := fun _ => rfl })
          · intro L s w2 h hk hd hn
            have gq := h.e8 hd.1
            have s9 : s 9 = _ := hk 9 (by kernel_rfl)
            refine stepSP (by simp [Region.wanted, yieldS, gq]) fun K hK => ?_
            exact rs_field rfl s9 (fl_model0 _ _) (hK _ _ { h with e12 := fun _ => rfl })
          · intro L s w2 h hk hd hn
            have gq := h.e8 hd.2.2.1
            have s168 := h.e12 hd.1
            have s167 := h.e11 hd.2.1
            refine stepSP (by simp [Region.wanted, yieldS, gq]) fun K hK => ?_
            exact rs_index rfl s168 s167 (ix_model _ k (by have := HKK.out; omega)) (hK _ _ { h with e13 := fun _ => rfl })
          · intro L s w2 h hk hd hn
            have gq := h.e8 hd.2.1
            have s169 := h.e13 hd.1
            refine stepSP (by simp [Region.wanted, yieldS, gq]) fun K hK => ?_
            exact rs_field rfl s169 (fl_span1 _ k _) (hK _ _ { h with e14 := fun _ => rfl })
          · intro L s w2 h hk hd hn
            have gq := h.e8 hd.2.1
            have s170 := h.e14 hd.1
            have kb := ((h.mu.same _ ((Array.getElem?_eq_some_iff.1 HA.out).1) (by simp)).trans HA.out)
            refine stepSP (by simp [Region.wanted, yieldS, gq]) fun K hK => ?_
            exact rs_load rfl s170 (ld_span1 (p := k) kb (by have := HKK.out; have := HG.out.f.lenA; omega)) (hK _ _ { h with e15 := fun _ => rfl })
          · intro L s w2 h hk hd hn
            have gq := h.e8 hd.2.2.1
            have s166 := h.e10 hd.1
            have s171 := h.e15 hd.2.1
            refine stepSP (by simp [Region.wanted, yieldS, gq]) fun K hK => ?_
            go_simp
            exact hK _ _ { h with e16 := fun _ => congrArg Value.bool (by have := (HG.out.back k).2; simp; omega) }
          · intro L s w2 h hk hd hn
            have s164 := h.e8 hd.1
            have s172 := h.e16 hd.2.1
            refine stepSP rfl fun K hK => ?_
            go_simp
            exact hK _ _ { h with e17 := fun _ => rfl }
        · intro L s w2 h hk hl
          refine (congrArg (fun a => Q2 .normal a w2) (?_ : _ = _)).mpr (hQ2 s w2 (⟨h.mu, h.e17 (hl 17 (by decide))⟩))
          exact frame_eq hk (by kernel_rfl) (by kernel_rfl)
        · intro c s w2 hc
          exact hc.elim
      rotate_left
      · rintro _ _ _ h
        exact h.elim
      rintro s22 V ⟨h1, k173⟩
      simp only [mergeL]
      rw [k173]
      replace HD := Lib.hid ((h1.same _ (lt_of_block HD.out) (by simp)).trans HD.out)
      replace HD2 := Lib.hid ((h1.same _ (lt_of_block HD2.out) (by simp)).trans HD2.out)
      replace HA := Lib.hid ((h1.same _ (lt_of_block HA.out) (by simp)).trans HA.out)
      replace HB := Lib.hid ((h1.same _ (lt_of_block HB.out) (by simp)).trans HB.out)
      replace HON := Lib.hid ((h1.same _ (lt_of_block HON.out) (by simp)).trans HON.out)
      replace HSA := Lib.hid ((h1.same _ (lt_of_block HSA.out) (by simp)).trans HSA.out)
      replace HX := Lib.hid ((h1.same _ (lt_of_block HX.out) (by simp)).trans HX.out)
      replace HYY := Lib.hid ((h1.same _ (lt_of_block HYY.out) (by simp)).trans HYY.out)
      replace HZ := Lib.hid ((h1.same _ (lt_of_block HZ.out) (by simp)).trans HZ.out)
      replace HS := Lib.hid ((h1.same _ (lt_of_block HS.out) (by simp)).trans HS.out)
      replace HBK := Lib.hid ((h1.same _ (lt_of_block HBK.out) (by simp)).trans HBK.out)
      replace HEV := Lib.hid ((h1.same _ (lt_of_block HEV.out) (by simp)).trans HEV.out)
      replace HBO := Lib.hid ((h1.same _ (lt_of_block HBO.out) (by simp)).trans HBO.out)
      replace HCC := Lib.hid ((h1.same _ (lt_of_block HCC.out) (by simp)).trans HCC.out)
      replace HM := Lib.hid (HM.out.stepM h1 (by simp))
      have HF6 := Lib.hid (HF5.out.trans h1)
      clear h1 k173
      refine HK22.out _ _ ?_
      go_wp2_with fail
      refine HK3.out _ _ ?_
      go_wp2_with fail
      go_roundw
      case rel => first | exact ⟨k + 1, by have := HKK.out; omega, by go_num, HF6⟩ | ((repeat apply Exists.intro); exact ⟨⟨k + 1, by have := HKK.out; omega, by go_num, HF6⟩, rfl⟩)
      case measure => simp [intOf]; have := HKK.out; omega
    · obtain rfl : k = 21 := by omega
      clear hk hk' HGM
      go_wp2_with fail
      refine HKE.out _ _ ?_
      refine wp_seq_k fun K25 hK25 => ?_
      have HK25 := Lib.hid hK25
      clear hK25
      refine wp_cut_mergeP [none, none, none, none, none, none, none, none, some 8, none, none, none, none, none, none, none, none, none, none, none, none, none, none, none, none, none, none, none, none, none, none, none, none, none, none, none, none, none, none, none, none, none, none, none, none, none, none, none, none, none, none, none, none, none, none, none, none, none, none, none, none, none, none, none, none, none, none, none, none, none, none, none, none, none, none, none, none, none, none, none, none, none, none, none, none, none, none, none, none, none, none, none, none, none, none, none, none, none, none, none, none, none, none, none, none, none, none, none, none, none, none, none, none, none, none, none, none, none, none, none, none, none, none, none, none, none, none, none, none, none, none, none, none, none, none, none, none, none, none, none, none, none, none, none, none, none, none, none, none, none, none, none, none, none, none, none, none, none, none, none, none, none, none, none, none, none, none, none, none, none, none, none, none, none, none, some 175, some 176, some 177, some 178, some 179, some 180, some 181, some 182, some 183, some 184, some 185, some 186, some 187, some 188, some 189, some 190] (fun s w' => Mut [] V w' ∧ s 8 = .bool true) (fun _ _ => False) ?_ ?_ ?_
      · intro Q2 hQ2 hP2
        refine (wpIn_wide (n := 0)).1 (show Code.wpIn (G none) 0 _ _ _ _ _ from ?_)
        refine wp_region_G (b := false) (Pn := (fun _ _ => False)) (Od25 V A T g0 g8) (by kernel_rfl) (by kernel_rfl) ?_ ?_ ?_ ?_
        · exact ⟨Mut.start _ false _, fun h => absurd h Bool.false_ne_true, fun h => absurd h Bool.false_ne_true, fun h => absurd h Bool.false_ne_true, fun h => absurd h Bool.false_ne_true, fun h => absurd h Bool.false_ne_true, fun h => absurd h Bool.false_ne_true, fun h => absurd h Bool.false_ne_true, fun h => absurd h Bool.false_ne_true, fun h => absurd h Bool.false_ne_true, fun h => absurd h Bool.false_ne_true, fun h => absurd h Bool.false_ne_true, fun h => absurd h Bool.false_ne_true, fun h => absurd h Bool.false_ne_true, fun h => absurd h Bool.false_ne_true, fun h => absurd h Bool.false_ne_true, fun h => absurd h Bool.false_ne_true, fun h => absurd h Bool.false_ne_true⟩
        · refine AllSP.cons ?_ (AllSP.cons ?_ (AllSP.cons ?_ (AllSP.cons ?_ (AllSP.cons ?_ (AllSP.cons ?_ (AllSP.cons ?_ (AllSP.cons ?_ (AllSP.cons ?_ (AllSP.cons ?_ (AllSP.cons ?_ (AllSP.cons ?_ (AllSP.cons ?_ (AllSP.cons ?_ (AllSP.cons ?_ (AllSP.cons ?_ (AllSP.cons ?_ AllSP.nil))))))))))))))))
          · intro L s w2 h hk hd hn
            have s20 : s 20 = _ := hk 20 (by kernel_rfl)
            refine stepSP rfl fun K hK => ?_
            exact rs_field rfl s20 (fl_model1 _ _) (hK _ _ { h with e0 := fun _ => rfl })
          · intro L s w2 h hk hd hn
            have s175 := h.e0 hd.1
            refine stepSP rfl fun K hK => ?_
            exact rs_field rfl s175 (fl_span0 _ 21 _) (hK _ _ { h with e1 := fun _ => rfl })
          · intro L s w2 h hk hd hn
            have s176 := h.e1 hd.1
            have kb := ((h.mu.same _ ((Array.getElem?_eq_some_iff.1 HBK.out).1) (by simp)).trans HBK.out)
            refine stepSP rfl fun K hK => ?_
            exact rs_load rfl s176 (ld_span0 (p := 21) kb (by have := (HG.out.lT : T.length = 22); omega)) (hK _ _ { h with e2 := fun _ => rfl })
          · intro L s w2 h hk hd hn
            have s9 : s 9 = _ := hk 9 (by kernel_rfl)
            refine stepSP rfl fun K hK => ?_
            exact rs_field rfl s9 (fl_model1 _ _) (hK _ _ { h with e3 := fun _ => rfl })
          · intro L s w2 h hk hd hn
            have s178 := h.e3 hd.1
            refine stepSP rfl fun K hK => ?_
            exact rs_field rfl s178 (fl_span0 _ 21 _) (hK _ _ { h with e4 := fun _ => rfl })
          · intro L s w2 h hk hd hn
            have s179 := h.e4 hd.1
            have kb := ((h.mu.same _ ((Array.getElem?_eq_some_iff.1 HA.out).1) (by simp)).trans HA.out)
            refine stepSP rfl fun K hK => ?_
            exact rs_load rfl s179 (ld_span0 (p := 21) kb (by have := (HG.out.f.lenA : A.length = 22); omega)) (hK _ _ { h with e5 := fun _ => rfl })
          · intro L s w2 h hk hd hn
            have s177 := h.e2 hd.1
            have s180 := h.e5 hd.2.1
            refine stepSP rfl fun K hK => ?_
            go_simp
            exact hK _ _ { h with e6 := fun _ => congrArg Value.bool (by have := (HG.out.back 21).1; simp; omega) }
          · intro L s w2 h hk hd hn
            have s181 := h.e6 hd.1
            refine stepSP rfl fun K hK => ?_
            exact rs_move rfl s181 (hK _ _ { h with e7 := fun _ => rfl })
          · intro L s w2 h hk hd hn
            have gq := h.e7 hd.1
            have s20 : s 20 = _ := hk 20 (by kernel_rfl)
            refine stepSP (by simp [Region.wanted, yieldS, gq]) fun K hK => ?_
            exact rs_field rfl s20 (fl_model1 _ _) (hK _ _ { h with e8 := fun _ => rfl })
          · intro L s w2 h hk hd hn
            have gq := h.e7 hd.2.1
            have s183 := h.e8 hd.1
            refine stepSP (by simp [Region.wanted, yieldS, gq]) fun K hK => ?_
            exact rs_field rfl s183 (fl_span1 _ 21 _) (hK _ _ { h with e9 := fun _ => rfl })
          · intro L s w2 h hk hd hn
            have gq := h.e7 hd.2.1
            have s184 := h.e9 hd.1
            have kb := ((h.mu.same _ ((Array.getElem?_eq_some_iff.1 HBK.out).1) (by simp)).trans HBK.out)
            refine stepSP (by simp [Region.wanted, yieldS, gq]) fun K hK => ?_
            exact rs_load rfl s184 (ld_span1 (p := 21) kb (by have := (HG.out.lT : T.length = 22); omega)) (hK _ _ { h with e10 := fun _ => rfl })
          · intro L s w2 h hk hd hn
            have gq := h.e7 hd.1
            have s9 : s 9 = _ := hk 9 (by kernel_rfl)
            refine stepSP (by simp [Region.wanted, yieldS, gq]) fun K hK => ?_
            exact rs_field rfl s9 (fl_model1 _ _) (hK _ _ { h with e11 := fun _ => rfl })
          · intro L s w2 h hk hd hn
            have gq := h.e7 hd.2.1
            have s186 := h.e11 hd.1
            refine stepSP (by simp [Region.wanted, yieldS, gq]) fun K hK => ?_
            exact rs_field rfl s186 (fl_span1 _ 21 _) (hK _ _ { h with e12 := fun _ => rfl })
          · intro L s w2 h hk hd hn
            have gq := h.e7 hd.2.1
            have s187 := h.e12 hd.1
            have kb := ((h.mu.same _ ((Array.getElem?_eq_some_iff.1 HA.out).1) (by simp)).trans HA.out)
            refine stepSP (by simp [Region.wanted, yieldS, gq]) fun K hK => ?_
            exact rs_load rfl s187 (ld_span1 (p := 21) kb (by have := (HG.out.f.lenA : A.length = 22); omega)) (hK _ _ { h with e13 := fun _ => rfl })
          · intro L s w2 h hk hd hn
            have gq := h.e7 hd.2.2.1
            have s185 := h.e10 hd.1
            have s188 := h.e13 hd.2.1
            refine stepSP (by simp [Region.wanted, yieldS, gq]) fun K hK => ?_
            go_simp
            exact hK _ _ { h with e14 := fun _ => congrArg Value.bool (by have := (HG.out.back 21).2; simp; omega) }
          · intro L s w2 h hk hd hn
            have s182 := h.e7 hd.1
            have s189 := h.e14 hd.2.1
            refine stepSP rfl fun K hK => ?_
            go_simp
            exact hK _ _ { h with e15 := fun _ => rfl }
          · intro L s w2 h hk hd hn
            have s190 := h.e15 hd.1
            refine stepSP rfl fun K hK => ?_
            exact rs_assign rfl s190 (hK _ _ { h with e16 := fun _ => rfl })
        · intro L s w2 h hk hl
          refine (congrArg (fun a => Q2 .normal a w2) (?_ : _ = _)).mpr (hQ2 s w2 (⟨h.mu, h.e16 (hl 16 (by decide))⟩))
          exact frame_eq hk (by kernel_rfl) (by kernel_rfl)
        · intro c s w2 hc
          exact hc.elim
      rotate_left
      · rintro _ _ _ h
        exact h.elim
      rintro s25 V ⟨h1, k8⟩
      simp only [mergeL]
      rw [k8]
      replace HD := Lib.hid ((h1.same _ (lt_of_block HD.out) (by simp)).trans HD.out)
      replace HD2 := Lib.hid ((h1.same _ (lt_of_block HD2.out) (by simp)).trans HD2.out)
      replace HA := Lib.hid ((h1.same _ (lt_of_block HA.out) (by simp)).trans HA.out)
      replace HB := Lib.hid ((h1.same _ (lt_of_block HB.out) (by simp)).trans HB.out)
      replace HON := Lib.hid ((h1.same _ (lt_of_block HON.out) (by simp)).trans HON.out)
      replace HSA := Lib.hid ((h1.same _ (lt_of_block HSA.out) (by simp)).trans HSA.out)
      replace HX := Lib.hid ((h1.same _ (lt_of_block HX.out) (by simp)).trans HX.out)
      replace HYY := Lib.hid ((h1.same _ (lt_of_block HYY.out) (by simp)).trans HYY.out)
      replace HZ := Lib.hid ((h1.same _ (lt_of_block HZ.out) (by simp)).trans HZ.out)
      replace HS := Lib.hid ((h1.same _ (lt_of_block HS.out) (by simp)).trans HS.out)
      replace HBK := Lib.hid ((h1.same _ (lt_of_block HBK.out) (by simp)).trans HBK.out)
      replace HEV := Lib.hid ((h1.same _ (lt_of_block HEV.out) (by simp)).trans HEV.out)
      replace HBO := Lib.hid ((h1.same _ (lt_of_block HBO.out) (by simp)).trans HBO.out)
      replace HM := Lib.hid (HM.out.stepM h1 (by simp))
      clear h1 k8
      refine HK25.out _ _ ?_
      refine wp_ret ?_
      exact bodyPost_ret (v := .bool true) (by simp [results, Try.results5, go_sem]) rfl ⟨rfl, by rw [← HBW.out]; exact HM.out.to0⟩
end Go.Proofs.Ythhkcfpljgdnhaa
