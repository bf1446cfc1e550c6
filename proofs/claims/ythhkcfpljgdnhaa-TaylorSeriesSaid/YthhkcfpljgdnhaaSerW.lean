/- Plain: what TaylorSeries computes, t from -8 to 8. Printed by wip/genSer.py. -/
import Derived.Test.YthhkcfpljgdnhaaSerA0
import Derived.Test.YthhkcfpljgdnhaaSerA1
import Derived.Test.YthhkcfpljgdnhaaSerA2
import Derived.Test.YthhkcfpljgdnhaaSerA3
import Derived.Test.YthhkcfpljgdnhaaSerA4
import Derived.Test.YthhkcfpljgdnhaaSerA5
import Derived.Test.YthhkcfpljgdnhaaSerA6
import Derived.Test.YthhkcfpljgdnhaaLawYW
namespace Go.Proofs.Ythhkcfpljgdnhaa
open Mnc
theorem ser_all (t : Int) (h : -8 ≤ t ∧ t ≤ 8) : ∃ A B e w l s, Ser t A B e w l s := by
  obtain rfl | rfl | rfl | rfl | rfl | rfl | rfl | rfl | rfl | rfl | rfl | rfl | rfl | rfl | rfl | rfl | rfl : t = -8 ∨ t = -7 ∨ t = -6 ∨ t = -5 ∨ t = -4 ∨ t = -3 ∨ t = -2 ∨ t = -1 ∨ t = 0 ∨ t = 1 ∨ t = 2 ∨ t = 3 ∨ t = 4 ∨ t = 5 ∨ t = 6 ∨ t = 7 ∨ t = 8 := by omega
  · exact ⟨_, _, _, _, _, _, ser0⟩
  · exact ⟨_, _, _, _, _, _, ser1⟩
  · exact ⟨_, _, _, _, _, _, ser2⟩
  · exact ⟨_, _, _, _, _, _, ser3⟩
  · exact ⟨_, _, _, _, _, _, ser4⟩
  · exact ⟨_, _, _, _, _, _, ser5⟩
  · exact ⟨_, _, _, _, _, _, ser6⟩
  · exact ⟨_, _, _, _, _, _, ser7⟩
  · exact ⟨_, _, _, _, _, _, ser8⟩
  · exact ⟨_, _, _, _, _, _, ser9⟩
  · exact ⟨_, _, _, _, _, _, ser10⟩
  · exact ⟨_, _, _, _, _, _, ser11⟩
  · exact ⟨_, _, _, _, _, _, ser12⟩
  · exact ⟨_, _, _, _, _, _, ser13⟩
  · exact ⟨_, _, _, _, _, _, ser14⟩
  · exact ⟨_, _, _, _, _, _, ser15⟩
  · exact ⟨_, _, _, _, _, _, ser16⟩
end Go.Proofs.Ythhkcfpljgdnhaa

/- The walk of monoclelaw21.TaylorSeries. Printed by wip/genSer.py. -/
namespace Go.Proofs.Ythhkcfpljgdnhaa
open Go.RowKit Mnc
attribute [local go_sem] RunSP_value RunSP_skip RunSP_enter evS_tmp evS_const evS_global evS_func
theorem gSqrt {a m : List (Int × Int)} {n : Int} (ha : a.length = 22) (h : xSqrt a = (m, n)) (w : World) : Calls Try.prog 9 #[mval a] w fun e w' => e = .returned (.tuple #[mval m, .int .i64 n]) ∧ Below w.heap.size w w' := by
  have h2 := taw_Sqrt a ha w
  rw [h] at h2
  exact h2
theorem gEval {a : List (Int × Int)} {u v m : Int × Int} (ha : a.length = 22) (hr : (tRight a).2 = 0) (hu : okU u) (hv : okU v) (h : tEval a u v = (m, 0)) (w : World) : Calls Try.prog 11 #[mval a, sval u, sval v] w fun e w' => e = .returned (.tuple #[sval m, .int .i64 0]) ∧ Below w.heap.size w w' := by
  have h2 := taw_Eval a u v ha hr hu hv w
  rw [show xEval a u v = (m, 0) by unfold xEval; rw [h]; rfl] at h2
  exact h2
theorem gMulS {x y m : Int × Int} {n : Int} (h : sMul x y = (m, n)) (w : World) : Calls Try.prog 13 #[sval x, sval y] w fun e w' => e = .returned (.tuple #[sval m, .int .i64 n]) ∧ Below w.heap.size w w' := by
  have h2 := tm_mul x y w
  rw [h] at h2
  exact h2
theorem gSqr {x m : Int × Int} {n : Int} (h : sPow x 2 = (m, n)) (w : World) : Calls Try.prog 14 #[sval x] w fun e w' => e = .returned (.tuple #[sval m, .int .i64 n]) ∧ Below w.heap.size w w' := by
  have h2 := span_Sqr x w
  rw [h] at h2
  exact h2
theorem gHas (s : Int × Int) (n : Int) (h1 : s.1 ≤ n) (h2 : n ≤ s.2) (w : World) : Calls Try.prog 10 #[sval s, .int .i64 n] w fun e w' => e = .returned (.bool true) ∧ Below w.heap.size w w' := law21_has s n h1 h2 w
theorem okU_pt {n : Int} (h : -4294967296 ≤ n ∧ n ≤ 4294967296) : okU (n, n) := by
  unfold okU okS
  simp only
  omega
theorem wr_bi {n : Nat} {p : Int} (hn : n < 6) (h : -4294967296 ≤ p ∧ p ≤ 4294967296) : IntKind.i64.wrap (biT n * p) = biT n * p ∧ IntKind.i64.wrap ((biT n * p).tdiv 256) = (biT n * p).tdiv 256 := by
  have h2 : -1099511627776 ≤ biT n * p ∧ biT n * p ≤ 1099511627776 := by
    obtain rfl | rfl | rfl | rfl | rfl | rfl : n = 0 ∨ n = 1 ∨ n = 2 ∨ n = 3 ∨ n = 4 ∨ n = 5 := by omega
    all_goals
      simp [biT]
      omega
  generalize biT n * p = x at *
  constructor
  · simp [IntKind.wrap, IntKind.bits, IntKind.signed]
    omega
  · have h3 := Int.mul_tdiv_add_tmod x 256
    have h4 : -256 < x.tmod 256 ∧ x.tmod 256 < 256 := by
      have := Int.tmod_lt_of_pos x (show (0 : Int) < 256 by decide)
      have := Int.lt_tmod_of_pos x (show (0 : Int) < 256 by decide)
      omega
    generalize x.tdiv 256 = y at *
    generalize x.tmod 256 = z at *
    simp [IntKind.wrap, IntKind.bits, IntKind.signed]
    omega
theorem wr_sub {t : Int} (h : -8 ≤ t ∧ t ≤ 8) : IntKind.i64.wrap (4294967296 - t * 268435456) = 4294967296 - t * 268435456 := by
  simp [IntKind.wrap, IntKind.bits, IntKind.signed]
  omega
theorem wr_pt {t p : Int} (h : -8 ≤ t ∧ t ≤ 8) (hp : -4294967296 ≤ p ∧ p ≤ 4294967296) : IntKind.i64.wrap (p * t) = p * t ∧ IntKind.i64.wrap ((p * t).tdiv 16) = (p * t).tdiv 16 := by
  have h2 : -34359738368 ≤ p * t ∧ p * t ≤ 34359738368 := by
    obtain rfl | rfl | rfl | rfl | rfl | rfl | rfl | rfl | rfl | rfl | rfl | rfl | rfl | rfl | rfl | rfl | rfl : t = -8 ∨ t = -7 ∨ t = -6 ∨ t = -5 ∨ t = -4 ∨ t = -3 ∨ t = -2 ∨ t = -1 ∨ t = 0 ∨ t = 1 ∨ t = 2 ∨ t = 3 ∨ t = 4 ∨ t = 5 ∨ t = 6 ∨ t = 7 ∨ t = 8 := by omega
    all_goals omega
  generalize p * t = x at *
  constructor
  · simp [IntKind.wrap, IntKind.bits, IntKind.signed]
    omega
  · have h3 := Int.mul_tdiv_add_tmod x 16
    have h4 : -16 < x.tmod 16 ∧ x.tmod 16 < 16 := by
      have := Int.tmod_lt_of_pos x (show (0 : Int) < 16 by decide)
      have := Int.lt_tmod_of_pos x (show (0 : Int) < 16 by decide)
      omega
    generalize x.tdiv 16 = y at *
    generalize x.tmod 16 = z at *
    simp [IntKind.wrap, IntKind.bits, IntKind.signed]
    omega
theorem ser_n0 {t : Int} {A B : List (Int × Int)} {e w l s : Int × Int} (H : Ser t A B e w l s) : (tAt A 0).1 ≤ pwT t 0 ∧ pwT t 0 ≤ (tAt A 0).2 ∧ (tAt B 0).1 ≤ pwT t 0 ∧ pwT t 0 ≤ (tAt B 0).2 ∧ -4294967296 ≤ pwT t 0 ∧ pwT t 0 ≤ 4294967296 := by
  have h := H.n 0
  rw [show biT (0 : Fin 6).1 = 256 from by decide, Int.mul_tdiv_cancel_left _ (by decide)] at h
  exact h
theorem ser_n1 {t : Int} {A B : List (Int × Int)} {e w l s : Int × Int} (H : Ser t A B e w l s) : (tAt A 2).1 ≤ pwT t 1 ∧ pwT t 1 ≤ (tAt A 2).2 ∧ (tAt B 2).1 ≤ (128 * pwT t 1).tdiv 256 ∧ (128 * pwT t 1).tdiv 256 ≤ (tAt B 2).2 ∧ -4294967296 ≤ pwT t 1 ∧ pwT t 1 ≤ 4294967296 := by
  have h := H.n 1
  rw [show biT (1 : Fin 6).1 = 128 from by decide] at h
  exact h
theorem ser_n2 {t : Int} {A B : List (Int × Int)} {e w l s : Int × Int} (H : Ser t A B e w l s) : (tAt A 5).1 ≤ pwT t 2 ∧ pwT t 2 ≤ (tAt A 5).2 ∧ (tAt B 5).1 ≤ ((-32) * pwT t 2).tdiv 256 ∧ ((-32) * pwT t 2).tdiv 256 ≤ (tAt B 5).2 ∧ -4294967296 ≤ pwT t 2 ∧ pwT t 2 ≤ 4294967296 := by
  have h := H.n 2
  rw [show biT (2 : Fin 6).1 = (-32) from by decide] at h
  exact h
theorem ser_n3 {t : Int} {A B : List (Int × Int)} {e w l s : Int × Int} (H : Ser t A B e w l s) : (tAt A 9).1 ≤ pwT t 3 ∧ pwT t 3 ≤ (tAt A 9).2 ∧ (tAt B 9).1 ≤ (16 * pwT t 3).tdiv 256 ∧ (16 * pwT t 3).tdiv 256 ≤ (tAt B 9).2 ∧ -4294967296 ≤ pwT t 3 ∧ pwT t 3 ≤ 4294967296 := by
  have h := H.n 3
  rw [show biT (3 : Fin 6).1 = 16 from by decide] at h
  exact h
theorem ser_n4 {t : Int} {A B : List (Int × Int)} {e w l s : Int × Int} (H : Ser t A B e w l s) : (tAt A 14).1 ≤ pwT t 4 ∧ pwT t 4 ≤ (tAt A 14).2 ∧ (tAt B 14).1 ≤ ((-10) * pwT t 4).tdiv 256 ∧ ((-10) * pwT t 4).tdiv 256 ≤ (tAt B 14).2 ∧ -4294967296 ≤ pwT t 4 ∧ pwT t 4 ≤ 4294967296 := by
  have h := H.n 4
  rw [show biT (4 : Fin 6).1 = (-10) from by decide] at h
  exact h
theorem ser_n5 {t : Int} {A B : List (Int × Int)} {e w l s : Int × Int} (H : Ser t A B e w l s) : (tAt A 20).1 ≤ pwT t 5 ∧ pwT t 5 ≤ (tAt A 20).2 ∧ (tAt B 20).1 ≤ (7 * pwT t 5).tdiv 256 ∧ (7 * pwT t 5).tdiv 256 ≤ (tAt B 20).2 ∧ -4294967296 ≤ pwT t 5 ∧ pwT t 5 ≤ 4294967296 := by
  have h := H.n 5
  rw [show biT (5 : Fin 6).1 = 7 from by decide] at h
  exact h
theorem wr_i64 {x : Int} (h : -9000000000000000000 ≤ x ∧ x ≤ 9000000000000000000) : IntKind.i64.wrap x = x := by
  simp [IntKind.wrap, IntKind.bits, IntKind.signed]
  omega
theorem wr_neg {t : Int} (h : -8 ≤ t ∧ t ≤ 8) : IntKind.i64.wrap (-t) = -t := by
  simp [IntKind.wrap, IntKind.bits, IntKind.signed]
  omega
theorem tmod9 (k : Int) : -8 ≤ k.tmod 9 ∧ k.tmod 9 ≤ 8 := by
  have := Int.tmod_lt_of_pos k (show (0 : Int) < 9 by decide)
  have := Int.lt_tmod_of_pos k (show (0 : Int) < 9 by decide)
  omega
theorem wr_t {t : Int} (h : -8 ≤ t ∧ t ≤ 8) : IntKind.i8.wrap t = t ∧ IntKind.i64.wrap t = t := by
  constructor <;>
  · simp [IntKind.wrap, IntKind.bits, IntKind.signed]
    omega
structure Sr4 (V : World) (k : Int) (t : Int) (A : List (Int × Int)) (B : List (Int × Int)) (ee : (Int × Int)) (ww : (Int × Int)) (ll : (Int × Int)) (sq0 : (Int × Int)) (b : Nat) (L : Nat → Bool) (s : Nat → Value) (w : World) : Prop where
  mu : Mut [] V w
  e0 : L 0 = true → s 26 = .int .i64 t
  e1 : L 1 = true → s 27 = .int .i64 (-t)
  e2 : L 2 = true → s 28 = mval (tLine (-t))
  e3 : L 3 = true → s 29 = .tuple #[mval A, .int .i64 0]
  e4 : L 4 = true → s 25 = .tuple #[mval A, .int .i64 0]
  e5 : L 5 = true → s 30 = mval A
  e6 : L 6 = true → s 31 = .int .i64 0
  al_a : L 7 = true → ∃ g : Nat, s 4 = .pointer (some ⟨g, 0, none⟩) ∧ V.heap.size ≤ g ∧ g < w.heap.size ∧ (L 8 = false → w.heap[g]? = some (cobj 28 zeroM)) ∧ (L 8 = true → w.heap[g]? = some (cobj 28 A))
  e9 : L 9 = true → s 5 = .int .i64 0
  b8_7 : L 8 = true → L 7 = true
structure Sr5 (V : World) (k : Int) (t : Int) (A : List (Int × Int)) (B : List (Int × Int)) (ee : (Int × Int)) (ww : (Int × Int)) (ll : (Int × Int)) (sq0 : (Int × Int)) (b : Nat) (g0 : Nat) (L : Nat → Bool) (s : Nat → Value) (w : World) : Prop where
  mu : Mut [] V w
  e0 : L 0 = true → s 33 = .int .i64 t
  e1 : L 1 = true → s 34 = mval (tLine t)
  e2 : L 2 = true → s 35 = .tuple #[mval B, .int .i64 0]
  e3 : L 3 = true → s 32 = .tuple #[mval B, .int .i64 0]
  e4 : L 4 = true → s 36 = mval B
  e5 : L 5 = true → s 37 = .int .i64 0
  al_bb : L 6 = true → ∃ g : Nat, s 6 = .pointer (some ⟨g, 0, none⟩) ∧ V.heap.size ≤ g ∧ g < w.heap.size ∧ (L 7 = false → w.heap[g]? = some (cobj 28 zeroM)) ∧ (L 7 = true → w.heap[g]? = some (cobj 28 B))
  e8 : L 8 = true → s 7 = .int .i64 0
  b7_6 : L 7 = true → L 6 = true
structure Sr14_0 (V : World) (t pp : Int) (A B : List (Int × Int)) (g0 g1 g2 b : Nat) (L : Nat → Bool) (s : Nat → Value) (w : World) : Prop where
  mu : Mut [] V w
  e0 : L 0 = true → s 55 = .int .i64 ((0 : Nat) : Int)
  e1 : L 1 = true → s 56 = .pointer (some ⟨g0, 0, none⟩)
  e2 : L 2 = true → s 57 = .pointer (some ⟨g0, 0 * 2, none⟩)
  e3 : L 3 = true → s 58 = sval (tAt A 0)
  e4 : L 4 = true → s 59 = .int .i64 pp
  e5 : L 5 = true → s 60 = .bool true
  e6 : L 6 = true → s 61 = .bool false
  e7 : L 7 = true → s 62 = .bool false
  e8 : L 8 = true → s 63 = .int .i64 ((0 : Nat) : Int)
  e9 : L 9 = true → s 64 = .pointer (some ⟨g1, 0, none⟩)
  e10 : L 10 = true → s 65 = .pointer (some ⟨g1, 0 * 2, none⟩)
  e11 : L 11 = true → s 66 = sval (tAt B 0)
  e12 : L 12 = true → s 67 = .int .i64 ((0 : Nat) : Int)
  e13 : L 13 = true → s 68 = .pointer (some ⟨g2, 0, none⟩)
  e14 : L 14 = true → s 69 = .int .i64 256
  e15 : L 15 = true → s 70 = .int .i64 pp
  e16 : L 16 = true → s 71 = .int .i64 (256 * pp)
  e17 : L 17 = true → s 72 = .int .i64 pp
  e18 : L 18 = true → s 73 = .bool true
  e19 : L 19 = true → s 74 = .bool false
  e20 : L 20 = true → s 75 = .bool false
structure Sr14_1 (V : World) (t pp : Int) (A B : List (Int × Int)) (g0 g1 g2 b : Nat) (L : Nat → Bool) (s : Nat → Value) (w : World) : Prop where
  mu : Mut [] V w
  e0 : L 0 = true → s 55 = .int .i64 ((2 : Nat) : Int)
  e1 : L 1 = true → s 56 = .pointer (some ⟨g0, 0, none⟩)
  e2 : L 2 = true → s 57 = .pointer (some ⟨g0, 2 * 2, none⟩)
  e3 : L 3 = true → s 58 = sval (tAt A 2)
  e4 : L 4 = true → s 59 = .int .i64 pp
  e5 : L 5 = true → s 60 = .bool true
  e6 : L 6 = true → s 61 = .bool false
  e7 : L 7 = true → s 62 = .bool false
  e8 : L 8 = true → s 63 = .int .i64 ((2 : Nat) : Int)
  e9 : L 9 = true → s 64 = .pointer (some ⟨g1, 0, none⟩)
  e10 : L 10 = true → s 65 = .pointer (some ⟨g1, 2 * 2, none⟩)
  e11 : L 11 = true → s 66 = sval (tAt B 2)
  e12 : L 12 = true → s 67 = .int .i64 ((1 : Nat) : Int)
  e13 : L 13 = true → s 68 = .pointer (some ⟨g2, 1, none⟩)
  e14 : L 14 = true → s 69 = .int .i64 128
  e15 : L 15 = true → s 70 = .int .i64 pp
  e16 : L 16 = true → s 71 = .int .i64 (128 * pp)
  e17 : L 17 = true → s 72 = .int .i64 ((128 * pp).tdiv 256)
  e18 : L 18 = true → s 73 = .bool true
  e19 : L 19 = true → s 74 = .bool false
  e20 : L 20 = true → s 75 = .bool false
structure Sr14_2 (V : World) (t pp : Int) (A B : List (Int × Int)) (g0 g1 g2 b : Nat) (L : Nat → Bool) (s : Nat → Value) (w : World) : Prop where
  mu : Mut [] V w
  e0 : L 0 = true → s 55 = .int .i64 ((5 : Nat) : Int)
  e1 : L 1 = true → s 56 = .pointer (some ⟨g0, 0, none⟩)
  e2 : L 2 = true → s 57 = .pointer (some ⟨g0, 5 * 2, none⟩)
  e3 : L 3 = true → s 58 = sval (tAt A 5)
  e4 : L 4 = true → s 59 = .int .i64 pp
  e5 : L 5 = true → s 60 = .bool true
  e6 : L 6 = true → s 61 = .bool false
  e7 : L 7 = true → s 62 = .bool false
  e8 : L 8 = true → s 63 = .int .i64 ((5 : Nat) : Int)
  e9 : L 9 = true → s 64 = .pointer (some ⟨g1, 0, none⟩)
  e10 : L 10 = true → s 65 = .pointer (some ⟨g1, 5 * 2, none⟩)
  e11 : L 11 = true → s 66 = sval (tAt B 5)
  e12 : L 12 = true → s 67 = .int .i64 ((2 : Nat) : Int)
  e13 : L 13 = true → s 68 = .pointer (some ⟨g2, 2, none⟩)
  e14 : L 14 = true → s 69 = .int .i64 (-32)
  e15 : L 15 = true → s 70 = .int .i64 pp
  e16 : L 16 = true → s 71 = .int .i64 ((-32) * pp)
  e17 : L 17 = true → s 72 = .int .i64 (((-32) * pp).tdiv 256)
  e18 : L 18 = true → s 73 = .bool true
  e19 : L 19 = true → s 74 = .bool false
  e20 : L 20 = true → s 75 = .bool false
structure Sr14_3 (V : World) (t pp : Int) (A B : List (Int × Int)) (g0 g1 g2 b : Nat) (L : Nat → Bool) (s : Nat → Value) (w : World) : Prop where
  mu : Mut [] V w
  e0 : L 0 = true → s 55 = .int .i64 ((9 : Nat) : Int)
  e1 : L 1 = true → s 56 = .pointer (some ⟨g0, 0, none⟩)
  e2 : L 2 = true → s 57 = .pointer (some ⟨g0, 9 * 2, none⟩)
  e3 : L 3 = true → s 58 = sval (tAt A 9)
  e4 : L 4 = true → s 59 = .int .i64 pp
  e5 : L 5 = true → s 60 = .bool true
  e6 : L 6 = true → s 61 = .bool false
  e7 : L 7 = true → s 62 = .bool false
  e8 : L 8 = true → s 63 = .int .i64 ((9 : Nat) : Int)
  e9 : L 9 = true → s 64 = .pointer (some ⟨g1, 0, none⟩)
  e10 : L 10 = true → s 65 = .pointer (some ⟨g1, 9 * 2, none⟩)
  e11 : L 11 = true → s 66 = sval (tAt B 9)
  e12 : L 12 = true → s 67 = .int .i64 ((3 : Nat) : Int)
  e13 : L 13 = true → s 68 = .pointer (some ⟨g2, 3, none⟩)
  e14 : L 14 = true → s 69 = .int .i64 16
  e15 : L 15 = true → s 70 = .int .i64 pp
  e16 : L 16 = true → s 71 = .int .i64 (16 * pp)
  e17 : L 17 = true → s 72 = .int .i64 ((16 * pp).tdiv 256)
  e18 : L 18 = true → s 73 = .bool true
  e19 : L 19 = true → s 74 = .bool false
  e20 : L 20 = true → s 75 = .bool false
structure Sr14_4 (V : World) (t pp : Int) (A B : List (Int × Int)) (g0 g1 g2 b : Nat) (L : Nat → Bool) (s : Nat → Value) (w : World) : Prop where
  mu : Mut [] V w
  e0 : L 0 = true → s 55 = .int .i64 ((14 : Nat) : Int)
  e1 : L 1 = true → s 56 = .pointer (some ⟨g0, 0, none⟩)
  e2 : L 2 = true → s 57 = .pointer (some ⟨g0, 14 * 2, none⟩)
  e3 : L 3 = true → s 58 = sval (tAt A 14)
  e4 : L 4 = true → s 59 = .int .i64 pp
  e5 : L 5 = true → s 60 = .bool true
  e6 : L 6 = true → s 61 = .bool false
  e7 : L 7 = true → s 62 = .bool false
  e8 : L 8 = true → s 63 = .int .i64 ((14 : Nat) : Int)
  e9 : L 9 = true → s 64 = .pointer (some ⟨g1, 0, none⟩)
  e10 : L 10 = true → s 65 = .pointer (some ⟨g1, 14 * 2, none⟩)
  e11 : L 11 = true → s 66 = sval (tAt B 14)
  e12 : L 12 = true → s 67 = .int .i64 ((4 : Nat) : Int)
  e13 : L 13 = true → s 68 = .pointer (some ⟨g2, 4, none⟩)
  e14 : L 14 = true → s 69 = .int .i64 (-10)
  e15 : L 15 = true → s 70 = .int .i64 pp
  e16 : L 16 = true → s 71 = .int .i64 ((-10) * pp)
  e17 : L 17 = true → s 72 = .int .i64 (((-10) * pp).tdiv 256)
  e18 : L 18 = true → s 73 = .bool true
  e19 : L 19 = true → s 74 = .bool false
  e20 : L 20 = true → s 75 = .bool false
structure Sr14_5 (V : World) (t pp : Int) (A B : List (Int × Int)) (g0 g1 g2 b : Nat) (L : Nat → Bool) (s : Nat → Value) (w : World) : Prop where
  mu : Mut [] V w
  e0 : L 0 = true → s 55 = .int .i64 ((20 : Nat) : Int)
  e1 : L 1 = true → s 56 = .pointer (some ⟨g0, 0, none⟩)
  e2 : L 2 = true → s 57 = .pointer (some ⟨g0, 20 * 2, none⟩)
  e3 : L 3 = true → s 58 = sval (tAt A 20)
  e4 : L 4 = true → s 59 = .int .i64 pp
  e5 : L 5 = true → s 60 = .bool true
  e6 : L 6 = true → s 61 = .bool false
  e7 : L 7 = true → s 62 = .bool false
  e8 : L 8 = true → s 63 = .int .i64 ((20 : Nat) : Int)
  e9 : L 9 = true → s 64 = .pointer (some ⟨g1, 0, none⟩)
  e10 : L 10 = true → s 65 = .pointer (some ⟨g1, 20 * 2, none⟩)
  e11 : L 11 = true → s 66 = sval (tAt B 20)
  e12 : L 12 = true → s 67 = .int .i64 ((5 : Nat) : Int)
  e13 : L 13 = true → s 68 = .pointer (some ⟨g2, 5, none⟩)
  e14 : L 14 = true → s 69 = .int .i64 7
  e15 : L 15 = true → s 70 = .int .i64 pp
  e16 : L 16 = true → s 71 = .int .i64 (7 * pp)
  e17 : L 17 = true → s 72 = .int .i64 ((7 * pp).tdiv 256)
  e18 : L 18 = true → s 73 = .bool true
  e19 : L 19 = true → s 74 = .bool false
  e20 : L 20 = true → s 75 = .bool false
structure Sr18 (V : World) (k : Int) (t : Int) (A : List (Int × Int)) (B : List (Int × Int)) (ee : (Int × Int)) (ww : (Int × Int)) (ll : (Int × Int)) (sq0 : (Int × Int)) (b : Nat) (g0 : Nat) (g1 : Nat) (g2 : Nat) (L : Nat → Bool) (s : Nat → Value) (w : World) : Prop where
  mu : Mut [] V w
  e0 : L 0 = true → s 82 = mval A
  e1 : L 1 = true → s 83 = sval (4294967296, 4294967296)
  e2 : L 2 = true → s 84 = sval (0, 0)
  e3 : L 3 = true → s 85 = .tuple #[sval ee, .int .i64 0]
  e4 : L 4 = true → s 81 = .tuple #[sval ee, .int .i64 0]
  e5 : L 5 = true → s 86 = sval ee
  e6 : L 6 = true → s 87 = .int .i64 0
  al_en : L 7 = true → ∃ g : Nat, s 12 = .pointer (some ⟨g, 0, none⟩) ∧ V.heap.size ≤ g ∧ g < w.heap.size ∧ (L 8 = false → w.heap[g]? = some (cobj 25 [(0, 0)])) ∧ (L 8 = true → w.heap[g]? = some (cobj 25 [ee]))
  e9 : L 9 = true → s 13 = .int .i64 0
  b8_7 : L 8 = true → L 7 = true
structure Sr19 (V : World) (k : Int) (t : Int) (A : List (Int × Int)) (B : List (Int × Int)) (ee : (Int × Int)) (ww : (Int × Int)) (ll : (Int × Int)) (sq0 : (Int × Int)) (b : Nat) (g0 : Nat) (g1 : Nat) (g2 : Nat) (g3 : Nat) (L : Nat → Bool) (s : Nat → Value) (w : World) : Prop where
  mu : Mut [] V w
  e0 : L 0 = true → s 89 = sval ee
  e1 : L 1 = true → s 90 = .int .i64 t
  e2 : L 2 = true → s 91 = .int .i64 (t * 4294967296)
  e3 : L 3 = true → s 92 = .int .i64 (t * 268435456)
  e4 : L 4 = true → s 93 = .int .i64 (4294967296 - t * 268435456)
  e5 : L 5 = true → s 94 = sval (4294967296 - t * 268435456, 4294967296 - t * 268435456)
  e6 : L 6 = true → s 95 = .tuple #[sval ww, .int .i64 0]
  e7 : L 7 = true → s 88 = .tuple #[sval ww, .int .i64 0]
  e8 : L 8 = true → s 96 = sval ww
  e9 : L 9 = true → s 97 = .int .i64 0
  al_wh : L 10 = true → ∃ g : Nat, s 14 = .pointer (some ⟨g, 0, none⟩) ∧ V.heap.size ≤ g ∧ g < w.heap.size ∧ (L 11 = false → w.heap[g]? = some (cobj 25 [(0, 0)])) ∧ (L 11 = true → w.heap[g]? = some (cobj 25 [ww]))
  e12 : L 12 = true → s 15 = .int .i64 0
  b11_10 : L 11 = true → L 10 = true
structure Sr20 (V : World) (k : Int) (t : Int) (A : List (Int × Int)) (B : List (Int × Int)) (ee : (Int × Int)) (ww : (Int × Int)) (ll : (Int × Int)) (sq0 : (Int × Int)) (b : Nat) (g0 : Nat) (g1 : Nat) (g2 : Nat) (g3 : Nat) (g4 : Nat) (L : Nat → Bool) (s : Nat → Value) (w : World) : Prop where
  mu : Mut [] V w
  e0 : L 0 = true → s 99 = mval B
  e1 : L 1 = true → s 100 = sval (-4294967296, -4294967296)
  e2 : L 2 = true → s 101 = sval (0, 0)
  e3 : L 3 = true → s 102 = .tuple #[sval ll, .int .i64 0]
  e4 : L 4 = true → s 98 = .tuple #[sval ll, .int .i64 0]
  e5 : L 5 = true → s 103 = sval ll
  e6 : L 6 = true → s 104 = .int .i64 0
  al_lf : L 7 = true → ∃ g : Nat, s 16 = .pointer (some ⟨g, 0, none⟩) ∧ V.heap.size ≤ g ∧ g < w.heap.size ∧ (L 8 = false → w.heap[g]? = some (cobj 25 [(0, 0)])) ∧ (L 8 = true → w.heap[g]? = some (cobj 25 [ll]))
  e9 : L 9 = true → s 17 = .int .i64 0
  b8_7 : L 8 = true → L 7 = true
structure Sr21 (V : World) (k : Int) (t : Int) (A : List (Int × Int)) (B : List (Int × Int)) (ee : (Int × Int)) (ww : (Int × Int)) (ll : (Int × Int)) (sq0 : (Int × Int)) (b : Nat) (g0 : Nat) (g1 : Nat) (g2 : Nat) (g3 : Nat) (g4 : Nat) (g5 : Nat) (L : Nat → Bool) (s : Nat → Value) (w : World) : Prop where
  mu : Mut [] V w
  e0 : L 0 = true → s 106 = sval ll
  e1 : L 1 = true → s 107 = .tuple #[sval sq0, .int .i64 0]
  e2 : L 2 = true → s 105 = .tuple #[sval sq0, .int .i64 0]
  e3 : L 3 = true → s 108 = sval sq0
  e4 : L 4 = true → s 109 = .int .i64 0
  al_sq : L 5 = true → ∃ g : Nat, s 18 = .pointer (some ⟨g, 0, none⟩) ∧ V.heap.size ≤ g ∧ g < w.heap.size ∧ (L 6 = false → w.heap[g]? = some (cobj 25 [(0, 0)])) ∧ (L 6 = true → w.heap[g]? = some (cobj 25 [sq0]))
  e7 : L 7 = true → s 19 = .int .i64 0
  b6_5 : L 6 = true → L 5 = true
structure Sr22 (V : World) (k : Int) (t : Int) (A : List (Int × Int)) (B : List (Int × Int)) (ee : (Int × Int)) (ww : (Int × Int)) (ll : (Int × Int)) (sq0 : (Int × Int)) (b : Nat) (g0 : Nat) (g1 : Nat) (g2 : Nat) (g3 : Nat) (g4 : Nat) (g5 : Nat) (g6 : Nat) (L : Nat → Bool) (s : Nat → Value) (w : World) : Prop where
  mu : Mut [] V w
  e0 : L 0 = true → s 110 = .int .i64 0
  e1 : L 1 = true → s 111 = .bool true
  e2 : L 2 = true → s 112 = .bool true
  e3 : L 3 = true → s 113 = .int .i64 0
  e4 : L 4 = true → s 114 = .bool true
  e5 : L 5 = true → s 115 = .bool true
  e6 : L 6 = true → s 116 = .bool true
  e7 : L 7 = true → s 117 = .int .i64 0
  e8 : L 8 = true → s 118 = .bool true
  e9 : L 9 = true → s 119 = .bool true
  e10 : L 10 = true → s 120 = .bool true
  e11 : L 11 = true → s 121 = .int .i64 0
  e12 : L 12 = true → s 122 = .bool true
  e13 : L 13 = true → s 123 = .bool true
  e14 : L 14 = true → s 124 = .bool true
  e15 : L 15 = true → s 125 = sval ww
  e16 : L 16 = true → s 126 = .bool true
  e17 : L 17 = true → s 127 = .bool true
  e18 : L 18 = true → s 128 = .bool true
  e19 : L 19 = true → s 129 = sval sq0
  e20 : L 20 = true → s 130 = .int .i64 t
  e21 : L 21 = true → s 131 = .int .i64 (t * 4294967296)
  e22 : L 22 = true → s 132 = .int .i64 (t * 268435456)
  e23 : L 23 = true → s 133 = .int .i64 (4294967296 - t * 268435456)
  e24 : L 24 = true → s 134 = .bool true
  e25 : L 25 = true → s 135 = .bool true
  e26 : L 26 = true → s 2 = .bool true
set_option maxRecDepth 100000 in
set_option maxHeartbeats 8000000 in
theorem taylorSeries_walk (k : Int) (w : World) : Calls Try.prog 3 #[.int .i8 k] w fun e w' => e = .returned (.bool true) ∧ Below w.heap.size w w' := by
  have HT0 := Lib.hid (tmod9 k)
  obtain ⟨A, B, ee, ww, ll, sq0, hser⟩ := ser_all (k.tmod 9) (tmod9 k)
  have e1 := (wr_t HT0.out).1
  have e2 := (wr_t HT0.out).2
  go_enter Try.func3, Try.ntmps3
  refine wp_seq_k fun K0 hK0 => ?_
  have HK0 := Lib.hid hK0
  clear hK0
  go_wp2_with fail
  refine HK0.out _ _ ?_
  refine wp_seq_k fun KA hKA => ?_
  have HKA := Lib.hid hKA
  clear hKA
  go_wp2_with (refine (law21_works _).mono ?_; rintro e V ⟨rfl, hb⟩)
  refine HKA.out _ _ ?_
  refine wp_seq_k fun KR hKR => ?_
  have HKR := Lib.hid hKR
  clear hKR
  go_wp2_with fail
  refine HKR.out _ _ ?_
  obtain ⟨t, ht⟩ : ∃ t, k.tmod 9 = t := ⟨_, rfl⟩
  rw [ht] at hser HT0 ⊢
  have HT := Lib.hid HT0.out
  have HSER := Lib.hid hser
  have HM := Lib.hid ((Mut.refl [] w).step hb)
  obtain ⟨b, hbw⟩ : ∃ b, w.heap.size = b := ⟨_, rfl⟩
  rw [hbw]
  have HBW := Lib.hid hbw
  have HLT := Lib.hid trivial
  clear hb hbw e1 e2 ht hser HT0 HK0 HKA HKR
  refine wp_seq_k fun K4 hK4 => ?_
  have HK4 := Lib.hid hK4
  clear hK4
  refine wp_cut_mergeP [none, none, none, none, some 4, some 5, none, none, none, none, none, none, none, none, none, none, none, none, none, none, none, none, none, none, none, some 25, some 26, some 27, some 28, some 29, some 30, some 31, none, none, none, none, none, none, none, none, none, none, none, none, none, none, none, none, none, none, none, none, none, none, none, none, none, none, none, none, none, none, none, none, none, none, none, none, none, none, none, none, none, none, none, none, none, none, none, none, none, none, none, none, none, none, none, none, none, none, none, none, none, none, none, none, none, none, none, none, none, none, none, none, none, none, none, none, none, none, none, none, none, none, none, none, none, none, none, none, none, none, none, none, none, none, none, none, none, none, none, none, none, none, none, none] (fun s w' => Mut [] V w' ∧ (∃ g : Nat, s 4 = .pointer (some ⟨g, 0, none⟩) ∧ V.heap.size ≤ g ∧ w'.heap[g]? = some (cobj 28 A)) ∧ s 5 = .int .i64 0) (fun _ _ => False) ?_ ?_ ?_
  · intro Q2 hQ2 hP2
    refine (wpIn_wide (n := 0)).1 (show Code.wpIn (G none) 0 _ _ _ _ _ from ?_)
    refine wp_region_G (b := false) (Pn := (fun _ _ => False)) (Sr4 V k t A B ee ww ll sq0 b) (by kernel_rfl) (by kernel_rfl) ?_ ?_ ?_ ?_
    · exact ⟨Mut.start _ false _, fun h => absurd h Bool.false_ne_true, fun h => absurd h Bool.false_ne_true, fun h => absurd h Bool.false_ne_true, fun h => absurd h Bool.false_ne_true, fun h => absurd h Bool.false_ne_true, fun h => absurd h Bool.false_ne_true, fun h => absurd h Bool.false_ne_true, fun h => absurd h Bool.false_ne_true, fun h => absurd h Bool.false_ne_true, fun h => absurd h Bool.false_ne_true⟩
    · refine AllSP.cons ?_ (AllSP.cons ?_ (AllSP.cons ?_ (AllSP.cons ?_ (AllSP.cons ?_ (AllSP.cons ?_ (AllSP.cons ?_ (AllSP.cons ?_ (AllSP.cons ?_ (AllSP.cons ?_ AllSP.nil)))))))))
      · intro L s w2 h hk hd hn
        have s3 : s 3 = _ := hk 3 (by kernel_rfl)
        refine stepSP rfl fun K hK => ?_
        exact rs_move rfl s3 (hK _ _ { h with e0 := fun _ => rfl })
      · intro L s w2 h hk hd hn
        have s26 := h.e0 hd.1
        have e1 := wr_neg HT.out
        refine stepSP rfl fun K hK => ?_
        go_simp
        exact hK _ _ { h with e1 := fun _ => rfl }
      · intro L s w2 h hk hd hn
        have s27 := h.e1 hd.1
        refine stepSP rfl fun K hK => ?_
        go_simp
        refine (law21_line (-t) (by have := HT.out; omega) _).mono ?_
        rintro e w3 ⟨rfl, hb⟩
        exact .inl ⟨_, rfl, hK _ _ { h with mu := h.mu.step hb, al_a := fun a => let ⟨g, h0, h1, hl, h2, h3⟩ := h.al_a a; ⟨g, h0, h1, Nat.lt_of_lt_of_le hl hb.size, fun c => (hb.block _ (lt_of_block (h2 c))).trans (h2 c), fun c => (hb.block _ (lt_of_block (h3 c))).trans (h3 c)⟩, e2 := fun _ => rfl }⟩
      · intro L s w2 h hk hd hn
        have s28 := h.e2 hd.1
        refine stepSP rfl fun K hK => ?_
        go_simp
        refine (gInverse (tLine_len _) HSER.out.hA _).mono ?_
        rintro e w3 ⟨rfl, hb⟩
        exact .inl ⟨_, rfl, hK _ _ { h with mu := h.mu.step hb, al_a := fun a => let ⟨g, h0, h1, hl, h2, h3⟩ := h.al_a a; ⟨g, h0, h1, Nat.lt_of_lt_of_le hl hb.size, fun c => (hb.block _ (lt_of_block (h2 c))).trans (h2 c), fun c => (hb.block _ (lt_of_block (h3 c))).trans (h3 c)⟩, e3 := fun _ => rfl }⟩
      · intro L s w2 h hk hd hn
        have s29 := h.e3 hd.1
        refine stepSP rfl fun K hK => ?_
        exact rs_move rfl s29 (hK _ _ { h with e4 := fun _ => rfl })
      · intro L s w2 h hk hd hn
        have s25 := h.e4 hd.1
        refine stepSP rfl fun K hK => ?_
        exact rs_extract rfl s25 rfl (hK _ _ { h with e5 := fun _ => rfl })
      · intro L s w2 h hk hd hn
        have s25 := h.e4 hd.1
        refine stepSP rfl fun K hK => ?_
        exact rs_extract rfl s25 rfl (hK _ _ { h with e6 := fun _ => rfl })
      · intro L s w2 h hk hd hn
        refine stepSP rfl fun K hK => ?_
        go_simp
        exact hK _ _ { h with mu := h.mu.alloc _, al_a := fun _ => ⟨_, rfl, h.mu.size, by simp, fun _ => heap_at _ rfl, fun a => absurd (h.b8_7 a) (by rw [hn]; exact Bool.false_ne_true)⟩, b8_7 := fun _ => rfl }
      · intro L s w2 h hk hd hn
        have s30 := h.e5 hd.2.1
        obtain ⟨g, hg0, hg1, hgl, hg2, hg3⟩ := h.al_a hd.1
        have kb := hg2 hn
        refine stepSP rfl fun K hK => ?_
        exact rs_store rfl hg0 s30 (md_store kb rfl _ HSER.out.lA) (hK _ _ { h with mu := h.mu.putNew hg1 _, al_a := fun a => ⟨g, hg0, hg1, by simpa using hgl, nF, fun _ => pH kb⟩, b8_7 := fun _ => hd.1 })
      · intro L s w2 h hk hd hn
        have s31 := h.e6 hd.1
        refine stepSP rfl fun K hK => ?_
        exact rs_assign rfl s31 (hK _ _ { h with e9 := fun _ => rfl })
    · intro L s w2 h hk hl
      refine (congrArg (fun a => Q2 .normal a w2) (?_ : _ = _)).mpr (hQ2 s w2 (⟨h.mu, (let ⟨g, h0, h1, _, _, h3⟩ := h.al_a (hl 7 (by decide)); ⟨g, h0, h1, h3 (hl 8 (by decide))⟩), h.e9 (hl 9 (by decide))⟩))
      exact frame_eq hk (by kernel_rfl) (by kernel_rfl)
    · intro c s w2 hc
      exact hc.elim
  rotate_left
  · rintro _ _ _ h
    exact h.elim
  rintro s4 V ⟨h1, ⟨g0, k_a, g_a, c_a⟩, k5⟩
  simp only [mergeL]
  rw [k_a]
  rw [k5]
  replace HLT := Lib.hid (show b ≤ g0 from by
    have hlt := HLT.out
    have hbw := HM.out.size
    have hbw2 := HBW.out
    omega)
  have HA := Lib.hid c_a
  replace HM := Lib.hid (HM.out.stepM h1 (by simp))
  clear h1 k_a g_a c_a k5
  refine HK4.out _ _ ?_
  refine wp_seq_k fun K5 hK5 => ?_
  have HK5 := Lib.hid hK5
  clear hK5
  refine wp_cut_mergeP [none, none, none, none, none, none, some 6, some 7, none, none, none, none, none, none, none, none, none, none, none, none, none, none, none, none, none, none, none, none, none, none, none, none, some 32, some 33, some 34, some 35, some 36, some 37, none, none, none, none, none, none, none, none, none, none, none, none, none, none, none, none, none, none, none, none, none, none, none, none, none, none, none, none, none, none, none, none, none, none, none, none, none, none, none, none, none, none, none, none, none, none, none, none, none, none, none, none, none, none, none, none, none, none, none, none, none, none, none, none, none, none, none, none, none, none, none, none, none, none, none, none, none, none, none, none, none, none, none, none, none, none, none, none, none, none, none, none, none, none, none, none, none, none] (fun s w' => Mut [] V w' ∧ (∃ g : Nat, s 6 = .pointer (some ⟨g, 0, none⟩) ∧ V.heap.size ≤ g ∧ w'.heap[g]? = some (cobj 28 B)) ∧ s 7 = .int .i64 0) (fun _ _ => False) ?_ ?_ ?_
  · intro Q2 hQ2 hP2
    refine (wpIn_wide (n := 0)).1 (show Code.wpIn (G none) 0 _ _ _ _ _ from ?_)
    refine wp_region_G (b := false) (Pn := (fun _ _ => False)) (Sr5 V k t A B ee ww ll sq0 b g0) (by kernel_rfl) (by kernel_rfl) ?_ ?_ ?_ ?_
    · exact ⟨Mut.start _ false _, fun h => absurd h Bool.false_ne_true, fun h => absurd h Bool.false_ne_true, fun h => absurd h Bool.false_ne_true, fun h => absurd h Bool.false_ne_true, fun h => absurd h Bool.false_ne_true, fun h => absurd h Bool.false_ne_true, fun h => absurd h Bool.false_ne_true, fun h => absurd h Bool.false_ne_true, fun h => absurd h Bool.false_ne_true⟩
    · refine AllSP.cons ?_ (AllSP.cons ?_ (AllSP.cons ?_ (AllSP.cons ?_ (AllSP.cons ?_ (AllSP.cons ?_ (AllSP.cons ?_ (AllSP.cons ?_ (AllSP.cons ?_ AllSP.nil))))))))
      · intro L s w2 h hk hd hn
        have s3 : s 3 = _ := hk 3 (by kernel_rfl)
        refine stepSP rfl fun K hK => ?_
        exact rs_move rfl s3 (hK _ _ { h with e0 := fun _ => rfl })
      · intro L s w2 h hk hd hn
        have s33 := h.e0 hd.1
        refine stepSP rfl fun K hK => ?_
        go_simp
        refine (law21_line t (by have := HT.out; omega) _).mono ?_
        rintro e w3 ⟨rfl, hb⟩
        exact .inl ⟨_, rfl, hK _ _ { h with mu := h.mu.step hb, al_bb := fun a => let ⟨g, h0, h1, hl, h2, h3⟩ := h.al_bb a; ⟨g, h0, h1, Nat.lt_of_lt_of_le hl hb.size, fun c => (hb.block _ (lt_of_block (h2 c))).trans (h2 c), fun c => (hb.block _ (lt_of_block (h3 c))).trans (h3 c)⟩, e1 := fun _ => rfl }⟩
      · intro L s w2 h hk hd hn
        have s34 := h.e1 hd.1
        refine stepSP rfl fun K hK => ?_
        go_simp
        refine (gSqrt (tLine_len _) HSER.out.hB _).mono ?_
        rintro e w3 ⟨rfl, hb⟩
        exact .inl ⟨_, rfl, hK _ _ { h with mu := h.mu.step hb, al_bb := fun a => let ⟨g, h0, h1, hl, h2, h3⟩ := h.al_bb a; ⟨g, h0, h1, Nat.lt_of_lt_of_le hl hb.size, fun c => (hb.block _ (lt_of_block (h2 c))).trans (h2 c), fun c => (hb.block _ (lt_of_block (h3 c))).trans (h3 c)⟩, e2 := fun _ => rfl }⟩
      · intro L s w2 h hk hd hn
        have s35 := h.e2 hd.1
        refine stepSP rfl fun K hK => ?_
        exact rs_move rfl s35 (hK _ _ { h with e3 := fun _ => rfl })
      · intro L s w2 h hk hd hn
        have s32 := h.e3 hd.1
        refine stepSP rfl fun K hK => ?_
        exact rs_extract rfl s32 rfl (hK _ _ { h with e4 := fun _ => rfl })
      · intro L s w2 h hk hd hn
        have s32 := h.e3 hd.1
        refine stepSP rfl fun K hK => ?_
        exact rs_extract rfl s32 rfl (hK _ _ { h with e5 := fun _ => rfl })
      · intro L s w2 h hk hd hn
        refine stepSP rfl fun K hK => ?_
        go_simp
        exact hK _ _ { h with mu := h.mu.alloc _, al_bb := fun _ => ⟨_, rfl, h.mu.size, by simp, fun _ => heap_at _ rfl, fun a => absurd (h.b7_6 a) (by rw [hn]; exact Bool.false_ne_true)⟩, b7_6 := fun _ => rfl }
      · intro L s w2 h hk hd hn
        have s36 := h.e4 hd.2.1
        obtain ⟨g, hg0, hg1, hgl, hg2, hg3⟩ := h.al_bb hd.1
        have kb := hg2 hn
        refine stepSP rfl fun K hK => ?_
        exact rs_store rfl hg0 s36 (md_store kb rfl _ HSER.out.lB) (hK _ _ { h with mu := h.mu.putNew hg1 _, al_bb := fun a => ⟨g, hg0, hg1, by simpa using hgl, nF, fun _ => pH kb⟩, b7_6 := fun _ => hd.1 })
      · intro L s w2 h hk hd hn
        have s37 := h.e5 hd.1
        refine stepSP rfl fun K hK => ?_
        exact rs_assign rfl s37 (hK _ _ { h with e8 := fun _ => rfl })
    · intro L s w2 h hk hl
      refine (congrArg (fun a => Q2 .normal a w2) (?_ : _ = _)).mpr (hQ2 s w2 (⟨h.mu, (let ⟨g, h0, h1, _, _, h3⟩ := h.al_bb (hl 6 (by decide)); ⟨g, h0, h1, h3 (hl 7 (by decide))⟩), h.e8 (hl 8 (by decide))⟩))
      exact frame_eq hk (by kernel_rfl) (by kernel_rfl)
    · intro c s w2 hc
      exact hc.elim
  rotate_left
  · rintro _ _ _ h
    exact h.elim
  rintro s5 V ⟨h1, ⟨g1, k_bb, g_bb, c_bb⟩, k7⟩
  simp only [mergeL]
  rw [k_bb]
  rw [k7]
  replace HLT := Lib.hid (show b ≤ g1 ∧ g0 < g1 ∧ b ≤ g0 from by
    have hlt := HLT.out
    have hbw := HM.out.size
    have hbw2 := HBW.out
    have := lt_of_block HA.out
    omega)
  replace HA := Lib.hid ((h1.same _ (lt_of_block HA.out) (by simp)).trans HA.out)
  have HB := Lib.hid c_bb
  replace HM := Lib.hid (HM.out.stepM h1 (by simp))
  clear h1 k_bb g_bb c_bb k7
  refine HK5.out _ _ ?_
  refine wp_seq_k fun KB hKB => ?_
  have HKB := Lib.hid hKB
  clear hKB
  go_wp2_with fail
  refine HKB.out _ _ ?_
  refine wp_seq_k fun K8 hK8 => ?_
  have HK8 := Lib.hid hK8
  clear hK8
  go_wp2_with fail
  refine HK8.out _ _ ?_
  refine wp_seq_k fun K9 hK9 => ?_
  have HK9 := Lib.hid hK9
  clear hK9
  go_wp2_with fail
  refine HK9.out _ _ ?_
  obtain ⟨g2, hg⟩ : ∃ g, V.heap.size = g := ⟨_, rfl⟩
  refine wp_world (fun V2 => Mut [] w V2 ∧ b ≤ g2 ∧ V2.heap[g0]? = some (cobj 28 A) ∧ V2.heap[g1]? = some (cobj 28 B) ∧ V2.heap[g2]? = some (.cells #[.int .i64 256, .int .i64 128, .int .i64 (-32), .int .i64 16, .int .i64 (-10), .int .i64 7] 33 (0, 0))) ?_
    (by
      rw [← hg]
      exact ⟨HM.out.alloc _, by have := HM.out.size; have := HBW.out; omega, heap_up _ HA.out, heap_up _ HB.out, heap_at (.cells #[.int .i64 256, .int .i64 128, .int .i64 (-32), .int .i64 16, .int .i64 (-10), .int .i64 7] 33 (0, 0)) (by simp)⟩)
  replace HLT := Lib.hid (show b ≤ g2 ∧ g0 < g2 ∧ g1 < g2 ∧ b ≤ g1 ∧ g0 < g1 ∧ b ≤ g0 from by
    have hlt := HLT.out
    have hbw := HM.out.size
    have hbw2 := HBW.out
    have := lt_of_block HA.out
    have := lt_of_block HB.out
    omega)
  rintro V2 ⟨hm, -, qHA, qHB, hnew⟩
  rw [hg]
  replace HM := Lib.hid hm
  replace HA := Lib.hid qHA
  replace HB := Lib.hid qHB
  have HBI := Lib.hid hnew
  clear hm hnew hg qHA qHB HK9
  clear V
  rename World => V
  refine wp_seq_k fun KC hKC => ?_
  have HKC := Lib.hid hKC
  clear hKC
  go_wp2_with fail
  go_loopw [45, 8] (fun x y wr => ∃ n : Nat, n ≤ 6 ∧ x = .int .i64 n ∧ y = .int .i64 (pwT t n) ∧ Hid (Mut [] V wr)) (fun x _ _ => 6 - (intOf x).toNat)
  case atStart => exact ⟨0, by omega, rfl, rfl, Lib.hid (Mut.refl _ _)⟩
  case round =>
    obtain ⟨n, hn, rfl, rfl, HG⟩ := hrel
    obtain rfl | rfl | rfl | rfl | rfl | rfl | rfl : n = 0 ∨ n = 1 ∨ n = 2 ∨ n = 3 ∨ n = 4 ∨ n = 5 ∨ n = 6 := by omega
    · clear hn
      have HNX := Lib.hid (show pwT t (0 + 1) = (pwT t 0 * t).tdiv 16 from rfl)
      obtain ⟨pp, hpp⟩ : ∃ p, pwT t 0 = p := ⟨_, rfl⟩
      have HN := Lib.hid (show (tAt A 0).1 ≤ pp ∧ pp ≤ (tAt A 0).2 ∧ (tAt B 0).1 ≤ pp ∧ pp ≤ (tAt B 0).2 ∧ -4294967296 ≤ pp ∧ pp ≤ 4294967296 by rw [← hpp]; exact ser_n0 HSER.out)
      rw [hpp] at HNX ⊢
      refine wp_seq_k fun K1 hK1 => ?_
      have HK1 := Lib.hid hK1
      clear hK1
      go_wp2_with fail
      refine HK1.out _ _ ?_
      refine wp_seq_k fun K2 hK2 => ?_
      have HK2 := Lib.hid hK2
      clear hK2
      go_wp2_with fail
      refine HK2.out _ _ ?_
      refine wp_seq_k fun K3 hK3 => ?_
      have HK3 := Lib.hid hK3
      clear hK3
      refine wp_block ?_
      refine wp_seq_k fun K4 hK4 => ?_
      have HK4 := Lib.hid hK4
      clear hK4
      go_wp2_with fail
      refine HK4.out _ _ ?_
      refine wp_seq_k fun K5 hK5 => ?_
      have HK5 := Lib.hid hK5
      clear hK5
      go_wp2_with fail
      refine HK5.out _ _ ?_
      replace HA := Lib.hid ((HG.out.same _ (lt_of_block HA.out) (by simp)).trans HA.out)
      replace HB := Lib.hid ((HG.out.same _ (lt_of_block HB.out) (by simp)).trans HB.out)
      replace HBI := Lib.hid ((HG.out.same _ (lt_of_block HBI.out) (by simp)).trans HBI.out)
      obtain ⟨V, hV⟩ : ∃ V, V = wr := ⟨_, rfl⟩
      rw [← hV] at HG HA HB HBI ⊢
      clear hV hpp
      refine wp_seq_k fun KD hKD => ?_
      have HKD := Lib.hid hKD
      clear hKD
      refine wp_seq_k fun K14 hK14 => ?_
      have HK14 := Lib.hid hK14
      clear hK14
      refine wp_cut_mergeP [none, none, none, none, none, none, none, none, none, none, none, none, none, none, none, none, none, none, none, none, none, none, none, none, none, none, none, none, none, none, none, none, none, none, none, none, none, none, none, none, none, none, none, none, none, none, none, none, none, none, none, none, none, none, none, some 55, some 56, some 57, some 58, some 59, some 60, some 61, some 62, some 63, some 64, some 65, some 66, some 67, some 68, some 69, some 70, some 71, some 72, some 73, some 74, some 75, none, none, none, none, none, none, none, none, none, none, none, none, none, none, none, none, none, none, none, none, none, none, none, none, none, none, none, none, none, none, none, none, none, none, none, none, none, none, none, none, none, none, none, none, none, none, none, none, none, none, none, none, none, none, none, none, none, none, none, none] (fun s w' => Mut [] V w' ∧ s 75 = .bool false) (fun _ _ => False) ?_ ?_ ?_
      · intro Q2 hQ2 hP2
        refine (wpIn_wide (n := 0)).1 (show Code.wpIn (G none) 0 _ _ _ _ _ from ?_)
        refine wp_region_G (b := true) (Pn := (fun _ _ => False)) (Sr14_0 V t pp A B g0 g1 g2 b) (by kernel_rfl) (by kernel_rfl) ?_ ?_ ?_ ?_
        · exact ⟨Mut.start _ true _, fun h => absurd h Bool.false_ne_true, fun h => absurd h Bool.false_ne_true, fun h => absurd h Bool.false_ne_true, fun h => absurd h Bool.false_ne_true, fun h => absurd h Bool.false_ne_true, fun h => absurd h Bool.false_ne_true, fun h => absurd h Bool.false_ne_true, fun h => absurd h Bool.false_ne_true, fun h => absurd h Bool.false_ne_true, fun h => absurd h Bool.false_ne_true, fun h => absurd h Bool.false_ne_true, fun h => absurd h Bool.false_ne_true, fun h => absurd h Bool.false_ne_true, fun h => absurd h Bool.false_ne_true, fun h => absurd h Bool.false_ne_true, fun h => absurd h Bool.false_ne_true, fun h => absurd h Bool.false_ne_true, fun h => absurd h Bool.false_ne_true, fun h => absurd h Bool.false_ne_true, fun h => absurd h Bool.false_ne_true, fun h => absurd h Bool.false_ne_true⟩
        · refine AllSP.cons ?_ (AllSP.cons ?_ (AllSP.cons ?_ (AllSP.cons ?_ (AllSP.cons ?_ (AllSP.cons ?_ (AllSP.cons ?_ (AllSP.cons ?_ (AllSP.cons ?_ (AllSP.cons ?_ (AllSP.cons ?_ (AllSP.cons ?_ (AllSP.cons ?_ (AllSP.cons ?_ (AllSP.cons ?_ (AllSP.cons ?_ (AllSP.cons ?_ (AllSP.cons ?_ (AllSP.cons ?_ (AllSP.cons ?_ (AllSP.cons ?_ AllSP.nil))))))))))))))))))))
          · intro L s w2 h hk hd hn
            have s11 : s 11 = _ := hk 11 (by kernel_rfl)
            refine stepSP rfl fun K hK => ?_
            exact rs_move rfl s11 (hK _ _ { h with e0 := fun _ => rfl })
          · intro L s w2 h hk hd hn
            have s4 : s 4 = _ := hk 4 (by kernel_rfl)
            refine stepSP rfl fun K hK => ?_
            exact rs_field rfl s4 (fl_model0 _ _) (hK _ _ { h with e1 := fun _ => rfl })
          · intro L s w2 h hk hd hn
            have s56 := h.e1 hd.1
            have s55 := h.e0 hd.2.1
            refine stepSP rfl fun K hK => ?_
            exact rs_index rfl s56 s55 (ix_model _ 0 (by omega)) (hK _ _ { h with e2 := fun _ => rfl })
          · intro L s w2 h hk hd hn
            have s57 := h.e2 hd.1
            have kb := ((h.mu.same _ ((Array.getElem?_eq_some_iff.1 HA.out).1) (by simp)).trans HA.out)
            refine stepSP rfl fun K hK => ?_
            exact rs_load rfl s57 (sp_load (p := 0) kb (by have := HSER.out.lA; omega)) (hK _ _ { h with e3 := fun _ => rfl })
          · intro L s w2 h hk hd hn
            have s8 : s 8 = _ := hk 8 (by kernel_rfl)
            refine stepSP rfl fun K hK => ?_
            exact rs_move rfl s8 (hK _ _ { h with e4 := fun _ => rfl })
          · intro L s w2 h hk hd hn
            have s58 := h.e3 hd.1
            have s59 := h.e4 hd.2.1
            refine stepSP rfl fun K hK => ?_
            go_simp
            refine (gHas (tAt A 0) pp HN.out.1 HN.out.2.1 _).mono ?_
            rintro e w3 ⟨rfl, hb⟩
            exact .inl ⟨_, rfl, hK _ _ { h with mu := h.mu.step hb, e5 := fun _ => rfl }⟩
          · intro L s w2 h hk hd hn
            have s60 := h.e5 hd.1
            refine stepSP rfl fun K hK => ?_
            go_simp
            exact hK _ _ { h with e6 := fun _ => rfl }
          · intro L s w2 h hk hd hn
            have s61 := h.e6 hd.1
            refine stepSP rfl fun K hK => ?_
            exact rs_move rfl s61 (hK _ _ { h with e7 := fun _ => rfl })
          · intro L s w2 h hk hd hn
            have gq := h.e7 hd.1
            have s11 : s 11 = _ := hk 11 (by kernel_rfl)
            refine stepSP (by simp [Region.wanted, yieldS, gq]) fun K hK => ?_
            exact rs_move rfl s11 (hK _ _ { h with e8 := fun _ => rfl })
          · intro L s w2 h hk hd hn
            have gq := h.e7 hd.1
            have s6 : s 6 = _ := hk 6 (by kernel_rfl)
            refine stepSP (by simp [Region.wanted, yieldS, gq]) fun K hK => ?_
            exact rs_field rfl s6 (fl_model0 _ _) (hK _ _ { h with e9 := fun _ => rfl })
          · intro L s w2 h hk hd hn
            have gq := h.e7 hd.2.2.1
            have s64 := h.e9 hd.1
            have s63 := h.e8 hd.2.1
            refine stepSP (by simp [Region.wanted, yieldS, gq]) fun K hK => ?_
            exact rs_index rfl s64 s63 (ix_model _ 0 (by omega)) (hK _ _ { h with e10 := fun _ => rfl })
          · intro L s w2 h hk hd hn
            have gq := h.e7 hd.2.1
            have s65 := h.e10 hd.1
            have kb := ((h.mu.same _ ((Array.getElem?_eq_some_iff.1 HB.out).1) (by simp)).trans HB.out)
            refine stepSP (by simp [Region.wanted, yieldS, gq]) fun K hK => ?_
            exact rs_load rfl s65 (sp_load (p := 0) kb (by have := HSER.out.lB; omega)) (hK _ _ { h with e11 := fun _ => rfl })
          · intro L s w2 h hk hd hn
            have gq := h.e7 hd.1
            have s10 : s 10 = _ := hk 10 (by kernel_rfl)
            refine stepSP (by simp [Region.wanted, yieldS, gq]) fun K hK => ?_
            exact rs_move rfl s10 (hK _ _ { h with e12 := fun _ => rfl })
          · intro L s w2 h hk hd hn
            have gq := h.e7 hd.2.1
            have s9 : s 9 = _ := hk 9 (by kernel_rfl)
            have s67 := h.e12 hd.1
            refine stepSP (by simp [Region.wanted, yieldS, gq]) fun K hK => ?_
            go_simp
            exact hK _ _ { h with e13 := fun _ => rfl }
          · intro L s w2 h hk hd hn
            have gq := h.e7 hd.2.1
            have s68 := h.e13 hd.1
            have kq := (h.mu.same _ (lt_of_block HBI.out) (by simp)).trans HBI.out
            have kc : w2.cell? ⟨g2, 0, none⟩ = some (.int .i64 256) := by rw [cell_of_row w2 g2 0 _ _ _ kq]; rfl
            refine stepSP (by simp [Region.wanted, yieldS, gq]) fun K hK => ?_
            go_simp
            exact hK _ _ { h with e14 := fun _ => rfl }
          · intro L s w2 h hk hd hn
            have gq := h.e7 hd.1
            have s8 : s 8 = _ := hk 8 (by kernel_rfl)
            refine stepSP (by simp [Region.wanted, yieldS, gq]) fun K hK => ?_
            exact rs_move rfl s8 (hK _ _ { h with e15 := fun _ => rfl })
          · intro L s w2 h hk hd hn
            have gq := h.e7 hd.2.2.1
            have s69 := h.e14 hd.1
            have s70 := h.e15 hd.2.1
            have e1 : IntKind.i64.wrap (256 * pp) = 256 * pp := (wr_bi (n := 0) (by omega) HN.out.2.2.2.2).1
            refine stepSP (by simp [Region.wanted, yieldS, gq]) fun K hK => ?_
            go_simp
            exact hK _ _ { h with e16 := fun _ => rfl }
          · intro L s w2 h hk hd hn
            have gq := h.e7 hd.2.1
            have s71 := h.e16 hd.1
            have e2 : IntKind.i64.wrap pp = pp := wr_i64 (by have := HN.out.2.2.2.2; omega)
            refine stepSP (by simp [Region.wanted, yieldS, gq]) fun K hK => ?_
            go_simp
            exact hK _ _ { h with e17 := fun _ => rfl }
          · intro L s w2 h hk hd hn
            have gq := h.e7 hd.2.2.1
            have s66 := h.e11 hd.1
            have s72 := h.e17 hd.2.1
            refine stepSP (by simp [Region.wanted, yieldS, gq]) fun K hK => ?_
            go_simp
            refine (gHas (tAt B 0) pp HN.out.2.2.1 HN.out.2.2.2.1 _).mono ?_
            rintro e w3 ⟨rfl, hb⟩
            exact .inl ⟨_, rfl, hK _ _ { h with mu := h.mu.step hb, e18 := fun _ => rfl }⟩
          · intro L s w2 h hk hd hn
            have gq := h.e7 hd.2.1
            have s73 := h.e18 hd.1
            refine stepSP (by simp [Region.wanted, yieldS, gq]) fun K hK => ?_
            go_simp
            exact hK _ _ { h with e19 := fun _ => rfl }
          · intro L s w2 h hk hd hn
            have s62 := h.e7 hd.1
            have s74 := h.e19 hd.2.1
            refine stepSP rfl fun K hK => ?_
            go_simp
            exact hK _ _ { h with e20 := fun _ => rfl }
        · intro L s w2 h hk hl
          refine (congrArg (fun a => Q2 .normal a w2) (?_ : _ = _)).mpr (hQ2 s w2 (⟨h.mu, h.e20 (hl 20 (by decide))⟩))
          exact frame_eq hk (by kernel_rfl) (by kernel_rfl)
        · intro c s w2 hc
          exact hc.elim
      rotate_left
      · rintro _ _ _ h
        exact h.elim
      rintro s14 V14 ⟨h1, k75⟩
      simp only [mergeL]
      rw [k75]
      have HF := Lib.hid (HG.out.trans h1)
      clear h1 k75
      refine HK14.out _ _ ?_
      go_wp2_with fail
      refine HKD.out _ _ ?_
      have e1 := (wr_pt HT.out HN.out.2.2.2.2).1
      have e2 := (wr_pt HT.out HN.out.2.2.2.2).2
      go_wp2_with fail
      refine HK3.out _ _ ?_
      rw [← HNX.out]
      go_wp2_with fail
      go_roundw
      case rel => first | exact ⟨0 + 1, by omega, by go_num, rfl, HF⟩ | ((repeat apply Exists.intro); exact ⟨⟨0 + 1, by omega, by go_num, rfl, HF⟩, rfl⟩)
      case measure => simp [intOf]
    · clear hn
      have HNX := Lib.hid (show pwT t (1 + 1) = (pwT t 1 * t).tdiv 16 from rfl)
      obtain ⟨pp, hpp⟩ : ∃ p, pwT t 1 = p := ⟨_, rfl⟩
      have HN := Lib.hid (show (tAt A 2).1 ≤ pp ∧ pp ≤ (tAt A 2).2 ∧ (tAt B 2).1 ≤ (128 * pp).tdiv 256 ∧ (128 * pp).tdiv 256 ≤ (tAt B 2).2 ∧ -4294967296 ≤ pp ∧ pp ≤ 4294967296 by rw [← hpp]; exact ser_n1 HSER.out)
      rw [hpp] at HNX ⊢
      refine wp_seq_k fun K1 hK1 => ?_
      have HK1 := Lib.hid hK1
      clear hK1
      go_wp2_with fail
      refine HK1.out _ _ ?_
      refine wp_seq_k fun K2 hK2 => ?_
      have HK2 := Lib.hid hK2
      clear hK2
      go_wp2_with fail
      refine HK2.out _ _ ?_
      refine wp_seq_k fun K3 hK3 => ?_
      have HK3 := Lib.hid hK3
      clear hK3
      refine wp_block ?_
      refine wp_seq_k fun K4 hK4 => ?_
      have HK4 := Lib.hid hK4
      clear hK4
      go_wp2_with fail
      refine HK4.out _ _ ?_
      refine wp_seq_k fun K5 hK5 => ?_
      have HK5 := Lib.hid hK5
      clear hK5
      go_wp2_with fail
      refine HK5.out _ _ ?_
      replace HA := Lib.hid ((HG.out.same _ (lt_of_block HA.out) (by simp)).trans HA.out)
      replace HB := Lib.hid ((HG.out.same _ (lt_of_block HB.out) (by simp)).trans HB.out)
      replace HBI := Lib.hid ((HG.out.same _ (lt_of_block HBI.out) (by simp)).trans HBI.out)
      obtain ⟨V, hV⟩ : ∃ V, V = wr := ⟨_, rfl⟩
      rw [← hV] at HG HA HB HBI ⊢
      clear hV hpp
      refine wp_seq_k fun KD hKD => ?_
      have HKD := Lib.hid hKD
      clear hKD
      refine wp_seq_k fun K14 hK14 => ?_
      have HK14 := Lib.hid hK14
      clear hK14
      refine wp_cut_mergeP [none, none, none, none, none, none, none, none, none, none, none, none, none, none, none, none, none, none, none, none, none, none, none, none, none, none, none, none, none, none, none, none, none, none, none, none, none, none, none, none, none, none, none, none, none, none, none, none, none, none, none, none, none, none, none, some 55, some 56, some 57, some 58, some 59, some 60, some 61, some 62, some 63, some 64, some 65, some 66, some 67, some 68, some 69, some 70, some 71, some 72, some 73, some 74, some 75, none, none, none, none, none, none, none, none, none, none, none, none, none, none, none, none, none, none, none, none, none, none, none, none, none, none, none, none, none, none, none, none, none, none, none, none, none, none, none, none, none, none, none, none, none, none, none, none, none, none, none, none, none, none, none, none, none, none, none, none] (fun s w' => Mut [] V w' ∧ s 75 = .bool false) (fun _ _ => False) ?_ ?_ ?_
      · intro Q2 hQ2 hP2
        refine (wpIn_wide (n := 0)).1 (show Code.wpIn (G none) 0 _ _ _ _ _ from ?_)
        refine wp_region_G (b := true) (Pn := (fun _ _ => False)) (Sr14_1 V t pp A B g0 g1 g2 b) (by kernel_rfl) (by kernel_rfl) ?_ ?_ ?_ ?_
        · exact ⟨Mut.start _ true _, fun h => absurd h Bool.false_ne_true, fun h => absurd h Bool.false_ne_true, fun h => absurd h Bool.false_ne_true, fun h => absurd h Bool.false_ne_true, fun h => absurd h Bool.false_ne_true, fun h => absurd h Bool.false_ne_true, fun h => absurd h Bool.false_ne_true, fun h => absurd h Bool.false_ne_true, fun h => absurd h Bool.false_ne_true, fun h => absurd h Bool.false_ne_true, fun h => absurd h Bool.false_ne_true, fun h => absurd h Bool.false_ne_true, fun h => absurd h Bool.false_ne_true, fun h => absurd h Bool.false_ne_true, fun h => absurd h Bool.false_ne_true, fun h => absurd h Bool.false_ne_true, fun h => absurd h Bool.false_ne_true, fun h => absurd h Bool.false_ne_true, fun h => absurd h Bool.false_ne_true, fun h => absurd h Bool.false_ne_true, fun h => absurd h Bool.false_ne_true⟩
        · refine AllSP.cons ?_ (AllSP.cons ?_ (AllSP.cons ?_ (AllSP.cons ?_ (AllSP.cons ?_ (AllSP.cons ?_ (AllSP.cons ?_ (AllSP.cons ?_ (AllSP.cons ?_ (AllSP.cons ?_ (AllSP.cons ?_ (AllSP.cons ?_ (AllSP.cons ?_ (AllSP.cons ?_ (AllSP.cons ?_ (AllSP.cons ?_ (AllSP.cons ?_ (AllSP.cons ?_ (AllSP.cons ?_ (AllSP.cons ?_ (AllSP.cons ?_ AllSP.nil))))))))))))))))))))
          · intro L s w2 h hk hd hn
            have s11 : s 11 = _ := hk 11 (by kernel_rfl)
            refine stepSP rfl fun K hK => ?_
            exact rs_move rfl s11 (hK _ _ { h with e0 := fun _ => rfl })
          · intro L s w2 h hk hd hn
            have s4 : s 4 = _ := hk 4 (by kernel_rfl)
            refine stepSP rfl fun K hK => ?_
            exact rs_field rfl s4 (fl_model0 _ _) (hK _ _ { h with e1 := fun _ => rfl })
          · intro L s w2 h hk hd hn
            have s56 := h.e1 hd.1
            have s55 := h.e0 hd.2.1
            refine stepSP rfl fun K hK => ?_
            exact rs_index rfl s56 s55 (ix_model _ 2 (by omega)) (hK _ _ { h with e2 := fun _ => rfl })
          · intro L s w2 h hk hd hn
            have s57 := h.e2 hd.1
            have kb := ((h.mu.same _ ((Array.getElem?_eq_some_iff.1 HA.out).1) (by simp)).trans HA.out)
            refine stepSP rfl fun K hK => ?_
            exact rs_load rfl s57 (sp_load (p := 2) kb (by have := HSER.out.lA; omega)) (hK _ _ { h with e3 := fun _ => rfl })
          · intro L s w2 h hk hd hn
            have s8 : s 8 = _ := hk 8 (by kernel_rfl)
            refine stepSP rfl fun K hK => ?_
            exact rs_move rfl s8 (hK _ _ { h with e4 := fun _ => rfl })
          · intro L s w2 h hk hd hn
            have s58 := h.e3 hd.1
            have s59 := h.e4 hd.2.1
            refine stepSP rfl fun K hK => ?_
            go_simp
            refine (gHas (tAt A 2) pp HN.out.1 HN.out.2.1 _).mono ?_
            rintro e w3 ⟨rfl, hb⟩
            exact .inl ⟨_, rfl, hK _ _ { h with mu := h.mu.step hb, e5 := fun _ => rfl }⟩
          · intro L s w2 h hk hd hn
            have s60 := h.e5 hd.1
            refine stepSP rfl fun K hK => ?_
            go_simp
            exact hK _ _ { h with e6 := fun _ => rfl }
          · intro L s w2 h hk hd hn
            have s61 := h.e6 hd.1
            refine stepSP rfl fun K hK => ?_
            exact rs_move rfl s61 (hK _ _ { h with e7 := fun _ => rfl })
          · intro L s w2 h hk hd hn
            have gq := h.e7 hd.1
            have s11 : s 11 = _ := hk 11 (by kernel_rfl)
            refine stepSP (by simp [Region.wanted, yieldS, gq]) fun K hK => ?_
            exact rs_move rfl s11 (hK _ _ { h with e8 := fun _ => rfl })
          · intro L s w2 h hk hd hn
            have gq := h.e7 hd.1
            have s6 : s 6 = _ := hk 6 (by kernel_rfl)
            refine stepSP (by simp [Region.wanted, yieldS, gq]) fun K hK => ?_
            exact rs_field rfl s6 (fl_model0 _ _) (hK _ _ { h with e9 := fun _ => rfl })
          · intro L s w2 h hk hd hn
            have gq := h.e7 hd.2.2.1
            have s64 := h.e9 hd.1
            have s63 := h.e8 hd.2.1
            refine stepSP (by simp [Region.wanted, yieldS, gq]) fun K hK => ?_
            exact rs_index rfl s64 s63 (ix_model _ 2 (by omega)) (hK _ _ { h with e10 := fun _ => rfl })
          · intro L s w2 h hk hd hn
            have gq := h.e7 hd.2.1
            have s65 := h.e10 hd.1
            have kb := ((h.mu.same _ ((Array.getElem?_eq_some_iff.1 HB.out).1) (by simp)).trans HB.out)
            refine stepSP (by simp [Region.wanted, yieldS, gq]) fun K hK => ?_
            exact rs_load rfl s65 (sp_load (p := 2) kb (by have := HSER.out.lB; omega)) (hK _ _ { h with e11 := fun _ => rfl })
          · intro L s w2 h hk hd hn
            have gq := h.e7 hd.1
            have s10 : s 10 = _ := hk 10 (by kernel_rfl)
            refine stepSP (by simp [Region.wanted, yieldS, gq]) fun K hK => ?_
            exact rs_move rfl s10 (hK _ _ { h with e12 := fun _ => rfl })
          · intro L s w2 h hk hd hn
            have gq := h.e7 hd.2.1
            have s9 : s 9 = _ := hk 9 (by kernel_rfl)
            have s67 := h.e12 hd.1
            refine stepSP (by simp [Region.wanted, yieldS, gq]) fun K hK => ?_
            go_simp
            exact hK _ _ { h with e13 := fun _ => rfl }
          · intro L s w2 h hk hd hn
            have gq := h.e7 hd.2.1
            have s68 := h.e13 hd.1
            have kq := (h.mu.same _ (lt_of_block HBI.out) (by simp)).trans HBI.out
            have kc : w2.cell? ⟨g2, 1, none⟩ = some (.int .i64 128) := by rw [cell_of_row w2 g2 1 _ _ _ kq]; rfl
            refine stepSP (by simp [Region.wanted, yieldS, gq]) fun K hK => ?_
            go_simp
            exact hK _ _ { h with e14 := fun _ => rfl }
          · intro L s w2 h hk hd hn
            have gq := h.e7 hd.1
            have s8 : s 8 = _ := hk 8 (by kernel_rfl)
            refine stepSP (by simp [Region.wanted, yieldS, gq]) fun K hK => ?_
            exact rs_move rfl s8 (hK _ _ { h with e15 := fun _ => rfl })
          · intro L s w2 h hk hd hn
            have gq := h.e7 hd.2.2.1
            have s69 := h.e14 hd.1
            have s70 := h.e15 hd.2.1
            have e1 : IntKind.i64.wrap (128 * pp) = 128 * pp := (wr_bi (n := 1) (by omega) HN.out.2.2.2.2).1
            refine stepSP (by simp [Region.wanted, yieldS, gq]) fun K hK => ?_
            go_simp
            exact hK _ _ { h with e16 := fun _ => rfl }
          · intro L s w2 h hk hd hn
            have gq := h.e7 hd.2.1
            have s71 := h.e16 hd.1
            have e2 : IntKind.i64.wrap ((128 * pp).tdiv 256) = (128 * pp).tdiv 256 := (wr_bi (n := 1) (by omega) HN.out.2.2.2.2).2
            refine stepSP (by simp [Region.wanted, yieldS, gq]) fun K hK => ?_
            go_simp
            exact hK _ _ { h with e17 := fun _ => rfl }
          · intro L s w2 h hk hd hn
            have gq := h.e7 hd.2.2.1
            have s66 := h.e11 hd.1
            have s72 := h.e17 hd.2.1
            refine stepSP (by simp [Region.wanted, yieldS, gq]) fun K hK => ?_
            go_simp
            refine (gHas (tAt B 2) ((128 * pp).tdiv 256) HN.out.2.2.1 HN.out.2.2.2.1 _).mono ?_
            rintro e w3 ⟨rfl, hb⟩
            exact .inl ⟨_, rfl, hK _ _ { h with mu := h.mu.step hb, e18 := fun _ => rfl }⟩
          · intro L s w2 h hk hd hn
            have gq := h.e7 hd.2.1
            have s73 := h.e18 hd.1
            refine stepSP (by simp [Region.wanted, yieldS, gq]) fun K hK => ?_
            go_simp
            exact hK _ _ { h with e19 := fun _ => rfl }
          · intro L s w2 h hk hd hn
            have s62 := h.e7 hd.1
            have s74 := h.e19 hd.2.1
            refine stepSP rfl fun K hK => ?_
            go_simp
            exact hK _ _ { h with e20 := fun _ => rfl }
        · intro L s w2 h hk hl
          refine (congrArg (fun a => Q2 .normal a w2) (?_ : _ = _)).mpr (hQ2 s w2 (⟨h.mu, h.e20 (hl 20 (by decide))⟩))
          exact frame_eq hk (by kernel_rfl) (by kernel_rfl)
        · intro c s w2 hc
          exact hc.elim
      rotate_left
      · rintro _ _ _ h
        exact h.elim
      rintro s14 V14 ⟨h1, k75⟩
      simp only [mergeL]
      rw [k75]
      have HF := Lib.hid (HG.out.trans h1)
      clear h1 k75
      refine HK14.out _ _ ?_
      go_wp2_with fail
      refine HKD.out _ _ ?_
      have e1 := (wr_pt HT.out HN.out.2.2.2.2).1
      have e2 := (wr_pt HT.out HN.out.2.2.2.2).2
      go_wp2_with fail
      refine HK3.out _ _ ?_
      rw [← HNX.out]
      go_wp2_with fail
      go_roundw
      case rel => first | exact ⟨1 + 1, by omega, by go_num, rfl, HF⟩ | ((repeat apply Exists.intro); exact ⟨⟨1 + 1, by omega, by go_num, rfl, HF⟩, rfl⟩)
      case measure => simp [intOf]
    · clear hn
      have HNX := Lib.hid (show pwT t (2 + 1) = (pwT t 2 * t).tdiv 16 from rfl)
      obtain ⟨pp, hpp⟩ : ∃ p, pwT t 2 = p := ⟨_, rfl⟩
      have HN := Lib.hid (show (tAt A 5).1 ≤ pp ∧ pp ≤ (tAt A 5).2 ∧ (tAt B 5).1 ≤ ((-32) * pp).tdiv 256 ∧ ((-32) * pp).tdiv 256 ≤ (tAt B 5).2 ∧ -4294967296 ≤ pp ∧ pp ≤ 4294967296 by rw [← hpp]; exact ser_n2 HSER.out)
      rw [hpp] at HNX ⊢
      refine wp_seq_k fun K1 hK1 => ?_
      have HK1 := Lib.hid hK1
      clear hK1
      go_wp2_with fail
      refine HK1.out _ _ ?_
      refine wp_seq_k fun K2 hK2 => ?_
      have HK2 := Lib.hid hK2
      clear hK2
      go_wp2_with fail
      refine HK2.out _ _ ?_
      refine wp_seq_k fun K3 hK3 => ?_
      have HK3 := Lib.hid hK3
      clear hK3
      refine wp_block ?_
      refine wp_seq_k fun K4 hK4 => ?_
      have HK4 := Lib.hid hK4
      clear hK4
      go_wp2_with fail
      refine HK4.out _ _ ?_
      refine wp_seq_k fun K5 hK5 => ?_
      have HK5 := Lib.hid hK5
      clear hK5
      go_wp2_with fail
      refine HK5.out _ _ ?_
      replace HA := Lib.hid ((HG.out.same _ (lt_of_block HA.out) (by simp)).trans HA.out)
      replace HB := Lib.hid ((HG.out.same _ (lt_of_block HB.out) (by simp)).trans HB.out)
      replace HBI := Lib.hid ((HG.out.same _ (lt_of_block HBI.out) (by simp)).trans HBI.out)
      obtain ⟨V, hV⟩ : ∃ V, V = wr := ⟨_, rfl⟩
      rw [← hV] at HG HA HB HBI ⊢
      clear hV hpp
      refine wp_seq_k fun KD hKD => ?_
      have HKD := Lib.hid hKD
      clear hKD
      refine wp_seq_k fun K14 hK14 => ?_
      have HK14 := Lib.hid hK14
      clear hK14
      refine wp_cut_mergeP [none, none, none, none, none, none, none, none, none, none, none, none, none, none, none, none, none, none, none, none, none, none, none, none, none, none, none, none, none, none, none, none, none, none, none, none, none, none, none, none, none, none, none, none, none, none, none, none, none, none, none, none, none, none, none, some 55, some 56, some 57, some 58, some 59, some 60, some 61, some 62, some 63, some 64, some 65, some 66, some 67, some 68, some 69, some 70, some 71, some 72, some 73, some 74, some 75, none, none, none, none, none, none, none, none, none, none, none, none, none, none, none, none, none, none, none, none, none, none, none, none, none, none, none, none, none, none, none, none, none, none, none, none, none, none, none, none, none, none, none, none, none, none, none, none, none, none, none, none, none, none, none, none, none, none, none, none] (fun s w' => Mut [] V w' ∧ s 75 = .bool false) (fun _ _ => False) ?_ ?_ ?_
      · intro Q2 hQ2 hP2
        refine (wpIn_wide (n := 0)).1 (show Code.wpIn (G none) 0 _ _ _ _ _ from ?_)
        refine wp_region_G (b := true) (Pn := (fun _ _ => False)) (Sr14_2 V t pp A B g0 g1 g2 b) (by kernel_rfl) (by kernel_rfl) ?_ ?_ ?_ ?_
        · exact ⟨Mut.start _ true _, fun h => absurd h Bool.false_ne_true, fun h => absurd h Bool.false_ne_true, fun h => absurd h Bool.false_ne_true, fun h => absurd h Bool.false_ne_true, fun h => absurd h Bool.false_ne_true, fun h => absurd h Bool.false_ne_true, fun h => absurd h Bool.false_ne_true, fun h => absurd h Bool.false_ne_true, fun h => absurd h Bool.false_ne_true, fun h => absurd h Bool.false_ne_true, fun h => absurd h Bool.false_ne_true, fun h => absurd h Bool.false_ne_true, fun h => absurd h Bool.false_ne_true, fun h => absurd h Bool.false_ne_true, fun h => absurd h Bool.false_ne_true, fun h => absurd h Bool.false_ne_true, fun h => absurd h Bool.false_ne_true, fun h => absurd h Bool.false_ne_true, fun h => absurd h Bool.false_ne_true, fun h => absurd h Bool.false_ne_true, fun h => absurd h Bool.false_ne_true⟩
        · refine AllSP.cons ?_ (AllSP.cons ?_ (AllSP.cons ?_ (AllSP.cons ?_ (AllSP.cons ?_ (AllSP.cons ?_ (AllSP.cons ?_ (AllSP.cons ?_ (AllSP.cons ?_ (AllSP.cons ?_ (AllSP.cons ?_ (AllSP.cons ?_ (AllSP.cons ?_ (AllSP.cons ?_ (AllSP.cons ?_ (AllSP.cons ?_ (AllSP.cons ?_ (AllSP.cons ?_ (AllSP.cons ?_ (AllSP.cons ?_ (AllSP.cons ?_ AllSP.nil))))))))))))))))))))
          · intro L s w2 h hk hd hn
            have s11 : s 11 = _ := hk 11 (by kernel_rfl)
            refine stepSP rfl fun K hK => ?_
            exact rs_move rfl s11 (hK _ _ { h with e0 := fun _ => rfl })
          · intro L s w2 h hk hd hn
            have s4 : s 4 = _ := hk 4 (by kernel_rfl)
            refine stepSP rfl fun K hK => ?_
            exact rs_field rfl s4 (fl_model0 _ _) (hK _ _ { h with e1 := fun _ => rfl })
          · intro L s w2 h hk hd hn
            have s56 := h.e1 hd.1
            have s55 := h.e0 hd.2.1
            refine stepSP rfl fun K hK => ?_
            exact rs_index rfl s56 s55 (ix_model _ 5 (by omega)) (hK _ _ { h with e2 := fun _ => rfl })
          · intro L s w2 h hk hd hn
            have s57 := h.e2 hd.1
            have kb := ((h.mu.same _ ((Array.getElem?_eq_some_iff.1 HA.out).1) (by simp)).trans HA.out)
            refine stepSP rfl fun K hK => ?_
            exact rs_load rfl s57 (sp_load (p := 5) kb (by have := HSER.out.lA; omega)) (hK _ _ { h with e3 := fun _ => rfl })
          · intro L s w2 h hk hd hn
            have s8 : s 8 = _ := hk 8 (by kernel_rfl)
            refine stepSP rfl fun K hK => ?_
            exact rs_move rfl s8 (hK _ _ { h with e4 := fun _ => rfl })
          · intro L s w2 h hk hd hn
            have s58 := h.e3 hd.1
            have s59 := h.e4 hd.2.1
            refine stepSP rfl fun K hK => ?_
            go_simp
            refine (gHas (tAt A 5) pp HN.out.1 HN.out.2.1 _).mono ?_
            rintro e w3 ⟨rfl, hb⟩
            exact .inl ⟨_, rfl, hK _ _ { h with mu := h.mu.step hb, e5 := fun _ => rfl }⟩
          · intro L s w2 h hk hd hn
            have s60 := h.e5 hd.1
            refine stepSP rfl fun K hK => ?_
            go_simp
            exact hK _ _ { h with e6 := fun _ => rfl }
          · intro L s w2 h hk hd hn
            have s61 := h.e6 hd.1
            refine stepSP rfl fun K hK => ?_
            exact rs_move rfl s61 (hK _ _ { h with e7 := fun _ => rfl })
          · intro L s w2 h hk hd hn
            have gq := h.e7 hd.1
            have s11 : s 11 = _ := hk 11 (by kernel_rfl)
            refine stepSP (by simp [Region.wanted, yieldS, gq]) fun K hK => ?_
            exact rs_move rfl s11 (hK _ _ { h with e8 := fun _ => rfl })
          · intro L s w2 h hk hd hn
            have gq := h.e7 hd.1
            have s6 : s 6 = _ := hk 6 (by kernel_rfl)
            refine stepSP (by simp [Region.wanted, yieldS, gq]) fun K hK => ?_
            exact rs_field rfl s6 (fl_model0 _ _) (hK _ _ { h with e9 := fun _ => rfl })
          · intro L s w2 h hk hd hn
            have gq := h.e7 hd.2.2.1
            have s64 := h.e9 hd.1
            have s63 := h.e8 hd.2.1
            refine stepSP (by simp [Region.wanted, yieldS, gq]) fun K hK => ?_
            exact rs_index rfl s64 s63 (ix_model _ 5 (by omega)) (hK _ _ { h with e10 := fun _ => rfl })
          · intro L s w2 h hk hd hn
            have gq := h.e7 hd.2.1
            have s65 := h.e10 hd.1
            have kb := ((h.mu.same _ ((Array.getElem?_eq_some_iff.1 HB.out).1) (by simp)).trans HB.out)
            refine stepSP (by simp [Region.wanted, yieldS, gq]) fun K hK => ?_
            exact rs_load rfl s65 (sp_load (p := 5) kb (by have := HSER.out.lB; omega)) (hK _ _ { h with e11 := fun _ => rfl })
          · intro L s w2 h hk hd hn
            have gq := h.e7 hd.1
            have s10 : s 10 = _ := hk 10 (by kernel_rfl)
            refine stepSP (by simp [Region.wanted, yieldS, gq]) fun K hK => ?_
            exact rs_move rfl s10 (hK _ _ { h with e12 := fun _ => rfl })
          · intro L s w2 h hk hd hn
            have gq := h.e7 hd.2.1
            have s9 : s 9 = _ := hk 9 (by kernel_rfl)
            have s67 := h.e12 hd.1
            refine stepSP (by simp [Region.wanted, yieldS, gq]) fun K hK => ?_
            go_simp
            exact hK _ _ { h with e13 := fun _ => rfl }
          · intro L s w2 h hk hd hn
            have gq := h.e7 hd.2.1
            have s68 := h.e13 hd.1
            have kq := (h.mu.same _ (lt_of_block HBI.out) (by simp)).trans HBI.out
            have kc : w2.cell? ⟨g2, 2, none⟩ = some (.int .i64 (-32)) := by rw [cell_of_row w2 g2 2 _ _ _ kq]; rfl
            refine stepSP (by simp [Region.wanted, yieldS, gq]) fun K hK => ?_
            go_simp
            exact hK _ _ { h with e14 := fun _ => rfl }
          · intro L s w2 h hk hd hn
            have gq := h.e7 hd.1
            have s8 : s 8 = _ := hk 8 (by kernel_rfl)
            refine stepSP (by simp [Region.wanted, yieldS, gq]) fun K hK => ?_
            exact rs_move rfl s8 (hK _ _ { h with e15 := fun _ => rfl })
          · intro L s w2 h hk hd hn
            have gq := h.e7 hd.2.2.1
            have s69 := h.e14 hd.1
            have s70 := h.e15 hd.2.1
            have e1 : IntKind.i64.wrap ((-32) * pp) = (-32) * pp := (wr_bi (n := 2) (by omega) HN.out.2.2.2.2).1
            refine stepSP (by simp [Region.wanted, yieldS, gq]) fun K hK => ?_
            go_simp
            exact hK _ _ { h with e16 := fun _ => rfl }
          · intro L s w2 h hk hd hn
            have gq := h.e7 hd.2.1
            have s71 := h.e16 hd.1
            have e2 : IntKind.i64.wrap (((-32) * pp).tdiv 256) = ((-32) * pp).tdiv 256 := (wr_bi (n := 2) (by omega) HN.out.2.2.2.2).2
            refine stepSP (by simp [Region.wanted, yieldS, gq]) fun K hK => ?_
            go_simp
            exact hK _ _ { h with e17 := fun _ => rfl }
          · intro L s w2 h hk hd hn
            have gq := h.e7 hd.2.2.1
            have s66 := h.e11 hd.1
            have s72 := h.e17 hd.2.1
            refine stepSP (by simp [Region.wanted, yieldS, gq]) fun K hK => ?_
            go_simp
            refine (gHas (tAt B 5) (((-32) * pp).tdiv 256) HN.out.2.2.1 HN.out.2.2.2.1 _).mono ?_
            rintro e w3 ⟨rfl, hb⟩
            exact .inl ⟨_, rfl, hK _ _ { h with mu := h.mu.step hb, e18 := fun _ => rfl }⟩
          · intro L s w2 h hk hd hn
            have gq := h.e7 hd.2.1
            have s73 := h.e18 hd.1
            refine stepSP (by simp [Region.wanted, yieldS, gq]) fun K hK => ?_
            go_simp
            exact hK _ _ { h with e19 := fun _ => rfl }
          · intro L s w2 h hk hd hn
            have s62 := h.e7 hd.1
            have s74 := h.e19 hd.2.1
            refine stepSP rfl fun K hK => ?_
            go_simp
            exact hK _ _ { h with e20 := fun _ => rfl }
        · intro L s w2 h hk hl
          refine (congrArg (fun a => Q2 .normal a w2) (?_ : _ = _)).mpr (hQ2 s w2 (⟨h.mu, h.e20 (hl 20 (by decide))⟩))
          exact frame_eq hk (by kernel_rfl) (by kernel_rfl)
        · intro c s w2 hc
          exact hc.elim
      rotate_left
      · rintro _ _ _ h
        exact h.elim
      rintro s14 V14 ⟨h1, k75⟩
      simp only [mergeL]
      rw [k75]
      have HF := Lib.hid (HG.out.trans h1)
      clear h1 k75
      refine HK14.out _ _ ?_
      go_wp2_with fail
      refine HKD.out _ _ ?_
      have e1 := (wr_pt HT.out HN.out.2.2.2.2).1
      have e2 := (wr_pt HT.out HN.out.2.2.2.2).2
      go_wp2_with fail
      refine HK3.out _ _ ?_
      rw [← HNX.out]
      go_wp2_with fail
      go_roundw
      case rel => first | exact ⟨2 + 1, by omega, by go_num, rfl, HF⟩ | ((repeat apply Exists.intro); exact ⟨⟨2 + 1, by omega, by go_num, rfl, HF⟩, rfl⟩)
      case measure => simp [intOf]
    · clear hn
      have HNX := Lib.hid (show pwT t (3 + 1) = (pwT t 3 * t).tdiv 16 from rfl)
      obtain ⟨pp, hpp⟩ : ∃ p, pwT t 3 = p := ⟨_, rfl⟩
      have HN := Lib.hid (show (tAt A 9).1 ≤ pp ∧ pp ≤ (tAt A 9).2 ∧ (tAt B 9).1 ≤ (16 * pp).tdiv 256 ∧ (16 * pp).tdiv 256 ≤ (tAt B 9).2 ∧ -4294967296 ≤ pp ∧ pp ≤ 4294967296 by rw [← hpp]; exact ser_n3 HSER.out)
      rw [hpp] at HNX ⊢
      refine wp_seq_k fun K1 hK1 => ?_
      have HK1 := Lib.hid hK1
      clear hK1
      go_wp2_with fail
      refine HK1.out _ _ ?_
      refine wp_seq_k fun K2 hK2 => ?_
      have HK2 := Lib.hid hK2
      clear hK2
      go_wp2_with fail
      refine HK2.out _ _ ?_
      refine wp_seq_k fun K3 hK3 => ?_
      have HK3 := Lib.hid hK3
      clear hK3
      refine wp_block ?_
      refine wp_seq_k fun K4 hK4 => ?_
      have HK4 := Lib.hid hK4
      clear hK4
      go_wp2_with fail
      refine HK4.out _ _ ?_
      refine wp_seq_k fun K5 hK5 => ?_
      have HK5 := Lib.hid hK5
      clear hK5
      go_wp2_with fail
      refine HK5.out _ _ ?_
      replace HA := Lib.hid ((HG.out.same _ (lt_of_block HA.out) (by simp)).trans HA.out)
      replace HB := Lib.hid ((HG.out.same _ (lt_of_block HB.out) (by simp)).trans HB.out)
      replace HBI := Lib.hid ((HG.out.same _ (lt_of_block HBI.out) (by simp)).trans HBI.out)
      obtain ⟨V, hV⟩ : ∃ V, V = wr := ⟨_, rfl⟩
      rw [← hV] at HG HA HB HBI ⊢
      clear hV hpp
      refine wp_seq_k fun KD hKD => ?_
      have HKD := Lib.hid hKD
      clear hKD
      refine wp_seq_k fun K14 hK14 => ?_
      have HK14 := Lib.hid hK14
      clear hK14
      refine wp_cut_mergeP [none, none, none, none, none, none, none, none, none, none, none, none, none, none, none, none, none, none, none, none, none, none, none, none, none, none, none, none, none, none, none, none, none, none, none, none, none, none, none, none, none, none, none, none, none, none, none, none, none, none, none, none, none, none, none, some 55, some 56, some 57, some 58, some 59, some 60, some 61, some 62, some 63, some 64, some 65, some 66, some 67, some 68, some 69, some 70, some 71, some 72, some 73, some 74, some 75, none, none, none, none, none, none, none, none, none, none, none, none, none, none, none, none, none, none, none, none, none, none, none, none, none, none, none, none, none, none, none, none, none, none, none, none, none, none, none, none, none, none, none, none, none, none, none, none, none, none, none, none, none, none, none, none, none, none, none, none] (fun s w' => Mut [] V w' ∧ s 75 = .bool false) (fun _ _ => False) ?_ ?_ ?_
      · intro Q2 hQ2 hP2
        refine (wpIn_wide (n := 0)).1 (show Code.wpIn (G none) 0 _ _ _ _ _ from ?_)
        refine wp_region_G (b := true) (Pn := (fun _ _ => False)) (Sr14_3 V t pp A B g0 g1 g2 b) (by kernel_rfl) (by kernel_rfl) ?_ ?_ ?_ ?_
        · exact ⟨Mut.start _ true _, fun h => absurd h Bool.false_ne_true, fun h => absurd h Bool.false_ne_true, fun h => absurd h Bool.false_ne_true, fun h => absurd h Bool.false_ne_true, fun h => absurd h Bool.false_ne_true, fun h => absurd h Bool.false_ne_true, fun h => absurd h Bool.false_ne_true, fun h => absurd h Bool.false_ne_true, fun h => absurd h Bool.false_ne_true, fun h => absurd h Bool.false_ne_true, fun h => absurd h Bool.false_ne_true, fun h => absurd h Bool.false_ne_true, fun h => absurd h Bool.false_ne_true, fun h => absurd h Bool.false_ne_true, fun h => absurd h Bool.false_ne_true, fun h => absurd h Bool.false_ne_true, fun h => absurd h Bool.false_ne_true, fun h => absurd h Bool.false_ne_true, fun h => absurd h Bool.false_ne_true, fun h => absurd h Bool.false_ne_true, fun h => absurd h Bool.false_ne_true⟩
        · refine AllSP.cons ?_ (AllSP.cons ?_ (AllSP.cons ?_ (AllSP.cons ?_ (AllSP.cons ?_ (AllSP.cons ?_ (AllSP.cons ?_ (AllSP.cons ?_ (AllSP.cons ?_ (AllSP.cons ?_ (AllSP.cons ?_ (AllSP.cons ?_ (AllSP.cons ?_ (AllSP.cons ?_ (AllSP.cons ?_ (AllSP.cons ?_ (AllSP.cons ?_ (AllSP.cons ?_ (AllSP.cons ?_ (AllSP.cons ?_ (AllSP.cons ?_ AllSP.nil))))))))))))))))))))
          · intro L s w2 h hk hd hn
            have s11 : s 11 = _ := hk 11 (by kernel_rfl)
            refine stepSP rfl fun K hK => ?_
            exact rs_move rfl s11 (hK _ _ { h with e0 := fun _ => rfl })
          · intro L s w2 h hk hd hn
            have s4 : s 4 = _ := hk 4 (by kernel_rfl)
            refine stepSP rfl fun K hK => ?_
            exact rs_field rfl s4 (fl_model0 _ _) (hK _ _ { h with e1 := fun _ => rfl })
          · intro L s w2 h hk hd hn
            have s56 := h.e1 hd.1
            have s55 := h.e0 hd.2.1
            refine stepSP rfl fun K hK => ?_
            exact rs_index rfl s56 s55 (ix_model _ 9 (by omega)) (hK _ _ { h with e2 := fun _ => rfl })
          · intro L s w2 h hk hd hn
            have s57 := h.e2 hd.1
            have kb := ((h.mu.same _ ((Array.getElem?_eq_some_iff.1 HA.out).1) (by simp)).trans HA.out)
            refine stepSP rfl fun K hK => ?_
            exact rs_load rfl s57 (sp_load (p := 9) kb (by have := HSER.out.lA; omega)) (hK _ _ { h with e3 := fun _ => rfl })
          · intro L s w2 h hk hd hn
            have s8 : s 8 = _ := hk 8 (by kernel_rfl)
            refine stepSP rfl fun K hK => ?_
            exact rs_move rfl s8 (hK _ _ { h with e4 := fun _ => rfl })
          · intro L s w2 h hk hd hn
            have s58 := h.e3 hd.1
            have s59 := h.e4 hd.2.1
            refine stepSP rfl fun K hK => ?_
            go_simp
            refine (gHas (tAt A 9) pp HN.out.1 HN.out.2.1 _).mono ?_
            rintro e w3 ⟨rfl, hb⟩
            exact .inl ⟨_, rfl, hK _ _ { h with mu := h.mu.step hb, e5 := fun _ => rfl }⟩
          · intro L s w2 h hk hd hn
            have s60 := h.e5 hd.1
            refine stepSP rfl fun K hK => ?_
            go_simp
            exact hK _ _ { h with e6 := fun _ => rfl }
          · intro L s w2 h hk hd hn
            have s61 := h.e6 hd.1
            refine stepSP rfl fun K hK => ?_
            exact rs_move rfl s61 (hK _ _ { h with e7 := fun _ => rfl })
          · intro L s w2 h hk hd hn
            have gq := h.e7 hd.1
            have s11 : s 11 = _ := hk 11 (by kernel_rfl)
            refine stepSP (by simp [Region.wanted, yieldS, gq]) fun K hK => ?_
            exact rs_move rfl s11 (hK _ _ { h with e8 := fun _ => rfl })
          · intro L s w2 h hk hd hn
            have gq := h.e7 hd.1
            have s6 : s 6 = _ := hk 6 (by kernel_rfl)
            refine stepSP (by simp [Region.wanted, yieldS, gq]) fun K hK => ?_
            exact rs_field rfl s6 (fl_model0 _ _) (hK _ _ { h with e9 := fun _ => rfl })
          · intro L s w2 h hk hd hn
            have gq := h.e7 hd.2.2.1
            have s64 := h.e9 hd.1
            have s63 := h.e8 hd.2.1
            refine stepSP (by simp [Region.wanted, yieldS, gq]) fun K hK => ?_
            exact rs_index rfl s64 s63 (ix_model _ 9 (by omega)) (hK _ _ { h with e10 := fun _ => rfl })
          · intro L s w2 h hk hd hn
            have gq := h.e7 hd.2.1
            have s65 := h.e10 hd.1
            have kb := ((h.mu.same _ ((Array.getElem?_eq_some_iff.1 HB.out).1) (by simp)).trans HB.out)
            refine stepSP (by simp [Region.wanted, yieldS, gq]) fun K hK => ?_
            exact rs_load rfl s65 (sp_load (p := 9) kb (by have := HSER.out.lB; omega)) (hK _ _ { h with e11 := fun _ => rfl })
          · intro L s w2 h hk hd hn
            have gq := h.e7 hd.1
            have s10 : s 10 = _ := hk 10 (by kernel_rfl)
            refine stepSP (by simp [Region.wanted, yieldS, gq]) fun K hK => ?_
            exact rs_move rfl s10 (hK _ _ { h with e12 := fun _ => rfl })
          · intro L s w2 h hk hd hn
            have gq := h.e7 hd.2.1
            have s9 : s 9 = _ := hk 9 (by kernel_rfl)
            have s67 := h.e12 hd.1
            refine stepSP (by simp [Region.wanted, yieldS, gq]) fun K hK => ?_
            go_simp
            exact hK _ _ { h with e13 := fun _ => rfl }
          · intro L s w2 h hk hd hn
            have gq := h.e7 hd.2.1
            have s68 := h.e13 hd.1
            have kq := (h.mu.same _ (lt_of_block HBI.out) (by simp)).trans HBI.out
            have kc : w2.cell? ⟨g2, 3, none⟩ = some (.int .i64 16) := by rw [cell_of_row w2 g2 3 _ _ _ kq]; rfl
            refine stepSP (by simp [Region.wanted, yieldS, gq]) fun K hK => ?_
            go_simp
            exact hK _ _ { h with e14 := fun _ => rfl }
          · intro L s w2 h hk hd hn
            have gq := h.e7 hd.1
            have s8 : s 8 = _ := hk 8 (by kernel_rfl)
            refine stepSP (by simp [Region.wanted, yieldS, gq]) fun K hK => ?_
            exact rs_move rfl s8 (hK _ _ { h with e15 := fun _ => rfl })
          · intro L s w2 h hk hd hn
            have gq := h.e7 hd.2.2.1
            have s69 := h.e14 hd.1
            have s70 := h.e15 hd.2.1
            have e1 : IntKind.i64.wrap (16 * pp) = 16 * pp := (wr_bi (n := 3) (by omega) HN.out.2.2.2.2).1
            refine stepSP (by simp [Region.wanted, yieldS, gq]) fun K hK => ?_
            go_simp
            exact hK _ _ { h with e16 := fun _ => rfl }
          · intro L s w2 h hk hd hn
            have gq := h.e7 hd.2.1
            have s71 := h.e16 hd.1
            have e2 : IntKind.i64.wrap ((16 * pp).tdiv 256) = (16 * pp).tdiv 256 := (wr_bi (n := 3) (by omega) HN.out.2.2.2.2).2
            refine stepSP (by simp [Region.wanted, yieldS, gq]) fun K hK => ?_
            go_simp
            exact hK _ _ { h with e17 := fun _ => rfl }
          · intro L s w2 h hk hd hn
            have gq := h.e7 hd.2.2.1
            have s66 := h.e11 hd.1
            have s72 := h.e17 hd.2.1
            refine stepSP (by simp [Region.wanted, yieldS, gq]) fun K hK => ?_
            go_simp
            refine (gHas (tAt B 9) ((16 * pp).tdiv 256) HN.out.2.2.1 HN.out.2.2.2.1 _).mono ?_
            rintro e w3 ⟨rfl, hb⟩
            exact .inl ⟨_, rfl, hK _ _ { h with mu := h.mu.step hb, e18 := fun _ => rfl }⟩
          · intro L s w2 h hk hd hn
            have gq := h.e7 hd.2.1
            have s73 := h.e18 hd.1
            refine stepSP (by simp [Region.wanted, yieldS, gq]) fun K hK => ?_
            go_simp
            exact hK _ _ { h with e19 := fun _ => rfl }
          · intro L s w2 h hk hd hn
            have s62 := h.e7 hd.1
            have s74 := h.e19 hd.2.1
            refine stepSP rfl fun K hK => ?_
            go_simp
            exact hK _ _ { h with e20 := fun _ => rfl }
        · intro L s w2 h hk hl
          refine (congrArg (fun a => Q2 .normal a w2) (?_ : _ = _)).mpr (hQ2 s w2 (⟨h.mu, h.e20 (hl 20 (by decide))⟩))
          exact frame_eq hk (by kernel_rfl) (by kernel_rfl)
        · intro c s w2 hc
          exact hc.elim
      rotate_left
      · rintro _ _ _ h
        exact h.elim
      rintro s14 V14 ⟨h1, k75⟩
      simp only [mergeL]
      rw [k75]
      have HF := Lib.hid (HG.out.trans h1)
      clear h1 k75
      refine HK14.out _ _ ?_
      go_wp2_with fail
      refine HKD.out _ _ ?_
      have e1 := (wr_pt HT.out HN.out.2.2.2.2).1
      have e2 := (wr_pt HT.out HN.out.2.2.2.2).2
      go_wp2_with fail
      refine HK3.out _ _ ?_
      rw [← HNX.out]
      go_wp2_with fail
      go_roundw
      case rel => first | exact ⟨3 + 1, by omega, by go_num, rfl, HF⟩ | ((repeat apply Exists.intro); exact ⟨⟨3 + 1, by omega, by go_num, rfl, HF⟩, rfl⟩)
      case measure => simp [intOf]
    · clear hn
      have HNX := Lib.hid (show pwT t (4 + 1) = (pwT t 4 * t).tdiv 16 from rfl)
      obtain ⟨pp, hpp⟩ : ∃ p, pwT t 4 = p := ⟨_, rfl⟩
      have HN := Lib.hid (show (tAt A 14).1 ≤ pp ∧ pp ≤ (tAt A 14).2 ∧ (tAt B 14).1 ≤ ((-10) * pp).tdiv 256 ∧ ((-10) * pp).tdiv 256 ≤ (tAt B 14).2 ∧ -4294967296 ≤ pp ∧ pp ≤ 4294967296 by rw [← hpp]; exact ser_n4 HSER.out)
      rw [hpp] at HNX ⊢
      refine wp_seq_k fun K1 hK1 => ?_
      have HK1 := Lib.hid hK1
      clear hK1
      go_wp2_with fail
      refine HK1.out _ _ ?_
      refine wp_seq_k fun K2 hK2 => ?_
      have HK2 := Lib.hid hK2
      clear hK2
      go_wp2_with fail
      refine HK2.out _ _ ?_
      refine wp_seq_k fun K3 hK3 => ?_
      have HK3 := Lib.hid hK3
      clear hK3
      refine wp_block ?_
      refine wp_seq_k fun K4 hK4 => ?_
      have HK4 := Lib.hid hK4
      clear hK4
      go_wp2_with fail
      refine HK4.out _ _ ?_
      refine wp_seq_k fun K5 hK5 => ?_
      have HK5 := Lib.hid hK5
      clear hK5
      go_wp2_with fail
      refine HK5.out _ _ ?_
      replace HA := Lib.hid ((HG.out.same _ (lt_of_block HA.out) (by simp)).trans HA.out)
      replace HB := Lib.hid ((HG.out.same _ (lt_of_block HB.out) (by simp)).trans HB.out)
      replace HBI := Lib.hid ((HG.out.same _ (lt_of_block HBI.out) (by simp)).trans HBI.out)
      obtain ⟨V, hV⟩ : ∃ V, V = wr := ⟨_, rfl⟩
      rw [← hV] at HG HA HB HBI ⊢
      clear hV hpp
      refine wp_seq_k fun KD hKD => ?_
      have HKD := Lib.hid hKD
      clear hKD
      refine wp_seq_k fun K14 hK14 => ?_
      have HK14 := Lib.hid hK14
      clear hK14
      refine wp_cut_mergeP [none, none, none, none, none, none, none, none, none, none, none, none, none, none, none, none, none, none, none, none, none, none, none, none, none, none, none, none, none, none, none, none, none, none, none, none, none, none, none, none, none, none, none, none, none, none, none, none, none, none, none, none, none, none, none, some 55, some 56, some 57, some 58, some 59, some 60, some 61, some 62, some 63, some 64, some 65, some 66, some 67, some 68, some 69, some 70, some 71, some 72, some 73, some 74, some 75, none, none, none, none, none, none, none, none, none, none, none, none, none, none, none, none, none, none, none, none, none, none, none, none, none, none, none, none, none, none, none, none, none, none, none, none, none, none, none, none, none, none, none, none, none, none, none, none, none, none, none, none, none, none, none, none, none, none, none, none] (fun s w' => Mut [] V w' ∧ s 75 = .bool false) (fun _ _ => False) ?_ ?_ ?_
      · intro Q2 hQ2 hP2
        refine (wpIn_wide (n := 0)).1 (show Code.wpIn (G none) 0 _ _ _ _ _ from ?_)
        refine wp_region_G (b := true) (Pn := (fun _ _ => False)) (Sr14_4 V t pp A B g0 g1 g2 b) (by kernel_rfl) (by kernel_rfl) ?_ ?_ ?_ ?_
        · exact ⟨Mut.start _ true _, fun h => absurd h Bool.false_ne_true, fun h => absurd h Bool.false_ne_true, fun h => absurd h Bool.false_ne_true, fun h => absurd h Bool.false_ne_true, fun h => absurd h Bool.false_ne_true, fun h => absurd h Bool.false_ne_true, fun h => absurd h Bool.false_ne_true, fun h => absurd h Bool.false_ne_true, fun h => absurd h Bool.false_ne_true, fun h => absurd h Bool.false_ne_true, fun h => absurd h Bool.false_ne_true, fun h => absurd h Bool.false_ne_true, fun h => absurd h Bool.false_ne_true, fun h => absurd h Bool.false_ne_true, fun h => absurd h Bool.false_ne_true, fun h => absurd h Bool.false_ne_true, fun h => absurd h Bool.false_ne_true, fun h => absurd h Bool.false_ne_true, fun h => absurd h Bool.false_ne_true, fun h => absurd h Bool.false_ne_true, fun h => absurd h Bool.false_ne_true⟩
        · refine AllSP.cons ?_ (AllSP.cons ?_ (AllSP.cons ?_ (AllSP.cons ?_ (AllSP.cons ?_ (AllSP.cons ?_ (AllSP.cons ?_ (AllSP.cons ?_ (AllSP.cons ?_ (AllSP.cons ?_ (AllSP.cons ?_ (AllSP.cons ?_ (AllSP.cons ?_ (AllSP.cons ?_ (AllSP.cons ?_ (AllSP.cons ?_ (AllSP.cons ?_ (AllSP.cons ?_ (AllSP.cons ?_ (AllSP.cons ?_ (AllSP.cons ?_ AllSP.nil))))))))))))))))))))
          · intro L s w2 h hk hd hn
            have s11 : s 11 = _ := hk 11 (by kernel_rfl)
            refine stepSP rfl fun K hK => ?_
            exact rs_move rfl s11 (hK _ _ { h with e0 := fun _ => rfl })
          · intro L s w2 h hk hd hn
            have s4 : s 4 = _ := hk 4 (by kernel_rfl)
            refine stepSP rfl fun K hK => ?_
            exact rs_field rfl s4 (fl_model0 _ _) (hK _ _ { h with e1 := fun _ => rfl })
          · intro L s w2 h hk hd hn
            have s56 := h.e1 hd.1
            have s55 := h.e0 hd.2.1
            refine stepSP rfl fun K hK => ?_
            exact rs_index rfl s56 s55 (ix_model _ 14 (by omega)) (hK _ _ { h with e2 := fun _ => rfl })
          · intro L s w2 h hk hd hn
            have s57 := h.e2 hd.1
            have kb := ((h.mu.same _ ((Array.getElem?_eq_some_iff.1 HA.out).1) (by simp)).trans HA.out)
            refine stepSP rfl fun K hK => ?_
            exact rs_load rfl s57 (sp_load (p := 14) kb (by have := HSER.out.lA; omega)) (hK _ _ { h with e3 := fun _ => rfl })
          · intro L s w2 h hk hd hn
            have s8 : s 8 = _ := hk 8 (by kernel_rfl)
            refine stepSP rfl fun K hK => ?_
            exact rs_move rfl s8 (hK _ _ { h with e4 := fun _ => rfl })
          · intro L s w2 h hk hd hn
            have s58 := h.e3 hd.1
            have s59 := h.e4 hd.2.1
            refine stepSP rfl fun K hK => ?_
            go_simp
            refine (gHas (tAt A 14) pp HN.out.1 HN.out.2.1 _).mono ?_
            rintro e w3 ⟨rfl, hb⟩
            exact .inl ⟨_, rfl, hK _ _ { h with mu := h.mu.step hb, e5 := fun _ => rfl }⟩
          · intro L s w2 h hk hd hn
            have s60 := h.e5 hd.1
            refine stepSP rfl fun K hK => ?_
            go_simp
            exact hK _ _ { h with e6 := fun _ => rfl }
          · intro L s w2 h hk hd hn
            have s61 := h.e6 hd.1
            refine stepSP rfl fun K hK => ?_
            exact rs_move rfl s61 (hK _ _ { h with e7 := fun _ => rfl })
          · intro L s w2 h hk hd hn
            have gq := h.e7 hd.1
            have s11 : s 11 = _ := hk 11 (by kernel_rfl)
            refine stepSP (by simp [Region.wanted, yieldS, gq]) fun K hK => ?_
            exact rs_move rfl s11 (hK _ _ { h with e8 := fun _ => rfl })
          · intro L s w2 h hk hd hn
            have gq := h.e7 hd.1
            have s6 : s 6 = _ := hk 6 (by kernel_rfl)
            refine stepSP (by simp [Region.wanted, yieldS, gq]) fun K hK => ?_
            exact rs_field rfl s6 (fl_model0 _ _) (hK _ _ { h with e9 := fun _ => rfl })
          · intro L s w2 h hk hd hn
            have gq := h.e7 hd.2.2.1
            have s64 := h.e9 hd.1
            have s63 := h.e8 hd.2.1
            refine stepSP (by simp [Region.wanted, yieldS, gq]) fun K hK => ?_
            exact rs_index rfl s64 s63 (ix_model _ 14 (by omega)) (hK _ _ { h with e10 := fun _ => rfl })
          · intro L s w2 h hk hd hn
            have gq := h.e7 hd.2.1
            have s65 := h.e10 hd.1
            have kb := ((h.mu.same _ ((Array.getElem?_eq_some_iff.1 HB.out).1) (by simp)).trans HB.out)
            refine stepSP (by simp [Region.wanted, yieldS, gq]) fun K hK => ?_
            exact rs_load rfl s65 (sp_load (p := 14) kb (by have := HSER.out.lB; omega)) (hK _ _ { h with e11 := fun _ => rfl })
          · intro L s w2 h hk hd hn
            have gq := h.e7 hd.1
            have s10 : s 10 = _ := hk 10 (by kernel_rfl)
            refine stepSP (by simp [Region.wanted, yieldS, gq]) fun K hK => ?_
            exact rs_move rfl s10 (hK _ _ { h with e12 := fun _ => rfl })
          · intro L s w2 h hk hd hn
            have gq := h.e7 hd.2.1
            have s9 : s 9 = _ := hk 9 (by kernel_rfl)
            have s67 := h.e12 hd.1
            refine stepSP (by simp [Region.wanted, yieldS, gq]) fun K hK => ?_
            go_simp
            exact hK _ _ { h with e13 := fun _ => rfl }
          · intro L s w2 h hk hd hn
            have gq := h.e7 hd.2.1
            have s68 := h.e13 hd.1
            have kq := (h.mu.same _ (lt_of_block HBI.out) (by simp)).trans HBI.out
            have kc : w2.cell? ⟨g2, 4, none⟩ = some (.int .i64 (-10)) := by rw [cell_of_row w2 g2 4 _ _ _ kq]; rfl
            refine stepSP (by simp [Region.wanted, yieldS, gq]) fun K hK => ?_
            go_simp
            exact hK _ _ { h with e14 := fun _ => rfl }
          · intro L s w2 h hk hd hn
            have gq := h.e7 hd.1
            have s8 : s 8 = _ := hk 8 (by kernel_rfl)
            refine stepSP (by simp [Region.wanted, yieldS, gq]) fun K hK => ?_
            exact rs_move rfl s8 (hK _ _ { h with e15 := fun _ => rfl })
          · intro L s w2 h hk hd hn
            have gq := h.e7 hd.2.2.1
            have s69 := h.e14 hd.1
            have s70 := h.e15 hd.2.1
            have e1 : IntKind.i64.wrap ((-10) * pp) = (-10) * pp := (wr_bi (n := 4) (by omega) HN.out.2.2.2.2).1
            refine stepSP (by simp [Region.wanted, yieldS, gq]) fun K hK => ?_
            go_simp
            exact hK _ _ { h with e16 := fun _ => rfl }
          · intro L s w2 h hk hd hn
            have gq := h.e7 hd.2.1
            have s71 := h.e16 hd.1
            have e2 : IntKind.i64.wrap (((-10) * pp).tdiv 256) = ((-10) * pp).tdiv 256 := (wr_bi (n := 4) (by omega) HN.out.2.2.2.2).2
            refine stepSP (by simp [Region.wanted, yieldS, gq]) fun K hK => ?_
            go_simp
            exact hK _ _ { h with e17 := fun _ => rfl }
          · intro L s w2 h hk hd hn
            have gq := h.e7 hd.2.2.1
            have s66 := h.e11 hd.1
            have s72 := h.e17 hd.2.1
            refine stepSP (by simp [Region.wanted, yieldS, gq]) fun K hK => ?_
            go_simp
            refine (gHas (tAt B 14) (((-10) * pp).tdiv 256) HN.out.2.2.1 HN.out.2.2.2.1 _).mono ?_
            rintro e w3 ⟨rfl, hb⟩
            exact .inl ⟨_, rfl, hK _ _ { h with mu := h.mu.step hb, e18 := fun _ => rfl }⟩
          · intro L s w2 h hk hd hn
            have gq := h.e7 hd.2.1
            have s73 := h.e18 hd.1
            refine stepSP (by simp [Region.wanted, yieldS, gq]) fun K hK => ?_
            go_simp
            exact hK _ _ { h with e19 := fun _ => rfl }
          · intro L s w2 h hk hd hn
            have s62 := h.e7 hd.1
            have s74 := h.e19 hd.2.1
            refine stepSP rfl fun K hK => ?_
            go_simp
            exact hK _ _ { h with e20 := fun _ => rfl }
        · intro L s w2 h hk hl
          refine (congrArg (fun a => Q2 .normal a w2) (?_ : _ = _)).mpr (hQ2 s w2 (⟨h.mu, h.e20 (hl 20 (by decide))⟩))
          exact frame_eq hk (by kernel_rfl) (by kernel_rfl)
        · intro c s w2 hc
          exact hc.elim
      rotate_left
      · rintro _ _ _ h
        exact h.elim
      rintro s14 V14 ⟨h1, k75⟩
      simp only [mergeL]
      rw [k75]
      have HF := Lib.hid (HG.out.trans h1)
      clear h1 k75
      refine HK14.out _ _ ?_
      go_wp2_with fail
      refine HKD.out _ _ ?_
      have e1 := (wr_pt HT.out HN.out.2.2.2.2).1
      have e2 := (wr_pt HT.out HN.out.2.2.2.2).2
      go_wp2_with fail
      refine HK3.out _ _ ?_
      rw [← HNX.out]
      go_wp2_with fail
      go_roundw
      case rel => first | exact ⟨4 + 1, by omega, by go_num, rfl, HF⟩ | ((repeat apply Exists.intro); exact ⟨⟨4 + 1, by omega, by go_num, rfl, HF⟩, rfl⟩)
      case measure => simp [intOf]
    · clear hn
      have HNX := Lib.hid (show pwT t (5 + 1) = (pwT t 5 * t).tdiv 16 from rfl)
      obtain ⟨pp, hpp⟩ : ∃ p, pwT t 5 = p := ⟨_, rfl⟩
      have HN := Lib.hid (show (tAt A 20).1 ≤ pp ∧ pp ≤ (tAt A 20).2 ∧ (tAt B 20).1 ≤ (7 * pp).tdiv 256 ∧ (7 * pp).tdiv 256 ≤ (tAt B 20).2 ∧ -4294967296 ≤ pp ∧ pp ≤ 4294967296 by rw [← hpp]; exact ser_n5 HSER.out)
      rw [hpp] at HNX ⊢
      refine wp_seq_k fun K1 hK1 => ?_
      have HK1 := Lib.hid hK1
      clear hK1
      go_wp2_with fail
      refine HK1.out _ _ ?_
      refine wp_seq_k fun K2 hK2 => ?_
      have HK2 := Lib.hid hK2
      clear hK2
      go_wp2_with fail
      refine HK2.out _ _ ?_
      refine wp_seq_k fun K3 hK3 => ?_
      have HK3 := Lib.hid hK3
      clear hK3
      refine wp_block ?_
      refine wp_seq_k fun K4 hK4 => ?_
      have HK4 := Lib.hid hK4
      clear hK4
      go_wp2_with fail
      refine HK4.out _ _ ?_
      refine wp_seq_k fun K5 hK5 => ?_
      have HK5 := Lib.hid hK5
      clear hK5
      go_wp2_with fail
      refine HK5.out _ _ ?_
      replace HA := Lib.hid ((HG.out.same _ (lt_of_block HA.out) (by simp)).trans HA.out)
      replace HB := Lib.hid ((HG.out.same _ (lt_of_block HB.out) (by simp)).trans HB.out)
      replace HBI := Lib.hid ((HG.out.same _ (lt_of_block HBI.out) (by simp)).trans HBI.out)
      obtain ⟨V, hV⟩ : ∃ V, V = wr := ⟨_, rfl⟩
      rw [← hV] at HG HA HB HBI ⊢
      clear hV hpp
      refine wp_seq_k fun KD hKD => ?_
      have HKD := Lib.hid hKD
      clear hKD
      refine wp_seq_k fun K14 hK14 => ?_
      have HK14 := Lib.hid hK14
      clear hK14
      refine wp_cut_mergeP [none, none, none, none, none, none, none, none, none, none, none, none, none, none, none, none, none, none, none, none, none, none, none, none, none, none, none, none, none, none, none, none, none, none, none, none, none, none, none, none, none, none, none, none, none, none, none, none, none, none, none, none, none, none, none, some 55, some 56, some 57, some 58, some 59, some 60, some 61, some 62, some 63, some 64, some 65, some 66, some 67, some 68, some 69, some 70, some 71, some 72, some 73, some 74, some 75, none, none, none, none, none, none, none, none, none, none, none, none, none, none, none, none, none, none, none, none, none, none, none, none, none, none, none, none, none, none, none, none, none, none, none, none, none, none, none, none, none, none, none, none, none, none, none, none, none, none, none, none, none, none, none, none, none, none, none, none] (fun s w' => Mut [] V w' ∧ s 75 = .bool false) (fun _ _ => False) ?_ ?_ ?_
      · intro Q2 hQ2 hP2
        refine (wpIn_wide (n := 0)).1 (show Code.wpIn (G none) 0 _ _ _ _ _ from ?_)
        refine wp_region_G (b := true) (Pn := (fun _ _ => False)) (Sr14_5 V t pp A B g0 g1 g2 b) (by kernel_rfl) (by kernel_rfl) ?_ ?_ ?_ ?_
        · exact ⟨Mut.start _ true _, fun h => absurd h Bool.false_ne_true, fun h => absurd h Bool.false_ne_true, fun h => absurd h Bool.false_ne_true, fun h => absurd h Bool.false_ne_true, fun h => absurd h Bool.false_ne_true, fun h => absurd h Bool.false_ne_true, fun h => absurd h Bool.false_ne_true, fun h => absurd h Bool.false_ne_true, fun h => absurd h Bool.false_ne_true, fun h => absurd h Bool.false_ne_true, fun h => absurd h Bool.false_ne_true, fun h => absurd h Bool.false_ne_true, fun h => absurd h Bool.false_ne_true, fun h => absurd h Bool.false_ne_true, fun h => absurd h Bool.false_ne_true, fun h => absurd h Bool.false_ne_true, fun h => absurd h Bool.false_ne_true, fun h => absurd h Bool.false_ne_true, fun h => absurd h Bool.false_ne_true, fun h => absurd h Bool.false_ne_true, fun h => absurd h Bool.false_ne_true⟩
        · refine AllSP.cons ?_ (AllSP.cons ?_ (AllSP.cons ?_ (AllSP.cons ?_ (AllSP.cons ?_ (AllSP.cons ?_ (AllSP.cons ?_ (AllSP.cons ?_ (AllSP.cons ?_ (AllSP.cons ?_ (AllSP.cons ?_ (AllSP.cons ?_ (AllSP.cons ?_ (AllSP.cons ?_ (AllSP.cons ?_ (AllSP.cons ?_ (AllSP.cons ?_ (AllSP.cons ?_ (AllSP.cons ?_ (AllSP.cons ?_ (AllSP.cons ?_ AllSP.nil))))))))))))))))))))
          · intro L s w2 h hk hd hn
            have s11 : s 11 = _ := hk 11 (by kernel_rfl)
            refine stepSP rfl fun K hK => ?_
            exact rs_move rfl s11 (hK _ _ { h with e0 := fun _ => rfl })
          · intro L s w2 h hk hd hn
            have s4 : s 4 = _ := hk 4 (by kernel_rfl)
            refine stepSP rfl fun K hK => ?_
            exact rs_field rfl s4 (fl_model0 _ _) (hK _ _ { h with e1 := fun _ => rfl })
          · intro L s w2 h hk hd hn
            have s56 := h.e1 hd.1
            have s55 := h.e0 hd.2.1
            refine stepSP rfl fun K hK => ?_
            exact rs_index rfl s56 s55 (ix_model _ 20 (by omega)) (hK _ _ { h with e2 := fun _ => rfl })
          · intro L s w2 h hk hd hn
            have s57 := h.e2 hd.1
            have kb := ((h.mu.same _ ((Array.getElem?_eq_some_iff.1 HA.out).1) (by simp)).trans HA.out)
            refine stepSP rfl fun K hK => ?_
            exact rs_load rfl s57 (sp_load (p := 20) kb (by have := HSER.out.lA; omega)) (hK _ _ { h with e3 := fun _ => rfl })
          · intro L s w2 h hk hd hn
            have s8 : s 8 = _ := hk 8 (by kernel_rfl)
            refine stepSP rfl fun K hK => ?_
            exact rs_move rfl s8 (hK _ _ { h with e4 := fun _ => rfl })
          · intro L s w2 h hk hd hn
            have s58 := h.e3 hd.1
            have s59 := h.e4 hd.2.1
            refine stepSP rfl fun K hK => ?_
            go_simp
            refine (gHas (tAt A 20) pp HN.out.1 HN.out.2.1 _).mono ?_
            rintro e w3 ⟨rfl, hb⟩
            exact .inl ⟨_, rfl, hK _ _ { h with mu := h.mu.step hb, e5 := fun _ => rfl }⟩
          · intro L s w2 h hk hd hn
            have s60 := h.e5 hd.1
            refine stepSP rfl fun K hK => ?_
            go_simp
            exact hK _ _ { h with e6 := fun _ => rfl }
          · intro L s w2 h hk hd hn
            have s61 := h.e6 hd.1
            refine stepSP rfl fun K hK => ?_
            exact rs_move rfl s61 (hK _ _ { h with e7 := fun _ => rfl })
          · intro L s w2 h hk hd hn
            have gq := h.e7 hd.1
            have s11 : s 11 = _ := hk 11 (by kernel_rfl)
            refine stepSP (by simp [Region.wanted, yieldS, gq]) fun K hK => ?_
            exact rs_move rfl s11 (hK _ _ { h with e8 := fun _ => rfl })
          · intro L s w2 h hk hd hn
            have gq := h.e7 hd.1
            have s6 : s 6 = _ := hk 6 (by kernel_rfl)
            refine stepSP (by simp [Region.wanted, yieldS, gq]) fun K hK => ?_
            exact rs_field rfl s6 (fl_model0 _ _) (hK _ _ { h with e9 := fun _ => rfl })
          · intro L s w2 h hk hd hn
            have gq := h.e7 hd.2.2.1
            have s64 := h.e9 hd.1
            have s63 := h.e8 hd.2.1
            refine stepSP (by simp [Region.wanted, yieldS, gq]) fun K hK => ?_
            exact rs_index rfl s64 s63 (ix_model _ 20 (by omega)) (hK _ _ { h with e10 := fun _ => rfl })
          · intro L s w2 h hk hd hn
            have gq := h.e7 hd.2.1
            have s65 := h.e10 hd.1
            have kb := ((h.mu.same _ ((Array.getElem?_eq_some_iff.1 HB.out).1) (by simp)).trans HB.out)
            refine stepSP (by simp [Region.wanted, yieldS, gq]) fun K hK => ?_
            exact rs_load rfl s65 (sp_load (p := 20) kb (by have := HSER.out.lB; omega)) (hK _ _ { h with e11 := fun _ => rfl })
          · intro L s w2 h hk hd hn
            have gq := h.e7 hd.1
            have s10 : s 10 = _ := hk 10 (by kernel_rfl)
            refine stepSP (by simp [Region.wanted, yieldS, gq]) fun K hK => ?_
            exact rs_move rfl s10 (hK _ _ { h with e12 := fun _ => rfl })
          · intro L s w2 h hk hd hn
            have gq := h.e7 hd.2.1
            have s9 : s 9 = _ := hk 9 (by kernel_rfl)
            have s67 := h.e12 hd.1
            refine stepSP (by simp [Region.wanted, yieldS, gq]) fun K hK => ?_
            go_simp
            exact hK _ _ { h with e13 := fun _ => rfl }
          · intro L s w2 h hk hd hn
            have gq := h.e7 hd.2.1
            have s68 := h.e13 hd.1
            have kq := (h.mu.same _ (lt_of_block HBI.out) (by simp)).trans HBI.out
            have kc : w2.cell? ⟨g2, 5, none⟩ = some (.int .i64 7) := by rw [cell_of_row w2 g2 5 _ _ _ kq]; rfl
            refine stepSP (by simp [Region.wanted, yieldS, gq]) fun K hK => ?_
            go_simp
            exact hK _ _ { h with e14 := fun _ => rfl }
          · intro L s w2 h hk hd hn
            have gq := h.e7 hd.1
            have s8 : s 8 = _ := hk 8 (by kernel_rfl)
            refine stepSP (by simp [Region.wanted, yieldS, gq]) fun K hK => ?_
            exact rs_move rfl s8 (hK _ _ { h with e15 := fun _ => rfl })
          · intro L s w2 h hk hd hn
            have gq := h.e7 hd.2.2.1
            have s69 := h.e14 hd.1
            have s70 := h.e15 hd.2.1
            have e1 : IntKind.i64.wrap (7 * pp) = 7 * pp := (wr_bi (n := 5) (by omega) HN.out.2.2.2.2).1
            refine stepSP (by simp [Region.wanted, yieldS, gq]) fun K hK => ?_
            go_simp
            exact hK _ _ { h with e16 := fun _ => rfl }
          · intro L s w2 h hk hd hn
            have gq := h.e7 hd.2.1
            have s71 := h.e16 hd.1
            have e2 : IntKind.i64.wrap ((7 * pp).tdiv 256) = (7 * pp).tdiv 256 := (wr_bi (n := 5) (by omega) HN.out.2.2.2.2).2
            refine stepSP (by simp [Region.wanted, yieldS, gq]) fun K hK => ?_
            go_simp
            exact hK _ _ { h with e17 := fun _ => rfl }
          · intro L s w2 h hk hd hn
            have gq := h.e7 hd.2.2.1
            have s66 := h.e11 hd.1
            have s72 := h.e17 hd.2.1
            refine stepSP (by simp [Region.wanted, yieldS, gq]) fun K hK => ?_
            go_simp
            refine (gHas (tAt B 20) ((7 * pp).tdiv 256) HN.out.2.2.1 HN.out.2.2.2.1 _).mono ?_
            rintro e w3 ⟨rfl, hb⟩
            exact .inl ⟨_, rfl, hK _ _ { h with mu := h.mu.step hb, e18 := fun _ => rfl }⟩
          · intro L s w2 h hk hd hn
            have gq := h.e7 hd.2.1
            have s73 := h.e18 hd.1
            refine stepSP (by simp [Region.wanted, yieldS, gq]) fun K hK => ?_
            go_simp
            exact hK _ _ { h with e19 := fun _ => rfl }
          · intro L s w2 h hk hd hn
            have s62 := h.e7 hd.1
            have s74 := h.e19 hd.2.1
            refine stepSP rfl fun K hK => ?_
            go_simp
            exact hK _ _ { h with e20 := fun _ => rfl }
        · intro L s w2 h hk hl
          refine (congrArg (fun a => Q2 .normal a w2) (?_ : _ = _)).mpr (hQ2 s w2 (⟨h.mu, h.e20 (hl 20 (by decide))⟩))
          exact frame_eq hk (by kernel_rfl) (by kernel_rfl)
        · intro c s w2 hc
          exact hc.elim
      rotate_left
      · rintro _ _ _ h
        exact h.elim
      rintro s14 V14 ⟨h1, k75⟩
      simp only [mergeL]
      rw [k75]
      have HF := Lib.hid (HG.out.trans h1)
      clear h1 k75
      refine HK14.out _ _ ?_
      go_wp2_with fail
      refine HKD.out _ _ ?_
      have e1 := (wr_pt HT.out HN.out.2.2.2.2).1
      have e2 := (wr_pt HT.out HN.out.2.2.2.2).2
      go_wp2_with fail
      refine HK3.out _ _ ?_
      rw [← HNX.out]
      go_wp2_with fail
      go_roundw
      case rel => first | exact ⟨5 + 1, by omega, by go_num, rfl, HF⟩ | ((repeat apply Exists.intro); exact ⟨⟨5 + 1, by omega, by go_num, rfl, HF⟩, rfl⟩)
      case measure => simp [intOf]
    · go_wp2_with fail
      refine HKC.out _ _ ?_
      replace HM := Lib.hid (HM.out.trans HG.out)
      replace HA := Lib.hid ((HG.out.same _ (lt_of_block HA.out) (by simp)).trans HA.out)
      replace HB := Lib.hid ((HG.out.same _ (lt_of_block HB.out) (by simp)).trans HB.out)
      replace HBI := Lib.hid ((HG.out.same _ (lt_of_block HBI.out) (by simp)).trans HBI.out)
      clear HG hn
      obtain ⟨V, hV⟩ : ∃ V, V = wr := ⟨_, rfl⟩
      rw [← hV] at HM HA HB HBI ⊢
      clear hV
      refine wp_seq_k fun K18 hK18 => ?_
      have HK18 := Lib.hid hK18
      clear hK18
      refine wp_cut_mergeP [none, none, none, none, none, none, none, none, none, none, none, none, some 12, some 13, none, none, none, none, none, none, none, none, none, none, none, none, none, none, none, none, none, none, none, none, none, none, none, none, none, none, none, none, none, none, none, none, none, none, none, none, none, none, none, none, none, none, none, none, none, none, none, none, none, none, none, none, none, none, none, none, none, none, none, none, none, none, none, none, none, none, none, some 81, some 82, some 83, some 84, some 85, some 86, some 87, none, none, none, none, none, none, none, none, none, none, none, none, none, none, none, none, none, none, none, none, none, none, none, none, none, none, none, none, none, none, none, none, none, none, none, none, none, none, none, none, none, none, none, none, none, none, none, none] (fun s w' => Mut [] V w' ∧ (∃ g : Nat, s 12 = .pointer (some ⟨g, 0, none⟩) ∧ V.heap.size ≤ g ∧ w'.heap[g]? = some (cobj 25 [ee])) ∧ s 13 = .int .i64 0) (fun _ _ => False) ?_ ?_ ?_
      · intro Q2 hQ2 hP2
        refine (wpIn_wide (n := 0)).1 (show Code.wpIn (G none) 0 _ _ _ _ _ from ?_)
        refine wp_region_G (b := true) (Pn := (fun _ _ => False)) (Sr18 V k t A B ee ww ll sq0 b g0 g1 g2) (by kernel_rfl) (by kernel_rfl) ?_ ?_ ?_ ?_
        · exact ⟨Mut.start _ true _, fun h => absurd h Bool.false_ne_true, fun h => absurd h Bool.false_ne_true, fun h => absurd h Bool.false_ne_true, fun h => absurd h Bool.false_ne_true, fun h => absurd h Bool.false_ne_true, fun h => absurd h Bool.false_ne_true, fun h => absurd h Bool.false_ne_true, fun h => absurd h Bool.false_ne_true, fun h => absurd h Bool.false_ne_true, fun h => absurd h Bool.false_ne_true⟩
        · refine AllSP.cons ?_ (AllSP.cons ?_ (AllSP.cons ?_ (AllSP.cons ?_ (AllSP.cons ?_ (AllSP.cons ?_ (AllSP.cons ?_ (AllSP.cons ?_ (AllSP.cons ?_ (AllSP.cons ?_ AllSP.nil)))))))))
          · intro L s w2 h hk hd hn
            have s4 : s 4 = _ := hk 4 (by kernel_rfl)
            have kb := ((h.mu.same _ ((Array.getElem?_eq_some_iff.1 HA.out).1) (by simp)).trans HA.out)
            refine stepSP rfl fun K hK => ?_
            exact rs_load rfl s4 (md_load kb HSER.out.lA) (hK _ _ { h with e0 := fun _ => rfl })
          · intro L s w2 h hk hd hn
            refine stepSP rfl fun K hK => ?_
            go_simp
            refine (law21_pt 4294967296 _).mono ?_
            rintro e w3 ⟨rfl, hb⟩
            exact .inl ⟨_, rfl, hK _ _ { h with mu := h.mu.step hb, al_en := fun a => let ⟨g, h0, h1, hl, h2, h3⟩ := h.al_en a; ⟨g, h0, h1, Nat.lt_of_lt_of_le hl hb.size, fun c => (hb.block _ (lt_of_block (h2 c))).trans (h2 c), fun c => (hb.block _ (lt_of_block (h3 c))).trans (h3 c)⟩, e1 := fun _ => rfl }⟩
          · intro L s w2 h hk hd hn
            refine stepSP rfl fun K hK => ?_
            go_simp
            refine (law21_pt 0 _).mono ?_
            rintro e w3 ⟨rfl, hb⟩
            exact .inl ⟨_, rfl, hK _ _ { h with mu := h.mu.step hb, al_en := fun a => let ⟨g, h0, h1, hl, h2, h3⟩ := h.al_en a; ⟨g, h0, h1, Nat.lt_of_lt_of_le hl hb.size, fun c => (hb.block _ (lt_of_block (h2 c))).trans (h2 c), fun c => (hb.block _ (lt_of_block (h3 c))).trans (h3 c)⟩, e2 := fun _ => rfl }⟩
          · intro L s w2 h hk hd hn
            have s82 := h.e0 hd.1
            have s83 := h.e1 hd.2.1
            have s84 := h.e2 hd.2.2.1
            refine stepSP rfl fun K hK => ?_
            go_simp
            refine (gEval HSER.out.lA HSER.out.rA (okU_pt (by omega)) (okU_pt (by omega)) HSER.out.hE _).mono ?_
            rintro e w3 ⟨rfl, hb⟩
            exact .inl ⟨_, rfl, hK _ _ { h with mu := h.mu.step hb, al_en := fun a => let ⟨g, h0, h1, hl, h2, h3⟩ := h.al_en a; ⟨g, h0, h1, Nat.lt_of_lt_of_le hl hb.size, fun c => (hb.block _ (lt_of_block (h2 c))).trans (h2 c), fun c => (hb.block _ (lt_of_block (h3 c))).trans (h3 c)⟩, e3 := fun _ => rfl }⟩
          · intro L s w2 h hk hd hn
            have s85 := h.e3 hd.1
            refine stepSP rfl fun K hK => ?_
            exact rs_move rfl s85 (hK _ _ { h with e4 := fun _ => rfl })
          · intro L s w2 h hk hd hn
            have s81 := h.e4 hd.1
            refine stepSP rfl fun K hK => ?_
            exact rs_extract rfl s81 rfl (hK _ _ { h with e5 := fun _ => rfl })
          · intro L s w2 h hk hd hn
            have s81 := h.e4 hd.1
            refine stepSP rfl fun K hK => ?_
            exact rs_extract rfl s81 rfl (hK _ _ { h with e6 := fun _ => rfl })
          · intro L s w2 h hk hd hn
            refine stepSP rfl fun K hK => ?_
            go_simp
            exact hK _ _ { h with mu := h.mu.alloc _, al_en := fun _ => ⟨_, rfl, h.mu.size, by simp, fun _ => heap_at _ rfl, fun a => absurd (h.b8_7 a) (by rw [hn]; exact Bool.false_ne_true)⟩, b8_7 := fun _ => rfl }
          · intro L s w2 h hk hd hn
            have s86 := h.e5 hd.2.1
            obtain ⟨g, hg0, hg1, hgl, hg2, hg3⟩ := h.al_en hd.1
            have kb := hg2 hn
            refine stepSP rfl fun K hK => ?_
            exact rs_store rfl hg0 s86 (sp_store (p := 0) kb (by simp) ee) (hK _ _ { h with mu := h.mu.putNew hg1 _, al_en := fun a => ⟨g, hg0, hg1, by simpa using hgl, nF, fun _ => pH kb⟩, b8_7 := fun _ => hd.1 })
          · intro L s w2 h hk hd hn
            have s87 := h.e6 hd.1
            refine stepSP rfl fun K hK => ?_
            exact rs_assign rfl s87 (hK _ _ { h with e9 := fun _ => rfl })
        · intro L s w2 h hk hl
          refine (congrArg (fun a => Q2 .normal a w2) (?_ : _ = _)).mpr (hQ2 s w2 (⟨h.mu, (let ⟨g, h0, h1, _, _, h3⟩ := h.al_en (hl 7 (by decide)); ⟨g, h0, h1, h3 (hl 8 (by decide))⟩), h.e9 (hl 9 (by decide))⟩))
          exact frame_eq hk (by kernel_rfl) (by kernel_rfl)
        · intro c s w2 hc
          exact hc.elim
      rotate_left
      · rintro _ _ _ h
        exact h.elim
      rintro s18 V ⟨h1, ⟨g3, k_en, g_en, c_en⟩, k13⟩
      simp only [mergeL]
      rw [k_en]
      rw [k13]
      replace HLT := Lib.hid (show b ≤ g3 ∧ g0 < g3 ∧ g1 < g3 ∧ g2 < g3 ∧ b ≤ g2 ∧ g0 < g2 ∧ g1 < g2 ∧ b ≤ g1 ∧ g0 < g1 ∧ b ≤ g0 from by
        have hlt := HLT.out
        have hbw := HM.out.size
        have hbw2 := HBW.out
        have := lt_of_block HA.out
        have := lt_of_block HB.out
        have := lt_of_block HBI.out
        omega)
      replace HA := Lib.hid ((h1.same _ (lt_of_block HA.out) (by simp)).trans HA.out)
      replace HB := Lib.hid ((h1.same _ (lt_of_block HB.out) (by simp)).trans HB.out)
      replace HBI := Lib.hid ((h1.same _ (lt_of_block HBI.out) (by simp)).trans HBI.out)
      have HEN := Lib.hid c_en
      replace HM := Lib.hid (HM.out.stepM h1 (by simp))
      clear h1 k_en g_en c_en k13
      refine HK18.out _ _ ?_
      refine wp_seq_k fun K19 hK19 => ?_
      have HK19 := Lib.hid hK19
      clear hK19
      refine wp_cut_mergeP [none, none, none, none, none, none, none, none, none, none, none, none, none, none, some 14, some 15, none, none, none, none, none, none, none, none, none, none, none, none, none, none, none, none, none, none, none, none, none, none, none, none, none, none, none, none, none, none, none, none, none, none, none, none, none, none, none, none, none, none, none, none, none, none, none, none, none, none, none, none, none, none, none, none, none, none, none, none, none, none, none, none, none, none, none, none, none, none, none, none, some 88, some 89, some 90, some 91, some 92, some 93, some 94, some 95, some 96, some 97, none, none, none, none, none, none, none, none, none, none, none, none, none, none, none, none, none, none, none, none, none, none, none, none, none, none, none, none, none, none, none, none, none, none, none, none, none, none] (fun s w' => Mut [] V w' ∧ (∃ g : Nat, s 14 = .pointer (some ⟨g, 0, none⟩) ∧ V.heap.size ≤ g ∧ w'.heap[g]? = some (cobj 25 [ww])) ∧ s 15 = .int .i64 0) (fun _ _ => False) ?_ ?_ ?_
      · intro Q2 hQ2 hP2
        refine (wpIn_wide (n := 0)).1 (show Code.wpIn (G none) 0 _ _ _ _ _ from ?_)
        refine wp_region_G (b := true) (Pn := (fun _ _ => False)) (Sr19 V k t A B ee ww ll sq0 b g0 g1 g2 g3) (by kernel_rfl) (by kernel_rfl) ?_ ?_ ?_ ?_
        · exact ⟨Mut.start _ true _, fun h => absurd h Bool.false_ne_true, fun h => absurd h Bool.false_ne_true, fun h => absurd h Bool.false_ne_true, fun h => absurd h Bool.false_ne_true, fun h => absurd h Bool.false_ne_true, fun h => absurd h Bool.false_ne_true, fun h => absurd h Bool.false_ne_true, fun h => absurd h Bool.false_ne_true, fun h => absurd h Bool.false_ne_true, fun h => absurd h Bool.false_ne_true, fun h => absurd h Bool.false_ne_true, fun h => absurd h Bool.false_ne_true, fun h => absurd h Bool.false_ne_true⟩
        · refine AllSP.cons ?_ (AllSP.cons ?_ (AllSP.cons ?_ (AllSP.cons ?_ (AllSP.cons ?_ (AllSP.cons ?_ (AllSP.cons ?_ (AllSP.cons ?_ (AllSP.cons ?_ (AllSP.cons ?_ (AllSP.cons ?_ (AllSP.cons ?_ (AllSP.cons ?_ AllSP.nil))))))))))))
          · intro L s w2 h hk hd hn
            have s12 : s 12 = _ := hk 12 (by kernel_rfl)
            have kb := ((h.mu.same _ ((Array.getElem?_eq_some_iff.1 HEN.out).1) (by simp)).trans HEN.out)
            refine stepSP rfl fun K hK => ?_
            exact rs_load rfl s12 (sp_load (p := 0) kb (by simp)) (hK _ _ { h with e0 := fun _ => rfl })
          · intro L s w2 h hk hd hn
            have s3 : s 3 = _ := hk 3 (by kernel_rfl)
            refine stepSP rfl fun K hK => ?_
            exact rs_move rfl s3 (hK _ _ { h with e1 := fun _ => rfl })
          · intro L s w2 h hk hd hn
            have s90 := h.e1 hd.1
            have e1 := wr_mul16 (show -16 ≤ t ∧ t ≤ 16 by have := HT.out; omega)
            refine stepSP rfl fun K hK => ?_
            go_simp
            exact hK _ _ { h with e2 := fun _ => rfl }
          · intro L s w2 h hk hd hn
            have s91 := h.e2 hd.1
            have e1 := quo16 t
            have e2 := wr_quo16 (show -16 ≤ t ∧ t ≤ 16 by have := HT.out; omega)
            refine stepSP rfl fun K hK => ?_
            go_simp
            exact hK _ _ { h with e3 := fun _ => rfl }
          · intro L s w2 h hk hd hn
            have s92 := h.e3 hd.1
            have e1 := wr_sub HT.out
            refine stepSP rfl fun K hK => ?_
            go_simp
            exact hK _ _ { h with e4 := fun _ => rfl }
          · intro L s w2 h hk hd hn
            have s93 := h.e4 hd.1
            refine stepSP rfl fun K hK => ?_
            go_simp
            refine (law21_pt (4294967296 - t * 268435456) _).mono ?_
            rintro e w3 ⟨rfl, hb⟩
            exact .inl ⟨_, rfl, hK _ _ { h with mu := h.mu.step hb, al_wh := fun a => let ⟨g, h0, h1, hl, h2, h3⟩ := h.al_wh a; ⟨g, h0, h1, Nat.lt_of_lt_of_le hl hb.size, fun c => (hb.block _ (lt_of_block (h2 c))).trans (h2 c), fun c => (hb.block _ (lt_of_block (h3 c))).trans (h3 c)⟩, e5 := fun _ => rfl }⟩
          · intro L s w2 h hk hd hn
            have s89 := h.e0 hd.1
            have s94 := h.e5 hd.2.1
            refine stepSP rfl fun K hK => ?_
            go_simp
            refine (gMulS HSER.out.hW _).mono ?_
            rintro e w3 ⟨rfl, hb⟩
            exact .inl ⟨_, rfl, hK _ _ { h with mu := h.mu.step hb, al_wh := fun a => let ⟨g, h0, h1, hl, h2, h3⟩ := h.al_wh a; ⟨g, h0, h1, Nat.lt_of_lt_of_le hl hb.size, fun c => (hb.block _ (lt_of_block (h2 c))).trans (h2 c), fun c => (hb.block _ (lt_of_block (h3 c))).trans (h3 c)⟩, e6 := fun _ => rfl }⟩
          · intro L s w2 h hk hd hn
            have s95 := h.e6 hd.1
            refine stepSP rfl fun K hK => ?_
            exact rs_move rfl s95 (hK _ _ { h with e7 := fun _ => rfl })
          · intro L s w2 h hk hd hn
            have s88 := h.e7 hd.1
            refine stepSP rfl fun K hK => ?_
            exact rs_extract rfl s88 rfl (hK _ _ { h with e8 := fun _ => rfl })
          · intro L s w2 h hk hd hn
            have s88 := h.e7 hd.1
            refine stepSP rfl fun K hK => ?_
            exact rs_extract rfl s88 rfl (hK _ _ { h with e9 := fun _ => rfl })
          · intro L s w2 h hk hd hn
            refine stepSP rfl fun K hK => ?_
            go_simp
            exact hK _ _ { h with mu := h.mu.alloc _, al_wh := fun _ => ⟨_, rfl, h.mu.size, by simp, fun _ => heap_at _ rfl, fun a => absurd (h.b11_10 a) (by rw [hn]; exact Bool.false_ne_true)⟩, b11_10 := fun _ => rfl }
          · intro L s w2 h hk hd hn
            have s96 := h.e8 hd.2.1
            obtain ⟨g, hg0, hg1, hgl, hg2, hg3⟩ := h.al_wh hd.1
            have kb := hg2 hn
            refine stepSP rfl fun K hK => ?_
            exact rs_store rfl hg0 s96 (sp_store (p := 0) kb (by simp) ww) (hK _ _ { h with mu := h.mu.putNew hg1 _, al_wh := fun a => ⟨g, hg0, hg1, by simpa using hgl, nF, fun _ => pH kb⟩, b11_10 := fun _ => hd.1 })
          · intro L s w2 h hk hd hn
            have s97 := h.e9 hd.1
            refine stepSP rfl fun K hK => ?_
            exact rs_assign rfl s97 (hK _ _ { h with e12 := fun _ => rfl })
        · intro L s w2 h hk hl
          refine (congrArg (fun a => Q2 .normal a w2) (?_ : _ = _)).mpr (hQ2 s w2 (⟨h.mu, (let ⟨g, h0, h1, _, _, h3⟩ := h.al_wh (hl 10 (by decide)); ⟨g, h0, h1, h3 (hl 11 (by decide))⟩), h.e12 (hl 12 (by decide))⟩))
          exact frame_eq hk (by kernel_rfl) (by kernel_rfl)
        · intro c s w2 hc
          exact hc.elim
      rotate_left
      · rintro _ _ _ h
        exact h.elim
      rintro s19 V ⟨h1, ⟨g4, k_wh, g_wh, c_wh⟩, k15⟩
      simp only [mergeL]
      rw [k_wh]
      rw [k15]
      replace HLT := Lib.hid (show b ≤ g4 ∧ g0 < g4 ∧ g1 < g4 ∧ g2 < g4 ∧ g3 < g4 ∧ b ≤ g3 ∧ g0 < g3 ∧ g1 < g3 ∧ g2 < g3 ∧ b ≤ g2 ∧ g0 < g2 ∧ g1 < g2 ∧ b ≤ g1 ∧ g0 < g1 ∧ b ≤ g0 from by
        have hlt := HLT.out
        have hbw := HM.out.size
        have hbw2 := HBW.out
        have := lt_of_block HA.out
        have := lt_of_block HB.out
        have := lt_of_block HBI.out
        have := lt_of_block HEN.out
        omega)
      replace HA := Lib.hid ((h1.same _ (lt_of_block HA.out) (by simp)).trans HA.out)
      replace HB := Lib.hid ((h1.same _ (lt_of_block HB.out) (by simp)).trans HB.out)
      replace HBI := Lib.hid ((h1.same _ (lt_of_block HBI.out) (by simp)).trans HBI.out)
      replace HEN := Lib.hid ((h1.same _ (lt_of_block HEN.out) (by simp)).trans HEN.out)
      have HWH := Lib.hid c_wh
      replace HM := Lib.hid (HM.out.stepM h1 (by simp))
      clear h1 k_wh g_wh c_wh k15
      refine HK19.out _ _ ?_
      refine wp_seq_k fun K20 hK20 => ?_
      have HK20 := Lib.hid hK20
      clear hK20
      refine wp_cut_mergeP [none, none, none, none, none, none, none, none, none, none, none, none, none, none, none, none, some 16, some 17, none, none, none, none, none, none, none, none, none, none, none, none, none, none, none, none, none, none, none, none, none, none, none, none, none, none, none, none, none, none, none, none, none, none, none, none, none, none, none, none, none, none, none, none, none, none, none, none, none, none, none, none, none, none, none, none, none, none, none, none, none, none, none, none, none, none, none, none, none, none, none, none, none, none, none, none, none, none, none, none, some 98, some 99, some 100, some 101, some 102, some 103, some 104, none, none, none, none, none, none, none, none, none, none, none, none, none, none, none, none, none, none, none, none, none, none, none, none, none, none, none, none, none, none, none] (fun s w' => Mut [] V w' ∧ (∃ g : Nat, s 16 = .pointer (some ⟨g, 0, none⟩) ∧ V.heap.size ≤ g ∧ w'.heap[g]? = some (cobj 25 [ll])) ∧ s 17 = .int .i64 0) (fun _ _ => False) ?_ ?_ ?_
      · intro Q2 hQ2 hP2
        refine (wpIn_wide (n := 0)).1 (show Code.wpIn (G none) 0 _ _ _ _ _ from ?_)
        refine wp_region_G (b := true) (Pn := (fun _ _ => False)) (Sr20 V k t A B ee ww ll sq0 b g0 g1 g2 g3 g4) (by kernel_rfl) (by kernel_rfl) ?_ ?_ ?_ ?_
        · exact ⟨Mut.start _ true _, fun h => absurd h Bool.false_ne_true, fun h => absurd h Bool.false_ne_true, fun h => absurd h Bool.false_ne_true, fun h => absurd h Bool.false_ne_true, fun h => absurd h Bool.false_ne_true, fun h => absurd h Bool.false_ne_true, fun h => absurd h Bool.false_ne_true, fun h => absurd h Bool.false_ne_true, fun h => absurd h Bool.false_ne_true, fun h => absurd h Bool.false_ne_true⟩
        · refine AllSP.cons ?_ (AllSP.cons ?_ (AllSP.cons ?_ (AllSP.cons ?_ (AllSP.cons ?_ (AllSP.cons ?_ (AllSP.cons ?_ (AllSP.cons ?_ (AllSP.cons ?_ (AllSP.cons ?_ AllSP.nil)))))))))
          · intro L s w2 h hk hd hn
            have s6 : s 6 = _ := hk 6 (by kernel_rfl)
            have kb := ((h.mu.same _ ((Array.getElem?_eq_some_iff.1 HB.out).1) (by simp)).trans HB.out)
            refine stepSP rfl fun K hK => ?_
            exact rs_load rfl s6 (md_load kb HSER.out.lB) (hK _ _ { h with e0 := fun _ => rfl })
          · intro L s w2 h hk hd hn
            refine stepSP rfl fun K hK => ?_
            go_simp
            refine (law21_pt (-4294967296) _).mono ?_
            rintro e w3 ⟨rfl, hb⟩
            exact .inl ⟨_, rfl, hK _ _ { h with mu := h.mu.step hb, al_lf := fun a => let ⟨g, h0, h1, hl, h2, h3⟩ := h.al_lf a; ⟨g, h0, h1, Nat.lt_of_lt_of_le hl hb.size, fun c => (hb.block _ (lt_of_block (h2 c))).trans (h2 c), fun c => (hb.block _ (lt_of_block (h3 c))).trans (h3 c)⟩, e1 := fun _ => rfl }⟩
          · intro L s w2 h hk hd hn
            refine stepSP rfl fun K hK => ?_
            go_simp
            refine (law21_pt 0 _).mono ?_
            rintro e w3 ⟨rfl, hb⟩
            exact .inl ⟨_, rfl, hK _ _ { h with mu := h.mu.step hb, al_lf := fun a => let ⟨g, h0, h1, hl, h2, h3⟩ := h.al_lf a; ⟨g, h0, h1, Nat.lt_of_lt_of_le hl hb.size, fun c => (hb.block _ (lt_of_block (h2 c))).trans (h2 c), fun c => (hb.block _ (lt_of_block (h3 c))).trans (h3 c)⟩, e2 := fun _ => rfl }⟩
          · intro L s w2 h hk hd hn
            have s99 := h.e0 hd.1
            have s100 := h.e1 hd.2.1
            have s101 := h.e2 hd.2.2.1
            refine stepSP rfl fun K hK => ?_
            go_simp
            refine (gEval HSER.out.lB HSER.out.rB (okU_pt (by omega)) (okU_pt (by omega)) HSER.out.hL _).mono ?_
            rintro e w3 ⟨rfl, hb⟩
            exact .inl ⟨_, rfl, hK _ _ { h with mu := h.mu.step hb, al_lf := fun a => let ⟨g, h0, h1, hl, h2, h3⟩ := h.al_lf a; ⟨g, h0, h1, Nat.lt_of_lt_of_le hl hb.size, fun c => (hb.block _ (lt_of_block (h2 c))).trans (h2 c), fun c => (hb.block _ (lt_of_block (h3 c))).trans (h3 c)⟩, e3 := fun _ => rfl }⟩
          · intro L s w2 h hk hd hn
            have s102 := h.e3 hd.1
            refine stepSP rfl fun K hK => ?_
            exact rs_move rfl s102 (hK _ _ { h with e4 := fun _ => rfl })
          · intro L s w2 h hk hd hn
            have s98 := h.e4 hd.1
            refine stepSP rfl fun K hK => ?_
            exact rs_extract rfl s98 rfl (hK _ _ { h with e5 := fun _ => rfl })
          · intro L s w2 h hk hd hn
            have s98 := h.e4 hd.1
            refine stepSP rfl fun K hK => ?_
            exact rs_extract rfl s98 rfl (hK _ _ { h with e6 := fun _ => rfl })
          · intro L s w2 h hk hd hn
            refine stepSP rfl fun K hK => ?_
            go_simp
            exact hK _ _ { h with mu := h.mu.alloc _, al_lf := fun _ => ⟨_, rfl, h.mu.size, by simp, fun _ => heap_at _ rfl, fun a => absurd (h.b8_7 a) (by rw [hn]; exact Bool.false_ne_true)⟩, b8_7 := fun _ => rfl }
          · intro L s w2 h hk hd hn
            have s103 := h.e5 hd.2.1
            obtain ⟨g, hg0, hg1, hgl, hg2, hg3⟩ := h.al_lf hd.1
            have kb := hg2 hn
            refine stepSP rfl fun K hK => ?_
            exact rs_store rfl hg0 s103 (sp_store (p := 0) kb (by simp) ll) (hK _ _ { h with mu := h.mu.putNew hg1 _, al_lf := fun a => ⟨g, hg0, hg1, by simpa using hgl, nF, fun _ => pH kb⟩, b8_7 := fun _ => hd.1 })
          · intro L s w2 h hk hd hn
            have s104 := h.e6 hd.1
            refine stepSP rfl fun K hK => ?_
            exact rs_assign rfl s104 (hK _ _ { h with e9 := fun _ => rfl })
        · intro L s w2 h hk hl
          refine (congrArg (fun a => Q2 .normal a w2) (?_ : _ = _)).mpr (hQ2 s w2 (⟨h.mu, (let ⟨g, h0, h1, _, _, h3⟩ := h.al_lf (hl 7 (by decide)); ⟨g, h0, h1, h3 (hl 8 (by decide))⟩), h.e9 (hl 9 (by decide))⟩))
          exact frame_eq hk (by kernel_rfl) (by kernel_rfl)
        · intro c s w2 hc
          exact hc.elim
      rotate_left
      · rintro _ _ _ h
        exact h.elim
      rintro s20 V ⟨h1, ⟨g5, k_lf, g_lf, c_lf⟩, k17⟩
      simp only [mergeL]
      rw [k_lf]
      rw [k17]
      replace HLT := Lib.hid (show b ≤ g5 ∧ g0 < g5 ∧ g1 < g5 ∧ g2 < g5 ∧ g3 < g5 ∧ g4 < g5 ∧ b ≤ g4 ∧ g0 < g4 ∧ g1 < g4 ∧ g2 < g4 ∧ g3 < g4 ∧ b ≤ g3 ∧ g0 < g3 ∧ g1 < g3 ∧ g2 < g3 ∧ b ≤ g2 ∧ g0 < g2 ∧ g1 < g2 ∧ b ≤ g1 ∧ g0 < g1 ∧ b ≤ g0 from by
        have hlt := HLT.out
        have hbw := HM.out.size
        have hbw2 := HBW.out
        have := lt_of_block HA.out
        have := lt_of_block HB.out
        have := lt_of_block HBI.out
        have := lt_of_block HEN.out
        have := lt_of_block HWH.out
        omega)
      replace HA := Lib.hid ((h1.same _ (lt_of_block HA.out) (by simp)).trans HA.out)
      replace HB := Lib.hid ((h1.same _ (lt_of_block HB.out) (by simp)).trans HB.out)
      replace HBI := Lib.hid ((h1.same _ (lt_of_block HBI.out) (by simp)).trans HBI.out)
      replace HEN := Lib.hid ((h1.same _ (lt_of_block HEN.out) (by simp)).trans HEN.out)
      replace HWH := Lib.hid ((h1.same _ (lt_of_block HWH.out) (by simp)).trans HWH.out)
      have HLF := Lib.hid c_lf
      replace HM := Lib.hid (HM.out.stepM h1 (by simp))
      clear h1 k_lf g_lf c_lf k17
      refine HK20.out _ _ ?_
      refine wp_seq_k fun K21 hK21 => ?_
      have HK21 := Lib.hid hK21
      clear hK21
      refine wp_cut_mergeP [none, none, none, none, none, none, none, none, none, none, none, none, none, none, none, none, none, none, some 18, some 19, none, none, none, none, none, none, none, none, none, none, none, none, none, none, none, none, none, none, none, none, none, none, none, none, none, none, none, none, none, none, none, none, none, none, none, none, none, none, none, none, none, none, none, none, none, none, none, none, none, none, none, none, none, none, none, none, none, none, none, none, none, none, none, none, none, none, none, none, none, none, none, none, none, none, none, none, none, none, none, none, none, none, none, none, none, some 105, some 106, some 107, some 108, some 109, none, none, none, none, none, none, none, none, none, none, none, none, none, none, none, none, none, none, none, none, none, none, none, none, none, none] (fun s w' => Mut [] V w' ∧ (∃ g : Nat, s 18 = .pointer (some ⟨g, 0, none⟩) ∧ V.heap.size ≤ g ∧ w'.heap[g]? = some (cobj 25 [sq0])) ∧ s 19 = .int .i64 0) (fun _ _ => False) ?_ ?_ ?_
      · intro Q2 hQ2 hP2
        refine (wpIn_wide (n := 0)).1 (show Code.wpIn (G none) 0 _ _ _ _ _ from ?_)
        refine wp_region_G (b := false) (Pn := (fun _ _ => False)) (Sr21 V k t A B ee ww ll sq0 b g0 g1 g2 g3 g4 g5) (by kernel_rfl) (by kernel_rfl) ?_ ?_ ?_ ?_
        · exact ⟨Mut.start _ false _, fun h => absurd h Bool.false_ne_true, fun h => absurd h Bool.false_ne_true, fun h => absurd h Bool.false_ne_true, fun h => absurd h Bool.false_ne_true, fun h => absurd h Bool.false_ne_true, fun h => absurd h Bool.false_ne_true, fun h => absurd h Bool.false_ne_true, fun h => absurd h Bool.false_ne_true⟩
        · refine AllSP.cons ?_ (AllSP.cons ?_ (AllSP.cons ?_ (AllSP.cons ?_ (AllSP.cons ?_ (AllSP.cons ?_ (AllSP.cons ?_ (AllSP.cons ?_ AllSP.nil)))))))
          · intro L s w2 h hk hd hn
            have s16 : s 16 = _ := hk 16 (by kernel_rfl)
            have kb := ((h.mu.same _ ((Array.getElem?_eq_some_iff.1 HLF.out).1) (by simp)).trans HLF.out)
            refine stepSP rfl fun K hK => ?_
            exact rs_load rfl s16 (sp_load (p := 0) kb (by simp)) (hK _ _ { h with e0 := fun _ => rfl })
          · intro L s w2 h hk hd hn
            have s106 := h.e0 hd.1
            refine stepSP rfl fun K hK => ?_
            go_simp
            refine (gSqr HSER.out.hS _).mono ?_
            rintro e w3 ⟨rfl, hb⟩
            exact .inl ⟨_, rfl, hK _ _ { h with mu := h.mu.step hb, al_sq := fun a => let ⟨g, h0, h1, hl, h2, h3⟩ := h.al_sq a; ⟨g, h0, h1, Nat.lt_of_lt_of_le hl hb.size, fun c => (hb.block _ (lt_of_block (h2 c))).trans (h2 c), fun c => (hb.block _ (lt_of_block (h3 c))).trans (h3 c)⟩, e1 := fun _ => rfl }⟩
          · intro L s w2 h hk hd hn
            have s107 := h.e1 hd.1
            refine stepSP rfl fun K hK => ?_
            exact rs_move rfl s107 (hK _ _ { h with e2 := fun _ => rfl })
          · intro L s w2 h hk hd hn
            have s105 := h.e2 hd.1
            refine stepSP rfl fun K hK => ?_
            exact rs_extract rfl s105 rfl (hK _ _ { h with e3 := fun _ => rfl })
          · intro L s w2 h hk hd hn
            have s105 := h.e2 hd.1
            refine stepSP rfl fun K hK => ?_
            exact rs_extract rfl s105 rfl (hK _ _ { h with e4 := fun _ => rfl })
          · intro L s w2 h hk hd hn
            refine stepSP rfl fun K hK => ?_
            go_simp
            exact hK _ _ { h with mu := h.mu.alloc _, al_sq := fun _ => ⟨_, rfl, h.mu.size, by simp, fun _ => heap_at _ rfl, fun a => absurd (h.b6_5 a) (by rw [hn]; exact Bool.false_ne_true)⟩, b6_5 := fun _ => rfl }
          · intro L s w2 h hk hd hn
            have s108 := h.e3 hd.2.1
            obtain ⟨g, hg0, hg1, hgl, hg2, hg3⟩ := h.al_sq hd.1
            have kb := hg2 hn
            refine stepSP rfl fun K hK => ?_
            exact rs_store rfl hg0 s108 (sp_store (p := 0) kb (by simp) sq0) (hK _ _ { h with mu := h.mu.putNew hg1 _, al_sq := fun a => ⟨g, hg0, hg1, by simpa using hgl, nF, fun _ => pH kb⟩, b6_5 := fun _ => hd.1 })
          · intro L s w2 h hk hd hn
            have s109 := h.e4 hd.1
            refine stepSP rfl fun K hK => ?_
            exact rs_assign rfl s109 (hK _ _ { h with e7 := fun _ => rfl })
        · intro L s w2 h hk hl
          refine (congrArg (fun a => Q2 .normal a w2) (?_ : _ = _)).mpr (hQ2 s w2 (⟨h.mu, (let ⟨g, h0, h1, _, _, h3⟩ := h.al_sq (hl 5 (by decide)); ⟨g, h0, h1, h3 (hl 6 (by decide))⟩), h.e7 (hl 7 (by decide))⟩))
          exact frame_eq hk (by kernel_rfl) (by kernel_rfl)
        · intro c s w2 hc
          exact hc.elim
      rotate_left
      · rintro _ _ _ h
        exact h.elim
      rintro s21 V ⟨h1, ⟨g6, k_sq, g_sq, c_sq⟩, k19⟩
      simp only [mergeL]
      rw [k_sq]
      rw [k19]
      replace HLT := Lib.hid (show b ≤ g6 ∧ g0 < g6 ∧ g1 < g6 ∧ g2 < g6 ∧ g3 < g6 ∧ g4 < g6 ∧ g5 < g6 ∧ b ≤ g5 ∧ g0 < g5 ∧ g1 < g5 ∧ g2 < g5 ∧ g3 < g5 ∧ g4 < g5 ∧ b ≤ g4 ∧ g0 < g4 ∧ g1 < g4 ∧ g2 < g4 ∧ g3 < g4 ∧ b ≤ g3 ∧ g0 < g3 ∧ g1 < g3 ∧ g2 < g3 ∧ b ≤ g2 ∧ g0 < g2 ∧ g1 < g2 ∧ b ≤ g1 ∧ g0 < g1 ∧ b ≤ g0 from by
        have hlt := HLT.out
        have hbw := HM.out.size
        have hbw2 := HBW.out
        have := lt_of_block HA.out
        have := lt_of_block HB.out
        have := lt_of_block HBI.out
        have := lt_of_block HEN.out
        have := lt_of_block HWH.out
        have := lt_of_block HLF.out
        omega)
      replace HA := Lib.hid ((h1.same _ (lt_of_block HA.out) (by simp)).trans HA.out)
      replace HB := Lib.hid ((h1.same _ (lt_of_block HB.out) (by simp)).trans HB.out)
      replace HBI := Lib.hid ((h1.same _ (lt_of_block HBI.out) (by simp)).trans HBI.out)
      replace HEN := Lib.hid ((h1.same _ (lt_of_block HEN.out) (by simp)).trans HEN.out)
      replace HWH := Lib.hid ((h1.same _ (lt_of_block HWH.out) (by simp)).trans HWH.out)
      replace HLF := Lib.hid ((h1.same _ (lt_of_block HLF.out) (by simp)).trans HLF.out)
      have HSQ := Lib.hid c_sq
      replace HM := Lib.hid (HM.out.stepM h1 (by simp))
      clear h1 k_sq g_sq c_sq k19
      refine HK21.out _ _ ?_
      refine wp_seq_k fun K22 hK22 => ?_
      have HK22 := Lib.hid hK22
      clear hK22
      refine wp_cut_mergeP [none, none, some 2, none, none, none, none, none, none, none, none, none, none, none, none, none, none, none, none, none, none, none, none, none, none, none, none, none, none, none, none, none, none, none, none, none, none, none, none, none, none, none, none, none, none, none, none, none, none, none, none, none, none, none, none, none, none, none, none, none, none, none, none, none, none, none, none, none, none, none, none, none, none, none, none, none, none, none, none, none, none, none, none, none, none, none, none, none, none, none, none, none, none, none, none, none, none, none, none, none, none, none, none, none, none, none, none, none, none, none, some 110, some 111, some 112, some 113, some 114, some 115, some 116, some 117, some 118, some 119, some 120, some 121, some 122, some 123, some 124, some 125, some 126, some 127, some 128, some 129, some 130, some 131, some 132, some 133, some 134, some 135] (fun s w' => Mut [] V w' ∧ s 2 = .bool true) (fun _ _ => False) ?_ ?_ ?_
      · intro Q2 hQ2 hP2
        refine (wpIn_wide (n := 0)).1 (show Code.wpIn (G none) 0 _ _ _ _ _ from ?_)
        refine wp_region_G (b := false) (Pn := (fun _ _ => False)) (Sr22 V k t A B ee ww ll sq0 b g0 g1 g2 g3 g4 g5 g6) (by kernel_rfl) (by kernel_rfl) ?_ ?_ ?_ ?_
        · exact ⟨Mut.start _ false _, fun h => absurd h Bool.false_ne_true, fun h => absurd h Bool.false_ne_true, fun h => absurd h Bool.false_ne_true, fun h => absurd h Bool.false_ne_true, fun h => absurd h Bool.false_ne_true, fun h => absurd h Bool.false_ne_true, fun h => absurd h Bool.false_ne_true, fun h => absurd h Bool.false_ne_true, fun h => absurd h Bool.false_ne_true, fun h => absurd h Bool.false_ne_true, fun h => absurd h Bool.false_ne_true, fun h => absurd h Bool.false_ne_true, fun h => absurd h Bool.false_ne_true, fun h => absurd h Bool.false_ne_true, fun h => absurd h Bool.false_ne_true, fun h => absurd h Bool.false_ne_true, fun h => absurd h Bool.false_ne_true, fun h => absurd h Bool.false_ne_true, fun h => absurd h Bool.false_ne_true, fun h => absurd h Bool.false_ne_true, fun h => absurd h Bool.false_ne_true, fun h => absurd h Bool.false_ne_true, fun h => absurd h Bool.false_ne_true, fun h => absurd h Bool.false_ne_true, fun h => absurd h Bool.false_ne_true, fun h => absurd h Bool.false_ne_true, fun h => absurd h Bool.false_ne_true⟩
        · refine AllSP.cons ?_ (AllSP.cons ?_ (AllSP.cons ?_ (AllSP.cons ?_ (AllSP.cons ?_ (AllSP.cons ?_ (AllSP.cons ?_ (AllSP.cons ?_ (AllSP.cons ?_ (AllSP.cons ?_ (AllSP.cons ?_ (AllSP.cons ?_ (AllSP.cons ?_ (AllSP.cons ?_ (AllSP.cons ?_ (AllSP.cons ?_ (AllSP.cons ?_ (AllSP.cons ?_ (AllSP.cons ?_ (AllSP.cons ?_ (AllSP.cons ?_ (AllSP.cons ?_ (AllSP.cons ?_ (AllSP.cons ?_ (AllSP.cons ?_ (AllSP.cons ?_ (AllSP.cons ?_ AllSP.nil))))))))))))))))))))))))))
          · intro L s w2 h hk hd hn
            have s13 : s 13 = _ := hk 13 (by kernel_rfl)
            refine stepSP rfl fun K hK => ?_
            exact rs_move rfl s13 (hK _ _ { h with e0 := fun _ => rfl })
          · intro L s w2 h hk hd hn
            have s110 := h.e0 hd.1
            refine stepSP rfl fun K hK => ?_
            go_simp
            exact hK _ _ { h with e1 := fun _ => rfl }
          · intro L s w2 h hk hd hn
            have s111 := h.e1 hd.1
            refine stepSP rfl fun K hK => ?_
            exact rs_move rfl s111 (hK _ _ { h with e2 := fun _ => rfl })
          · intro L s w2 h hk hd hn
            have gq := h.e2 hd.1
            have s15 : s 15 = _ := hk 15 (by kernel_rfl)
            refine stepSP (by simp [Region.wanted, yieldS, gq]) fun K hK => ?_
            exact rs_move rfl s15 (hK _ _ { h with e3 := fun _ => rfl })
          · intro L s w2 h hk hd hn
            have gq := h.e2 hd.2.1
            have s113 := h.e3 hd.1
            refine stepSP (by simp [Region.wanted, yieldS, gq]) fun K hK => ?_
            go_simp
            exact hK _ _ { h with e4 := fun _ => rfl }
          · intro L s w2 h hk hd hn
            have s112 := h.e2 hd.1
            have s114 := h.e4 hd.2.1
            refine stepSP rfl fun K hK => ?_
            go_simp
            exact hK _ _ { h with e5 := fun _ => rfl }
          · intro L s w2 h hk hd hn
            have s115 := h.e5 hd.1
            refine stepSP rfl fun K hK => ?_
            exact rs_move rfl s115 (hK _ _ { h with e6 := fun _ => rfl })
          · intro L s w2 h hk hd hn
            have gq := h.e6 hd.1
            have s17 : s 17 = _ := hk 17 (by kernel_rfl)
            refine stepSP (by simp [Region.wanted, yieldS, gq]) fun K hK => ?_
            exact rs_move rfl s17 (hK _ _ { h with e7 := fun _ => rfl })
          · intro L s w2 h hk hd hn
            have gq := h.e6 hd.2.1
            have s117 := h.e7 hd.1
            refine stepSP (by simp [Region.wanted, yieldS, gq]) fun K hK => ?_
            go_simp
            exact hK _ _ { h with e8 := fun _ => rfl }
          · intro L s w2 h hk hd hn
            have s116 := h.e6 hd.1
            have s118 := h.e8 hd.2.1
            refine stepSP rfl fun K hK => ?_
            go_simp
            exact hK _ _ { h with e9 := fun _ => rfl }
          · intro L s w2 h hk hd hn
            have s119 := h.e9 hd.1
            refine stepSP rfl fun K hK => ?_
            exact rs_move rfl s119 (hK _ _ { h with e10 := fun _ => rfl })
          · intro L s w2 h hk hd hn
            have gq := h.e10 hd.1
            have s19 : s 19 = _ := hk 19 (by kernel_rfl)
            refine stepSP (by simp [Region.wanted, yieldS, gq]) fun K hK => ?_
            exact rs_move rfl s19 (hK _ _ { h with e11 := fun _ => rfl })
          · intro L s w2 h hk hd hn
            have gq := h.e10 hd.2.1
            have s121 := h.e11 hd.1
            refine stepSP (by simp [Region.wanted, yieldS, gq]) fun K hK => ?_
            go_simp
            exact hK _ _ { h with e12 := fun _ => rfl }
          · intro L s w2 h hk hd hn
            have s120 := h.e10 hd.1
            have s122 := h.e12 hd.2.1
            refine stepSP rfl fun K hK => ?_
            go_simp
            exact hK _ _ { h with e13 := fun _ => rfl }
          · intro L s w2 h hk hd hn
            have s123 := h.e13 hd.1
            refine stepSP rfl fun K hK => ?_
            exact rs_move rfl s123 (hK _ _ { h with e14 := fun _ => rfl })
          · intro L s w2 h hk hd hn
            have gq := h.e14 hd.1
            have s14 : s 14 = _ := hk 14 (by kernel_rfl)
            have kb := ((h.mu.same _ ((Array.getElem?_eq_some_iff.1 HWH.out).1) (by simp)).trans HWH.out)
            refine stepSP (by simp [Region.wanted, yieldS, gq]) fun K hK => ?_
            exact rs_load rfl s14 (sp_load (p := 0) kb (by simp)) (hK _ _ { h with e15 := fun _ => rfl })
          · intro L s w2 h hk hd hn
            have gq := h.e14 hd.2.1
            have s125 := h.e15 hd.1
            refine stepSP (by simp [Region.wanted, yieldS, gq]) fun K hK => ?_
            go_simp
            refine (gHas ww 4294967296 HSER.out.w0 HSER.out.w1 _).mono ?_
            rintro e w3 ⟨rfl, hb⟩
            exact .inl ⟨_, rfl, hK _ _ { h with mu := h.mu.step hb, e16 := fun _ => rfl }⟩
          · intro L s w2 h hk hd hn
            have s124 := h.e14 hd.1
            have s126 := h.e16 hd.2.1
            refine stepSP rfl fun K hK => ?_
            go_simp
            exact hK _ _ { h with e17 := fun _ => rfl }
          · intro L s w2 h hk hd hn
            have s127 := h.e17 hd.1
            refine stepSP rfl fun K hK => ?_
            exact rs_move rfl s127 (hK _ _ { h with e18 := fun _ => rfl })
          · intro L s w2 h hk hd hn
            have gq := h.e18 hd.1
            have s18 : s 18 = _ := hk 18 (by kernel_rfl)
            have kb := ((h.mu.same _ ((Array.getElem?_eq_some_iff.1 HSQ.out).1) (by simp)).trans HSQ.out)
            refine stepSP (by simp [Region.wanted, yieldS, gq]) fun K hK => ?_
            exact rs_load rfl s18 (sp_load (p := 0) kb (by simp)) (hK _ _ { h with e19 := fun _ => rfl })
          · intro L s w2 h hk hd hn
            have gq := h.e18 hd.1
            have s3 : s 3 = _ := hk 3 (by kernel_rfl)
            refine stepSP (by simp [Region.wanted, yieldS, gq]) fun K hK => ?_
            exact rs_move rfl s3 (hK _ _ { h with e20 := fun _ => rfl })
          · intro L s w2 h hk hd hn
            have gq := h.e18 hd.2.1
            have s130 := h.e20 hd.1
            have e1 := wr_mul16 (show -16 ≤ t ∧ t ≤ 16 by have := HT.out; omega)
            refine stepSP (by simp [Region.wanted, yieldS, gq]) fun K hK => ?_
            go_simp
            exact hK _ _ { h with e21 := fun _ => rfl }
          · intro L s w2 h hk hd hn
            have gq := h.e18 hd.2.1
            have s131 := h.e21 hd.1
            have e1 := quo16 t
            have e2 := wr_quo16 (show -16 ≤ t ∧ t ≤ 16 by have := HT.out; omega)
            refine stepSP (by simp [Region.wanted, yieldS, gq]) fun K hK => ?_
            go_simp
            exact hK _ _ { h with e22 := fun _ => rfl }
          · intro L s w2 h hk hd hn
            have gq := h.e18 hd.2.1
            have s132 := h.e22 hd.1
            have e1 := wr_sub HT.out
            refine stepSP (by simp [Region.wanted, yieldS, gq]) fun K hK => ?_
            go_simp
            exact hK _ _ { h with e23 := fun _ => rfl }
          · intro L s w2 h hk hd hn
            have gq := h.e18 hd.2.2.1
            have s129 := h.e19 hd.1
            have s133 := h.e23 hd.2.1
            refine stepSP (by simp [Region.wanted, yieldS, gq]) fun K hK => ?_
            go_simp
            refine (gHas sq0 (4294967296 - t * 268435456) HSER.out.s0 HSER.out.s1 _).mono ?_
            rintro e w3 ⟨rfl, hb⟩
            exact .inl ⟨_, rfl, hK _ _ { h with mu := h.mu.step hb, e24 := fun _ => rfl }⟩
          · intro L s w2 h hk hd hn
            have s128 := h.e18 hd.1
            have s134 := h.e24 hd.2.1
            refine stepSP rfl fun K hK => ?_
            go_simp
            exact hK _ _ { h with e25 := fun _ => rfl }
          · intro L s w2 h hk hd hn
            have s135 := h.e25 hd.1
            refine stepSP rfl fun K hK => ?_
            exact rs_assign rfl s135 (hK _ _ { h with e26 := fun _ => rfl })
        · intro L s w2 h hk hl
          refine (congrArg (fun a => Q2 .normal a w2) (?_ : _ = _)).mpr (hQ2 s w2 (⟨h.mu, h.e26 (hl 26 (by decide))⟩))
          exact frame_eq hk (by kernel_rfl) (by kernel_rfl)
        · intro c s w2 hc
          exact hc.elim
      rotate_left
      · rintro _ _ _ h
        exact h.elim
      rintro s22 V ⟨h1, k2⟩
      simp only [mergeL]
      rw [k2]
      replace HA := Lib.hid ((h1.same _ (lt_of_block HA.out) (by simp)).trans HA.out)
      replace HB := Lib.hid ((h1.same _ (lt_of_block HB.out) (by simp)).trans HB.out)
      replace HBI := Lib.hid ((h1.same _ (lt_of_block HBI.out) (by simp)).trans HBI.out)
      replace HEN := Lib.hid ((h1.same _ (lt_of_block HEN.out) (by simp)).trans HEN.out)
      replace HWH := Lib.hid ((h1.same _ (lt_of_block HWH.out) (by simp)).trans HWH.out)
      replace HLF := Lib.hid ((h1.same _ (lt_of_block HLF.out) (by simp)).trans HLF.out)
      replace HSQ := Lib.hid ((h1.same _ (lt_of_block HSQ.out) (by simp)).trans HSQ.out)
      replace HM := Lib.hid (HM.out.stepM h1 (by simp))
      clear h1 k2
      refine HK22.out _ _ ?_
      refine wp_ret ?_
      exact bodyPost_ret (v := .bool true) (by simp [results, Try.results3, go_sem]) rfl ⟨rfl, by rw [← HBW.out]; exact HM.out.to0⟩
end Go.Proofs.Ythhkcfpljgdnhaa
