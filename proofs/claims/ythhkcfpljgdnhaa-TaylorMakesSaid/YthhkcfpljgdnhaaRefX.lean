/- Contracts of the reference of layer 1: Right, Check, told, Add, Sub, Neg, size, put, over, Div, quotient, DivDown, DivUp. -/
import Derived.Test.YthhkcfpljgdnhaaFixI
import Derived.Test.YthhkcfpljgdnhaaPl
namespace Go.Proofs.Ythhkcfpljgdnhaa
open Go.RowKit Mnc

theorem ref1_Right (a : Int) (w : World) :
    Calls Try.prog 102 #[.int .i64 a] w fun e w' => e = .returned (.bool (decide (ok a))) ∧ w = w' := by
  by_cases h1 : -4503599627370496 ≤ a
  · by_cases h2 : a ≤ 4503599627370496
    · rw [decide_eq_true (show ok a by unfold ok; omega)]
      go_enter Try.func102, Try.ntmps102
      go_wp2
      go_ret
      exact ⟨rfl, rfl⟩
    · rw [decide_eq_false (show ¬ ok a by unfold ok; omega)]
      go_enter Try.func102, Try.ntmps102
      go_wp2
      go_ret
      exact ⟨rfl, rfl⟩
  · rw [decide_eq_false (show ¬ ok a by unfold ok; omega)]
    go_enter Try.func102, Try.ntmps102
    go_wp2
    go_ret
    exact ⟨rfl, rfl⟩

theorem ref1_Right_ok {a : Int} (h : ok a) (w : World) :
    Calls Try.prog 102 #[.int .i64 a] w fun e w' => e = .returned (.bool true) ∧ w = w' := by
  have := ref1_Right a w
  rw [decide_eq_true h] at this
  exact this
theorem ref1_Right_bad {a : Int} (h : ¬ ok a) (w : World) :
    Calls Try.prog 102 #[.int .i64 a] w fun e w' => e = .returned (.bool false) ∧ w = w' := by
  have := ref1_Right a w
  rw [decide_eq_false h] at this
  exact this

theorem ret_ib {k : IntKind} {a : Int} {b : Bool} {p : Int × Bool} (h : p = (a, b)) : Ending.returned (.tuple #[.int k a, .bool b]) = .returned (.tuple #[.int k p.1, .bool p.2]) := by rw [h]

end Go.Proofs.Ythhkcfpljgdnhaa

/- Contracts of the reference of layer 1: over, Div, quotient, DivDown, DivUp. -/
namespace Go.Proofs.Ythhkcfpljgdnhaa
open Go.RowKit Mnc

theorem bit_tmod (a j : Nat) : ((a : Int) / 2 ^ j).tmod 2 = ((a / 2 ^ j % 2 : Nat) : Int) := by
  have e : (a : Int) / 2 ^ j = ((a / 2 ^ j : Nat) : Int) := by push_cast; rfl
  rw [e, Int.tmod_eq_emod_of_nonneg (Int.natCast_nonneg _)]
  rfl

theorem sum_u64 (x y : Nat) (h : x + y < 18446744073709551616) : IntKind.u64.wrap ((x : Int) + (y : Int)) = ((x + y : Nat) : Int) := by
  rw [M64.addN]; exact M64.wrapN _ h

theorem ret_nbb {k : IntKind} {a : Int} {b c : Bool} {p : Nat × Bool × Bool} (h1 : (p.1 : Int) = a) (h2 : p.2.1 = b) (h3 : p.2.2 = c) : Ending.returned (.tuple #[.int k a, .bool b, .bool c]) = .returned (.tuple #[.int k p.1, .bool p.2.1, .bool p.2.2]) := by rw [h1, h2, h3]

end Go.Proofs.Ythhkcfpljgdnhaa

/- Contracts of the reference of layer 1: Div, quotient, DivDown, DivUp, Sqrt, SqrtDown, SqrtUp. -/
namespace Go.Proofs.Ythhkcfpljgdnhaa
open Go.RowKit Mnc

theorem ovr_le (a n d : Nat) : (ovr a n d).1 ≤ 4503599627370496 := by
  unfold ovr; split
  · assumption
  · omega

theorem putOvr_dv (up : Bool) (a b : Int) (hz : ¬ b = 0) : putOvr (decide (a < 0) != decide (b < 0)) up 4294967296 a.natAbs b.natAbs = fitB (dv up a b) := by
  rw [putOvr_rnd _ _ _ _ _ (by omega), Nat.mul_comm, dv_sign]
  rfl

end Go.Proofs.Ythhkcfpljgdnhaa

/- Contracts of the reference of layer 1: Sqrt, SqrtDown, SqrtUp. -/
namespace Go.Proofs.Ythhkcfpljgdnhaa
open Go.RowKit Mnc

theorem two_tmod (a j : Nat) : ((a : Int) / 2 ^ j).tmod 4 = ((a / 2 ^ j % 4 : Nat) : Int) := by
  have e : (a : Int) / 2 ^ j = ((a / 2 ^ j : Nat) : Int) := by push_cast; rfl
  rw [e, Int.tmod_eq_emod_of_nonneg (Int.natCast_nonneg _)]
  rfl

end Go.Proofs.Ythhkcfpljgdnhaa

/- Contracts of the reference of layer 1: Mul, Scale, scaled, ScaleDown, ScaleUp. -/
namespace Mnc
open Go
/-- What the reference's scaled operation answers. -/
def rScl (up : Bool) (a n d : Int) : Int × Int := if sclOk a n d then fit (rnd up (a * n) d) else (0, 2)
theorem rScl_ok (up : Bool) {a n d : Int} (h : sclOk a n d) : rScl up a n d = fit (rnd up (a * n) d) := if_pos h
theorem rScl_bad (up : Bool) {a n d : Int} (h : ¬ sclOk a n d) : rScl up a n d = (0, 2) := if_neg h
theorem mul_parts (x y : Nat) : x * y / 4294967296 = x / 67108864 * (y / 67108864) * 1048576 + (x / 67108864 * (y % 67108864) + x % 67108864 * (y / 67108864)) / 64 + ((x / 67108864 * (y % 67108864) + x % 67108864 * (y / 67108864)) % 64 * 67108864 + x % 67108864 * (y % 67108864)) / 4294967296 ∧
    x * y % 4294967296 = ((x / 67108864 * (y % 67108864) + x % 67108864 * (y / 67108864)) % 64 * 67108864 + x % 67108864 * (y % 67108864)) % 4294967296 := by
  rw [parts_mul x y]
  exact parts_div
theorem natAbs_sign (a b : Int) : (if (decide (a < 0) != decide (b < 0)) = true then -((a.natAbs * b.natAbs : Nat) : Int) else ((a.natAbs * b.natAbs : Nat) : Int)) = a * b := sign_mul a b
end Mnc
namespace Go.Proofs.Ythhkcfpljgdnhaa
open Go.RowKit Mnc

end Go.Proofs.Ythhkcfpljgdnhaa
