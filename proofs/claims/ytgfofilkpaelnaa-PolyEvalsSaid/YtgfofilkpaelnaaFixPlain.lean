/- Plain: the rounded quotient of 128 bits as the program computes it (with the wrap of q++), its sign, and mul, div, scale, sqrt, fromDec. No program here. -/
import Derived.Test.YtgfofilkpaelnaaPlain
import Derived.WalkKit
namespace Mnc
open Go

/-- The rounded quotient as the program has it; the last step may wrap to 0. -/
def quo (n d : Nat) (away : Bool) : Nat × Bool := if d ≤ n / 18446744073709551616 then (0, false) else if away = true ∧ n % d ≠ 0 then ((n / d + 1) % 18446744073709551616, true) else (n / d, true)

theorem quo_far {hi lo d : Nat} (hl : lo < 18446744073709551616) (h : d ≤ hi) (away : Bool) : quo (hi * 18446744073709551616 + lo) d away = (0, false) := by
  unfold quo
  rw [if_pos (by omega)]

theorem quo_near {hi lo d : Nat} (hl : lo < 18446744073709551616) (h : hi < d) (away : Bool) : quo (hi * 18446744073709551616 + lo) d away = if away = true ∧ (hi * 18446744073709551616 + lo) % d ≠ 0 then (((hi * 18446744073709551616 + lo) / d + 1) % 18446744073709551616, true) else ((hi * 18446744073709551616 + lo) / d, true) := by
  unfold quo
  rw [if_neg (by omega)]

theorem quo_wrap (q : Nat) : (((q + 1) % 18446744073709551616 : Nat) : Int) = IntKind.u64.wrap ((q : Int) + 1) := by
  rw [IntKind.wrap_u64]; simp

theorem quo_lt (n d : Nat) (away : Bool) : (quo n d away).1 < 18446744073709551616 := by
  unfold quo
  split
  · simp
  · split
    · exact Nat.mod_lt _ (by omega)
    · show n / d < _
      rename_i h _
      apply Nat.div_lt_of_lt_mul
      omega

/-- The number of a size, with its sign. -/
def sgn (neg : Bool) (q : Nat × Bool) : Int × Int := if q.2 = false ∨ 4503599627370496 < q.1 then (0, 6) else (if neg then -(q.1 : Int) else (q.1 : Int), 0)
theorem sgn_false (neg : Bool) (q : Nat) : sgn neg (q, false) = (0, 6) := if_pos (Or.inl rfl)
theorem sgn_far (neg : Bool) {q : Nat} {f : Bool} (h : 4503599627370496 < q) : sgn neg (q, f) = (0, 6) := if_pos (Or.inr h)
theorem sgn_near (neg : Bool) {q : Nat} (h : q ≤ 4503599627370496) : sgn neg (q, true) = (if neg then -(q : Int) else (q : Int), 0) := if_neg (by simp; omega)

/-- A product, rounded, as the program has it. -/
def mul (up : Bool) (a b : Int) : Int × Int := if ok a ∧ ok b then sgn (decide (a < 0) != decide (b < 0)) (quo (a.natAbs * b.natAbs) 4294967296 (up != (decide (a < 0) != decide (b < 0)))) else (0, 2)
theorem mul_ok (up : Bool) {a b : Int} (ha : ok a) (hb : ok b) : mul up a b = sgn (decide (a < 0) != decide (b < 0)) (quo (a.natAbs * b.natAbs) 4294967296 (up != (decide (a < 0) != decide (b < 0)))) := if_pos ⟨ha, hb⟩
theorem mul_bad (up : Bool) {a b : Int} (h : ¬ (ok a ∧ ok b)) : mul up a b = (0, 2) := if_neg h

/-- A quotient, rounded. -/
def dvd (up : Bool) (a b : Int) : Int × Int := if ok a ∧ ok b then (if b = 0 then (0, 7) else sgn (decide (a < 0) != decide (b < 0)) (quo (a.natAbs * 4294967296) b.natAbs (up != (decide (a < 0) != decide (b < 0))))) else (0, 2)
theorem dvd_ok (up : Bool) {a b : Int} (ha : ok a) (hb : ok b) (hz : ¬ b = 0) : dvd up a b = sgn (decide (a < 0) != decide (b < 0)) (quo (a.natAbs * 4294967296) b.natAbs (up != (decide (a < 0) != decide (b < 0)))) := by rw [dvd, if_pos ⟨ha, hb⟩, if_neg hz]
theorem dvd_zero (up : Bool) {a b : Int} (ha : ok a) (hb : ok b) (hz : b = 0) : dvd up a b = (0, 7) := by rw [dvd, if_pos ⟨ha, hb⟩, if_pos hz]
theorem dvd_bad (up : Bool) {a b : Int} (h : ¬ (ok a ∧ ok b)) : dvd up a b = (0, 2) := if_neg h

/-- Scaled by a fraction. -/
def sclOk (a n d : Int) : Prop := ok a ∧ -4611686018427387904 ≤ n ∧ n ≤ 4611686018427387904 ∧ 1 ≤ d ∧ d ≤ 4611686018427387904
instance (a n d : Int) : Decidable (sclOk a n d) := by unfold sclOk; exact inferInstance
def scl (up : Bool) (a n d : Int) : Int × Int := if sclOk a n d then sgn (decide (a < 0) != decide (n < 0)) (quo (a.natAbs * n.natAbs) d.toNat (up != (decide (a < 0) != decide (n < 0)))) else (0, 2)
theorem scl_ok (up : Bool) {a n d : Int} (h : sclOk a n d) : scl up a n d = sgn (decide (a < 0) != decide (n < 0)) (quo (a.natAbs * n.natAbs) d.toNat (up != (decide (a < 0) != decide (n < 0)))) := if_pos h
theorem scl_bad (up : Bool) {a n d : Int} (h : ¬ sclOk a n d) : scl up a n d = (0, 2) := if_neg h
end Mnc
