/- Plain: integer square roots; the root as the program has it. No program here. -/
import Derived.Test.YtgfofilkpaelnaaFixPlain
namespace Mnc
open Go

/-- The root of a number, rounded down. -/
def isq : Nat → Nat
  | 0 => 0
  | n + 1 => if (isq n + 1) * (isq n + 1) ≤ n + 1 then isq n + 1 else isq n

theorem isq_spec (n : Nat) : isq n * isq n ≤ n ∧ n < (isq n + 1) * (isq n + 1) := by
  induction n with
  | zero => simp [isq]
  | succ n ih =>
    unfold isq
    split
    · rename_i h
      refine ⟨h, ?_⟩
      have h2 : (isq n + 1 + 1) * (isq n + 1 + 1) = (isq n + 1) * (isq n + 1) + 2 * (isq n + 1) + 1 := by
        generalize isq n + 1 = r
        rw [Nat.mul_add, Nat.add_mul]
        omega
      omega
    · exact ⟨by omega, by omega⟩

theorem sq_lt {a b : Nat} (h : a * a < b * b) : a < b := by
  rcases Nat.lt_or_ge a b with g | g
  · exact g
  · have := Nat.mul_le_mul g g
    omega

theorem isq_eq {n r : Nat} (h1 : r * r ≤ n) (h2 : n < (r + 1) * (r + 1)) : isq n = r := by
  obtain ⟨g1, g2⟩ := isq_spec n
  have a := sq_lt (Nat.lt_of_le_of_lt g1 h2)
  have b := sq_lt (Nat.lt_of_le_of_lt h1 g2)
  omega

/-- One round of the search for a root, bit by bit. -/
def SqAt (n k r : Nat) : Prop := r * r ≤ n ∧ n < (r + 2 ^ (43 - k)) * (r + 2 ^ (43 - k)) ∧ r % 2 ^ (43 - k) = 0 ∧ r + 2 ^ (43 - k) ≤ 2 ^ 43

theorem sqAt_start {n : Nat} (h : n < 2 ^ 86) : SqAt n 0 0 := ⟨by simp, by simpa using h, by simp, by simp⟩

theorem sqAt_take {n k r : Nat} (hk : k < 43) (h : SqAt n k r) (hle : (r + 2 ^ (42 - k)) * (r + 2 ^ (42 - k)) ≤ n) : SqAt n (k + 1) (r + 2 ^ (42 - k)) := by
  obtain ⟨h1, h2, h3, h4⟩ := h
  have e : 43 - k = (42 - k) + 1 := by omega
  have e2 : 43 - (k + 1) = 42 - k := by omega
  rw [e, Nat.pow_succ] at h2 h3 h4
  refine ⟨hle, ?_, ?_, ?_⟩
  · rw [e2, Nat.add_assoc, show 2 ^ (42 - k) + 2 ^ (42 - k) = 2 ^ (42 - k) * 2 by omega]
    exact h2
  · rw [e2, Nat.add_mod_right]
    have hm := Nat.mod_mul_right_mod r (2 ^ (42 - k)) 2
    rw [h3] at hm
    simpa using hm.symm
  · rw [e2]; omega

theorem sqAt_leave {n k r : Nat} (hk : k < 43) (h : SqAt n k r) (hle : ¬ (r + 2 ^ (42 - k)) * (r + 2 ^ (42 - k)) ≤ n) : SqAt n (k + 1) r := by
  obtain ⟨h1, h2, h3, h4⟩ := h
  have e : 43 - k = (42 - k) + 1 := by omega
  have e2 : 43 - (k + 1) = 42 - k := by omega
  rw [e, Nat.pow_succ] at h3 h4
  refine ⟨h1, ?_, ?_, ?_⟩
  · rw [e2]; omega
  · rw [e2]
    have hm := Nat.mod_mul_right_mod r (2 ^ (42 - k)) 2
    rw [h3] at hm
    simpa using hm.symm
  · rw [e2]; omega

theorem sqAt_end {n r : Nat} (h : SqAt n 43 r) : isq n = r := isq_eq h.1 (by simpa using h.2.1)

theorem sqAt_lt {n k r : Nat} (hk : k < 43) (h : SqAt n k r) : r + 2 ^ (42 - k) < 18446744073709551616 := by
  have h4 := h.2.2.2
  have e : 43 - k = (42 - k) + 1 := by omega
  rw [e, Nat.pow_succ] at h4
  have : (2 : Nat) ^ 43 = 8796093022208 := by decide
  omega

/-- The bits of r and the next one do not meet. -/
theorem sqAt_or {n k r : Nat} (hk : k < 43) (h : SqAt n k r) : r ||| 2 ^ (42 - k) = r + 2 ^ (42 - k) := by
  obtain ⟨_, _, h3, _⟩ := h
  have e : 43 - k = (42 - k) + 1 := by omega
  rw [e] at h3
  obtain ⟨q, hq⟩ := Nat.dvd_of_mod_eq_zero h3
  have := Nat.two_pow_add_eq_or_of_lt (i := 42 - k + 1) (b := 2 ^ (42 - k)) (Nat.pow_lt_pow_right (by omega) (by omega)) q
  rw [← hq] at this
  exact this.symm

/-- A root, rounded, as the program has it. -/
def rtOf (up : Bool) (n : Nat) : Nat := if up = true ∧ ¬ isq n * isq n = n then isq n + 1 else isq n
def rt (up : Bool) (a : Int) : Int × Int := if ok a ∧ 0 ≤ a then (((rtOf up (a.toNat * 4294967296) : Nat) : Int), 0) else (0, 2)
theorem rt_ok (up : Bool) {a : Int} (h : ok a) (h0 : 0 ≤ a) : rt up a = (((rtOf up (a.toNat * 4294967296) : Nat) : Int), 0) := if_pos ⟨h, h0⟩
theorem rt_bad (up : Bool) {a : Int} (h : ¬ (ok a ∧ 0 ≤ a)) : rt up a = (0, 2) := if_neg h

theorem isq_le {n r : Nat} (h : n ≤ r * r) : isq n ≤ r := by
  have := (isq_spec n).1
  rcases Nat.lt_or_ge r (isq n) with g | g
  · have := Nat.mul_lt_mul'' g g
    omega
  · exact g

theorem rtOf_le (up : Bool) {n r : Nat} (h : n ≤ r * r) : rtOf up n ≤ r := by
  unfold rtOf
  have h1 := isq_le h
  split
  · rename_i g
    rcases Nat.lt_or_ge (isq n) r with k | k
    · omega
    · have e : isq n = r := by omega
      have := (isq_spec n).1
      rw [e] at this g
      exact absurd (by omega) g.2
  · exact h1

/-- A decimal number, rounded to one side. -/
def decOf (up : Bool) (a : Int) (k : Nat) : Int × Int := sgn (decide (a < 0)) (quo (a.natAbs * 4294967296) (10 ^ k) (up != decide (a < 0)))
def dec (a d : Int) : Int × Int × Int := if 0 ≤ d ∧ d < 13 then (if (decOf false a d.toNat).2 = 0 then (if (decOf true a d.toNat).2 = 0 then ((decOf false a d.toNat).1, (decOf true a d.toNat).1, 0) else (0, 0, (decOf true a d.toNat).2)) else (0, 0, (decOf false a d.toNat).2)) else (0, 0, 2)
theorem dec_bad {a d : Int} (h : ¬ (0 ≤ d ∧ d < 13)) : dec a d = (0, 0, 2) := if_neg h
theorem dec_in (a : Int) {k : Nat} (h : k < 13) : dec a k = if (decOf false a k).2 = 0 then (if (decOf true a k).2 = 0 then ((decOf false a k).1, (decOf true a k).1, 0) else (0, 0, (decOf true a k).2)) else (0, 0, (decOf false a k).2) := by
  rw [dec, if_pos (by omega), Int.toNat_natCast]
end Mnc
