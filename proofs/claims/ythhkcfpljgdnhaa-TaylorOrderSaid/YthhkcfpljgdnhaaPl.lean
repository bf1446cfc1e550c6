/- Plain arithmetic under the walks: fixed-point numbers, rounded quotients. No program here. -/
import Derived.RowKit
import Derived.Calls
import Derived.WalkKit
namespace Mnc
open Go

theorem ret_int {k : IntKind} {a b : Int} (h : a = b) : Ending.returned (.int k a) = .returned (.int k b) := by rw [h]

theorem ret2 {k k' : IntKind} {a b : Int} {p : Int × Int} (h : p = (a, b)) : Ending.returned (.tuple #[.int k a, .int k' b]) = .returned (.tuple #[.int k p.1, .int k' p.2]) := by rw [h]

/-- A fixed-point number. -/
def ok (a : Int) : Prop := -4503599627370496 ≤ a ∧ a ≤ 4503599627370496
instance (a : Int) : Decidable (ok a) := by unfold ok; exact inferInstance

/-- What Check answers. -/
def chk (a : Int) : Int := if ok a then 0 else 2
theorem chk_ok {a : Int} (h : ok a) : chk a = 0 := if_pos h
theorem chk_bad {a : Int} (h : ¬ ok a) : chk a = 2 := if_neg h

def chk2 (a b : Int) : Int := if ok a ∧ ok b then 0 else 2
theorem chk2_ok {a b : Int} (ha : ok a) (hb : ok b) : chk2 a b = 0 := if_pos ⟨ha, hb⟩
theorem chk2_l {a b : Int} (ha : ¬ ok a) : chk2 a b = 2 := if_neg fun h => ha h.1
theorem chk2_r {a b : Int} (hb : ¬ ok b) : chk2 a b = 2 := if_neg fun h => hb h.2

/-- An exact result, if it is a fixed-point number. -/
def fit (a : Int) : Int × Int := if ok a then (a, 0) else (0, 6)
theorem fit_ok {a : Int} (h : ok a) : fit a = (a, 0) := if_pos h
theorem fit_bad {a : Int} (h : ¬ ok a) : fit a = (0, 6) := if_neg h

def add (a b : Int) : Int × Int := if ok a ∧ ok b then fit (a + b) else (0, 2)
theorem add_ok {a b : Int} (ha : ok a) (hb : ok b) : add a b = fit (a + b) := if_pos ⟨ha, hb⟩
theorem add_bad {a b : Int} (h : ¬ (ok a ∧ ok b)) : add a b = (0, 2) := if_neg h
def sub (a b : Int) : Int × Int := if ok a ∧ ok b then fit (a - b) else (0, 2)
theorem sub_ok {a b : Int} (ha : ok a) (hb : ok b) : sub a b = fit (a - b) := if_pos ⟨ha, hb⟩
theorem sub_bad {a b : Int} (h : ¬ (ok a ∧ ok b)) : sub a b = (0, 2) := if_neg h
def neg (a : Int) : Int × Int := if ok a then (-a, 0) else (0, 2)
theorem neg_ok {a : Int} (ha : ok a) : neg a = (-a, 0) := if_pos ha
theorem neg_bad {a : Int} (h : ¬ ok a) : neg a = (0, 2) := if_neg h
theorem chk2_bad {a b : Int} (h : ¬ (ok a ∧ ok b)) : chk2 a b = 2 := if_neg h
end Mnc

/- Plain: the rounded quotient of 128 bits as the program computes it (with the wrap of q++), its sign, and mul, div, scale, sqrt, fromDec. No program here. -/
namespace Mnc
open Go

/-- The rounded quotient as the program has it; the last step may wrap to 0. -/
def quo (n d : Nat) (away : Bool) : Nat × Bool := if d ≤ n / 18446744073709551616 then (0, false) else if away = true ∧ n % d ≠ 0 then ((n / d + 1) % 18446744073709551616, true) else (n / d, true)

theorem quo_far {hi lo d : Nat} (hl : lo < 18446744073709551616) (h : d ≤ hi) (away : Bool) : quo (hi * 18446744073709551616 + lo) d away = (0, false) := by
  unfold quo
  rw [if_pos (by omega)]

theorem quo_near {hi lo d : Nat} (hl : lo < 18446744073709551616) (h : hi < d) (away : Bool) : quo (hi * 18446744073709551616 + lo) d away = if away = true ∧ (hi * 18446744073709551616 + lo) % d ≠ 0 then (((hi * 18446744073709551616 + lo) / d + 1) % 18446744073709551616, true) else ((hi * 18446744073709551616 + lo) / d, true) := by
  unfold quo
  rw [if_neg (by omega)]

theorem quo_wrap (q : Nat) : (((q + 1) % 18446744073709551616 : Nat) : Int) = IntKind.u64.wrap ((q : Int) + 1) := by
  rw [IntKind.wrap_u64]; simp

theorem quo_lt (n d : Nat) (away : Bool) : (quo n d away).1 < 18446744073709551616 := by
  unfold quo
  split
  · simp
  · split
    · exact Nat.mod_lt _ (by omega)
    · show n / d < _
      rename_i h _
      apply Nat.div_lt_of_lt_mul
      omega

/-- The number of a size, with its sign. -/
def sgn (neg : Bool) (q : Nat × Bool) : Int × Int := if q.2 = false ∨ 4503599627370496 < q.1 then (0, 6) else (if neg then -(q.1 : Int) else (q.1 : Int), 0)
theorem sgn_false (neg : Bool) (q : Nat) : sgn neg (q, false) = (0, 6) := if_pos (Or.inl rfl)
theorem sgn_far (neg : Bool) {q : Nat} {f : Bool} (h : 4503599627370496 < q) : sgn neg (q, f) = (0, 6) := if_pos (Or.inr h)
theorem sgn_near (neg : Bool) {q : Nat} (h : q ≤ 4503599627370496) : sgn neg (q, true) = (if neg then -(q : Int) else (q : Int), 0) := if_neg (by simp; omega)

/-- A product, rounded, as the program has it. -/
def mul (up : Bool) (a b : Int) : Int × Int := if ok a ∧ ok b then sgn (decide (a < 0) != decide (b < 0)) (quo (a.natAbs * b.natAbs) 4294967296 (up != (decide (a < 0) != decide (b < 0)))) else (0, 2)
theorem mul_ok (up : Bool) {a b : Int} (ha : ok a) (hb : ok b) : mul up a b = sgn (decide (a < 0) != decide (b < 0)) (quo (a.natAbs * b.natAbs) 4294967296 (up != (decide (a < 0) != decide (b < 0)))) := if_pos ⟨ha, hb⟩
theorem mul_bad (up : Bool) {a b : Int} (h : ¬ (ok a ∧ ok b)) : mul up a b = (0, 2) := if_neg h

/-- A quotient, rounded. -/
def dvd (up : Bool) (a b : Int) : Int × Int := if ok a ∧ ok b then (if b = 0 then (0, 7) else sgn (decide (a < 0) != decide (b < 0)) (quo (a.natAbs * 4294967296) b.natAbs (up != (decide (a < 0) != decide (b < 0))))) else (0, 2)
theorem dvd_ok (up : Bool) {a b : Int} (ha : ok a) (hb : ok b) (hz : ¬ b = 0) : dvd up a b = sgn (decide (a < 0) != decide (b < 0)) (quo (a.natAbs * 4294967296) b.natAbs (up != (decide (a < 0) != decide (b < 0)))) := by rw [dvd, if_pos ⟨ha, hb⟩, if_neg hz]
theorem dvd_zero (up : Bool) {a b : Int} (ha : ok a) (hb : ok b) (hz : b = 0) : dvd up a b = (0, 7) := by rw [dvd, if_pos ⟨ha, hb⟩, if_pos hz]
theorem dvd_bad (up : Bool) {a b : Int} (h : ¬ (ok a ∧ ok b)) : dvd up a b = (0, 2) := if_neg h

/-- Scaled by a fraction. -/
def sclOk (a n d : Int) : Prop := ok a ∧ -4611686018427387904 ≤ n ∧ n ≤ 4611686018427387904 ∧ 1 ≤ d ∧ d ≤ 4611686018427387904
instance (a n d : Int) : Decidable (sclOk a n d) := by unfold sclOk; exact inferInstance
def scl (up : Bool) (a n d : Int) : Int × Int := if sclOk a n d then sgn (decide (a < 0) != decide (n < 0)) (quo (a.natAbs * n.natAbs) d.toNat (up != (decide (a < 0) != decide (n < 0)))) else (0, 2)
theorem scl_ok (up : Bool) {a n d : Int} (h : sclOk a n d) : scl up a n d = sgn (decide (a < 0) != decide (n < 0)) (quo (a.natAbs * n.natAbs) d.toNat (up != (decide (a < 0) != decide (n < 0)))) := if_pos h
theorem scl_bad (up : Bool) {a n d : Int} (h : ¬ sclOk a n d) : scl up a n d = (0, 2) := if_neg h
end Mnc

/- Plain: integer square roots; the root as the program has it. No program here. -/
namespace Mnc
open Go

/-- The root of a number, rounded down. -/
def isq : Nat → Nat
  | 0 => 0
  | n + 1 => if (isq n + 1) * (isq n + 1) ≤ n + 1 then isq n + 1 else isq n

theorem isq_spec (n : Nat) : isq n * isq n ≤ n ∧ n < (isq n + 1) * (isq n + 1) := by
  induction n with
  | zero => simp [isq]
  | succ n ih =>
    unfold isq
    split
    · rename_i h
      refine ⟨h, ?_⟩
      have h2 : (isq n + 1 + 1) * (isq n + 1 + 1) = (isq n + 1) * (isq n + 1) + 2 * (isq n + 1) + 1 := by
        generalize isq n + 1 = r
        rw [Nat.mul_add, Nat.add_mul]
        omega
      omega
    · exact ⟨by omega, by omega⟩

theorem sq_lt {a b : Nat} (h : a * a < b * b) : a < b := by
  rcases Nat.lt_or_ge a b with g | g
  · exact g
  · have := Nat.mul_le_mul g g
    omega

theorem isq_eq {n r : Nat} (h1 : r * r ≤ n) (h2 : n < (r + 1) * (r + 1)) : isq n = r := by
  obtain ⟨g1, g2⟩ := isq_spec n
  have a := sq_lt (Nat.lt_of_le_of_lt g1 h2)
  have b := sq_lt (Nat.lt_of_le_of_lt h1 g2)
  omega

/-- One round of the search for a root, bit by bit. -/
def SqAt (n k r : Nat) : Prop := r * r ≤ n ∧ n < (r + 2 ^ (43 - k)) * (r + 2 ^ (43 - k)) ∧ r % 2 ^ (43 - k) = 0 ∧ r + 2 ^ (43 - k) ≤ 2 ^ 43

theorem sqAt_start {n : Nat} (h : n < 2 ^ 86) : SqAt n 0 0 := ⟨by simp, by simpa using h, by simp, by simp⟩

theorem sqAt_take {n k r : Nat} (hk : k < 43) (h : SqAt n k r) (hle : (r + 2 ^ (42 - k)) * (r + 2 ^ (42 - k)) ≤ n) : SqAt n (k + 1) (r + 2 ^ (42 - k)) := by
  obtain ⟨h1, h2, h3, h4⟩ := h
  have e : 43 - k = (42 - k) + 1 := by omega
  have e2 : 43 - (k + 1) = 42 - k := by omega
  rw [e, Nat.pow_succ] at h2 h3 h4
  refine ⟨hle, ?_, ?_, ?_⟩
  · rw [e2, Nat.add_assoc, show 2 ^ (42 - k) + 2 ^ (42 - k) = 2 ^ (42 - k) * 2 by omega]
    exact h2
  · rw [e2, Nat.add_mod_right]
    have hm := Nat.mod_mul_right_mod r (2 ^ (42 - k)) 2
    rw [h3] at hm
    simpa using hm.symm
  · rw [e2]; omega

theorem sqAt_leave {n k r : Nat} (hk : k < 43) (h : SqAt n k r) (hle : ¬ (r + 2 ^ (42 - k)) * (r + 2 ^ (42 - k)) ≤ n) : SqAt n (k + 1) r := by
  obtain ⟨h1, h2, h3, h4⟩ := h
  have e : 43 - k = (42 - k) + 1 := by omega
  have e2 : 43 - (k + 1) = 42 - k := by omega
  rw [e, Nat.pow_succ] at h3 h4
  refine ⟨h1, ?_, ?_, ?_⟩
  · rw [e2]; omega
  · rw [e2]
    have hm := Nat.mod_mul_right_mod r (2 ^ (42 - k)) 2
    rw [h3] at hm
    simpa using hm.symm
  · rw [e2]; omega

theorem sqAt_end {n r : Nat} (h : SqAt n 43 r) : isq n = r := isq_eq h.1 (by simpa using h.2.1)

theorem sqAt_lt {n k r : Nat} (hk : k < 43) (h : SqAt n k r) : r + 2 ^ (42 - k) < 18446744073709551616 := by
  have h4 := h.2.2.2
  have e : 43 - k = (42 - k) + 1 := by omega
  rw [e, Nat.pow_succ] at h4
  have : (2 : Nat) ^ 43 = 8796093022208 := by decide
  omega

/-- The bits of r and the next one do not meet. -/
theorem sqAt_or {n k r : Nat} (hk : k < 43) (h : SqAt n k r) : r ||| 2 ^ (42 - k) = r + 2 ^ (42 - k) := by
  obtain ⟨_, _, h3, _⟩ := h
  have e : 43 - k = (42 - k) + 1 := by omega
  rw [e] at h3
  obtain ⟨q, hq⟩ := Nat.dvd_of_mod_eq_zero h3
  have := Nat.two_pow_add_eq_or_of_lt (i := 42 - k + 1) (b := 2 ^ (42 - k)) (Nat.pow_lt_pow_right (by omega) (by omega)) q
  rw [← hq] at this
  exact this.symm

/-- A root, rounded, as the program has it. -/
def rtOf (up : Bool) (n : Nat) : Nat := if up = true ∧ ¬ isq n * isq n = n then isq n + 1 else isq n
def rt (up : Bool) (a : Int) : Int × Int := if ok a ∧ 0 ≤ a then (((rtOf up (a.toNat * 4294967296) : Nat) : Int), 0) else (0, 2)
theorem rt_ok (up : Bool) {a : Int} (h : ok a) (h0 : 0 ≤ a) : rt up a = (((rtOf up (a.toNat * 4294967296) : Nat) : Int), 0) := if_pos ⟨h, h0⟩
theorem rt_bad (up : Bool) {a : Int} (h : ¬ (ok a ∧ 0 ≤ a)) : rt up a = (0, 2) := if_neg h

theorem isq_le {n r : Nat} (h : n ≤ r * r) : isq n ≤ r := by
  have := (isq_spec n).1
  rcases Nat.lt_or_ge r (isq n) with g | g
  · have := Nat.mul_lt_mul'' g g
    omega
  · exact g

theorem rtOf_le (up : Bool) {n r : Nat} (h : n ≤ r * r) : rtOf up n ≤ r := by
  unfold rtOf
  have h1 := isq_le h
  split
  · rename_i g
    rcases Nat.lt_or_ge (isq n) r with k | k
    · omega
    · have e : isq n = r := by omega
      have := (isq_spec n).1
      rw [e] at this g
      exact absurd (by omega) g.2
  · exact h1

/-- A decimal number, rounded to one side. -/
def decOf (up : Bool) (a : Int) (k : Nat) : Int × Int := sgn (decide (a < 0)) (quo (a.natAbs * 4294967296) (10 ^ k) (up != decide (a < 0)))
def dec (a d : Int) : Int × Int × Int := if 0 ≤ d ∧ d < 13 then (if (decOf false a d.toNat).2 = 0 then (if (decOf true a d.toNat).2 = 0 then ((decOf false a d.toNat).1, (decOf true a d.toNat).1, 0) else (0, 0, (decOf true a d.toNat).2)) else (0, 0, (decOf false a d.toNat).2)) else (0, 0, 2)
theorem dec_bad {a d : Int} (h : ¬ (0 ≤ d ∧ d < 13)) : dec a d = (0, 0, 2) := if_neg h
theorem dec_in (a : Int) {k : Nat} (h : k < 13) : dec a k = if (decOf false a k).2 = 0 then (if (decOf true a k).2 = 0 then ((decOf false a k).1, (decOf true a k).1, 0) else (0, 0, (decOf true a k).2)) else (0, 0, (decOf false a k).2) := by
  rw [dec, if_pos (by omega), Int.toNat_natCast]
end Mnc

/- Plain: what the rounded operations are, mirrored and canonical; the reference's long division and its root. No program here. -/
namespace Mnc
open Go

theorem sgn_not (neg : Bool) (q : Nat × Bool) : sgn (!neg) q = (-(sgn neg q).1, (sgn neg q).2) := by
  unfold sgn
  cases neg <;> (split <;> simp)

theorem quo_zero {d : Nat} (hd : 0 < d) (away : Bool) : quo 0 d away = (0, true) := by
  unfold quo
  rw [if_neg (by simp; omega), if_neg (by simp)]
  simp

theorem sgn_zero (neg : Bool) : sgn neg (0, true) = (0, 0) := by
  rw [sgn_near neg (by omega)]
  cases neg <;> rfl

theorem sgn_bd (neg : Bool) (q : Nat × Bool) : ok (sgn neg q).1 ∧ ((sgn neg q).2 = 0 ∨ (sgn neg q).2 = 6) := by
  unfold sgn ok
  split
  · simp
  · rename_i h
    simp at h
    cases neg <;> simp <;> omega

theorem ok_neg {a : Int} : ok (-a) ↔ ok a := by unfold ok; omega
theorem ok_zero : ok 0 := by unfold ok; omega

theorem mul_bd (up : Bool) (a b : Int) : ok (mul up a b).1 := by
  unfold mul
  split
  · exact (sgn_bd _ _).1
  · exact ok_zero
theorem dvd_bd (up : Bool) (a b : Int) : ok (dvd up a b).1 := by
  unfold dvd
  split
  · split
    · exact ok_zero
    · exact (sgn_bd _ _).1
  · exact ok_zero
theorem scl_bd (up : Bool) (a n d : Int) : ok (scl up a n d).1 := by
  unfold scl
  split
  · exact (sgn_bd _ _).1
  · exact ok_zero
theorem decOf_bd (up : Bool) (a : Int) (k : Nat) : ok (decOf up a k).1 := (sgn_bd _ _).1

theorem mul_mirror (a b : Int) : mul false (-a) b = (-(mul true a b).1, (mul true a b).2) := by
  by_cases h : ok a ∧ ok b
  · rw [mul_ok _ (ok_neg.mpr h.1) h.2, mul_ok _ h.1 h.2]
    by_cases hz : a = 0
    · subst hz
      simp [quo_zero, sgn_zero]
    · have e : decide (-a < 0) = !decide (a < 0) := by
        rw [← decide_not]; apply decide_eq_decide.mpr; omega
      rw [e, Int.natAbs_neg, ← sgn_not]
      generalize decide (a < 0) = x
      generalize decide (b < 0) = y
      cases x <;> cases y <;> rfl
  · rw [mul_bad _ (by rw [ok_neg]; exact h), mul_bad _ h]
    rfl

theorem dvd_mirror (a b : Int) : dvd false a (-b) = (-(dvd true a b).1, (dvd true a b).2) := by
  by_cases h : ok a ∧ ok b
  · by_cases hz : b = 0
    · rw [dvd_zero _ h.1 (ok_neg.mpr h.2) (by omega), dvd_zero _ h.1 h.2 hz]
      rfl
    · rw [dvd_ok _ h.1 (ok_neg.mpr h.2) (by omega), dvd_ok _ h.1 h.2 hz]
      have e : decide (-b < 0) = !decide (b < 0) := by
        rw [← decide_not]; apply decide_eq_decide.mpr; omega
      rw [e, Int.natAbs_neg, ← sgn_not]
      generalize decide (a < 0) = x
      generalize decide (b < 0) = y
      cases x <;> cases y <;> rfl
  · rw [dvd_bad _ (by rw [ok_neg]; exact h), dvd_bad _ h]
    rfl

theorem scl_mirror (a n d : Int) : scl false a (-n) d = (-(scl true a n d).1, (scl true a n d).2) := by
  by_cases h : sclOk a n d
  · have h' : sclOk a (-n) d := by obtain ⟨x1, x2, x3, x4, x5⟩ := h; exact ⟨x1, by omega, by omega, x4, x5⟩
    rw [scl_ok _ h', scl_ok _ h]
    by_cases hz : n = 0
    · subst hz
      have : 0 < d.toNat := by unfold sclOk at h; omega
      simp [quo_zero this, sgn_zero]
    · have e : decide (-n < 0) = !decide (n < 0) := by
        rw [← decide_not]; apply decide_eq_decide.mpr; omega
      rw [e, Int.natAbs_neg, ← sgn_not]
      generalize decide (a < 0) = x
      generalize decide (n < 0) = y
      cases x <;> cases y <;> rfl
  · rw [scl_bad _ (fun g => h (by obtain ⟨x1, x2, x3, x4, x5⟩ := g; exact ⟨x1, by omega, by omega, x4, x5⟩)), scl_bad _ h]
    rfl

theorem decOf_mirror (up : Bool) (a : Int) (k : Nat) : decOf up (-a) k = (-(decOf (!up) a k).1, (decOf (!up) a k).2) := by
  unfold decOf
  by_cases hz : a = 0
  · subst hz
    simp [quo_zero (Nat.pow_pos (n := k) (show 0 < 10 by omega)), sgn_zero]
  · have e : decide (-a < 0) = !decide (a < 0) := by
      rw [← decide_not]; apply decide_eq_decide.mpr; omega
    rw [e, Int.natAbs_neg, ← sgn_not]
    generalize decide (a < 0) = x
    cases x <;> cases up <;> rfl

theorem dec_mirror (a : Int) {k : Nat} (h : k < 13) : (dec (-a) k).2.2 = (dec a k).2.2 ∧ (dec (-a) k).1 = -(dec a k).2.1 ∧ (dec (-a) k).2.1 = -(dec a k).1 := by
  rw [dec_in _ h, dec_in _ h, decOf_mirror, decOf_mirror]
  simp only [Bool.not_false, Bool.not_true]
  have h0 := (sgn_bd (decide (a < 0)) (quo (a.natAbs * 4294967296) (10 ^ k) (false != decide (a < 0)))).2
  have h1 := (sgn_bd (decide (a < 0)) (quo (a.natAbs * 4294967296) (10 ^ k) (true != decide (a < 0)))).2
  unfold decOf
  generalize sgn (decide (a < 0)) (quo (a.natAbs * 4294967296) (10 ^ k) (false != decide (a < 0))) = p at *
  generalize sgn (decide (a < 0)) (quo (a.natAbs * 4294967296) (10 ^ k) (true != decide (a < 0))) = q at *
  rcases h0 with h0 | h0 <;> rcases h1 with h1 | h1 <;> simp [h0, h1]

/-- Rounded to one side. -/
def rnd (up : Bool) (x d : Int) : Int := if up then -((-x) / d) else x / d

theorem cl_nat (n d : Nat) (hd : 0 < d) : -((-(n : Int)) / (d : Int)) = (((if n % d = 0 then n / d else n / d + 1) : Nat) : Int) := by
  have e := Nat.div_add_mod n d
  have hr := Nat.mod_lt n hd
  generalize n / d = q at *
  generalize n % d = r at *
  have hd' : (d : Int) ≠ 0 := by omega
  split
  · rename_i hz
    subst hz
    have : (-(n : Int)) = (d : Int) * (-(q : Int)) := by rw [← e]; push_cast; rw [Int.mul_neg]; omega
    rw [this, Int.mul_ediv_cancel_left _ hd']
    omega
  · have : (-(n : Int)) = ((d : Int) - r) + (d : Int) * (-((q : Int) + 1)) := by
      rw [← e]; push_cast; rw [Int.mul_neg, Int.mul_add]; omega
    rw [this, Int.add_mul_ediv_left _ _ hd', Int.ediv_eq_zero_of_lt (by omega) (by omega)]
    push_cast
    omega

theorem fl_nat (n d : Nat) : (n : Int) / (d : Int) = ((n / d : Nat) : Int) := (Int.natCast_ediv n d).symm

/-- The size of a rounded number. -/
def rsz (away : Bool) (n d : Nat) : Nat := if away = true ∧ n % d ≠ 0 then n / d + 1 else n / d
theorem rsz_ge (away : Bool) (n d : Nat) : n / d ≤ rsz away n d := by unfold rsz; split <;> omega

theorem rnd_size (neg up : Bool) (n d : Nat) (hd : 0 < d) : rnd up (if neg then -(n : Int) else (n : Int)) d = if neg then -((rsz (up != neg) n d : Nat) : Int) else ((rsz (up != neg) n d : Nat) : Int) := by
  have hc := cl_nat n d hd
  have hf := fl_nat n d
  unfold rnd rsz
  generalize n / d = q at *
  generalize n % d = r at *
  by_cases hr : r = 0
  · subst hr
    simp only [if_true] at hc
    cases neg <;> cases up <;> simp <;> omega
  · rw [if_neg hr] at hc
    cases neg <;> cases up <;> simp [hr] <;> omega

theorem ok_sign (neg : Bool) (m : Nat) : ok (if neg then -(m : Int) else (m : Int)) ↔ m ≤ 4503599627370496 := by
  unfold ok
  cases neg <;> simp <;> omega

/-- A rounded quotient with its sign is the rounded number, where the last step does not wrap. -/
theorem sgn_quo (neg up : Bool) (n d : Nat) (hd : 0 < d) (hw : n / d ≠ 18446744073709551615 ∨ n % d = 0) :
    sgn neg (quo n d (up != neg)) = fit (rnd up (if neg then -(n : Int) else (n : Int)) d) := by
  have hq : d ≤ n / 18446744073709551616 ↔ 18446744073709551616 ≤ n / d := by
    rw [Nat.le_div_iff_mul_le (by omega), Nat.le_div_iff_mul_le hd, Nat.mul_comm]
  rw [rnd_size neg up n d hd]
  have hge := rsz_ge (up != neg) n d
  by_cases h1 : d ≤ n / 18446744073709551616
  · have e : quo n d (up != neg) = (0, false) := if_pos h1
    rw [e, sgn_false, fit_bad]
    rw [ok_sign]
    have := hq.mp h1
    omega
  · have h2 : n / d < 18446744073709551616 := by omega
    have e : quo n d (up != neg) = (rsz (up != neg) n d, true) := by
      unfold quo rsz
      rw [if_neg h1]
      split
      · rename_i h3
        have h4 : n / d ≠ 18446744073709551615 := by
          rcases hw with h | h
          · exact h
          · exact absurd h h3.2
        rw [Nat.mod_eq_of_lt (by omega)]
      · rfl
    rw [e]
    generalize rsz (up != neg) n d = m at *
    by_cases h5 : m ≤ 4503599627370496
    · rw [sgn_near neg h5, fit_ok ((ok_sign neg m).mpr h5)]
    · rw [sgn_far neg (by omega), fit_bad (fun g => h5 ((ok_sign neg m).mp g))]

theorem sign_mul (a b : Int) : (if (decide (a < 0) != decide (b < 0)) = true then -((a.natAbs * b.natAbs : Nat) : Int) else ((a.natAbs * b.natAbs : Nat) : Int)) = a * b := by
  rw [← Int.natAbs_mul]
  by_cases ha : a < 0 <;> by_cases hb : b < 0
  · have := Int.mul_pos_of_neg_of_neg ha hb; simp [ha, hb]; omega
  · have := Int.mul_nonpos_of_nonpos_of_nonneg (Int.le_of_lt ha) (Int.not_lt.mp hb); simp [ha, hb]; omega
  · have := Int.mul_nonpos_of_nonneg_of_nonpos (Int.not_lt.mp ha) (Int.le_of_lt hb); simp [ha, hb]; omega
  · have := Int.mul_nonneg (Int.not_lt.mp ha) (Int.not_lt.mp hb); simp [ha, hb]; omega

theorem mul_fit (up : Bool) {a b : Int} (ha : ok a) (hb : ok b) (h : a.natAbs * b.natAbs < 39614081257132168796771975168) : mul up a b = fit (rnd up (a * b) 4294967296) := by
  rw [mul_ok up ha hb, sgn_quo _ _ _ _ (by omega) (Or.inl (by omega)), sign_mul]
  rfl
end Mnc

/- Plain: the reference's long division and its root, digit by digit; its product in parts. No program here. -/
namespace Mnc
open Go

/-- The long division of the reference, before bit i is taken. -/
def OvAt (a n d i q r : Nat) : Prop := q * d + r = a / 2 ^ i * n ∧ r < d ∧ q ≤ 4503599627370496
/-- Inside the round of bit i. -/
def OvIn (a n d i q r : Nat) : Prop := q * d + r = a / 2 ^ i * n ∧ r < 3 * d ∧ q + r / d ≤ 9223372036854775808 + 9007199254740992 + 2

theorem ovAt_start {a n d : Nat} (ha : a < 18446744073709551616) (hd : 0 < d) : OvAt a n d 64 0 0 := by
  refine ⟨?_, hd, by omega⟩
  rw [show a / 2 ^ 64 = 0 from Nat.div_eq_of_lt ha]
  simp

theorem half_step (a i : Nat) : a / 2 ^ i = 2 * (a / 2 ^ (i + 1)) + a / 2 ^ i % 2 := by
  rw [Nat.pow_succ, ← Nat.div_div_eq_div_mul]
  omega

theorem ovIn_zero {a n d i q r : Nat} (h : OvAt a n d (i + 1) q r) (hb : a / 2 ^ i % 2 = 0) : OvIn a n d i (2 * q) (2 * r) := by
  obtain ⟨h1, h2, h3⟩ := h
  have hr : 2 * r / d < 3 := by rw [Nat.div_lt_iff_lt_mul (by omega)]; omega
  refine ⟨?_, by omega, by omega⟩
  rw [half_step a i, hb, Nat.add_zero, Nat.mul_assoc, Nat.mul_assoc, ← h1, Nat.mul_add]

theorem ovIn_one {a n d i q r : Nat} (h : OvAt a n d (i + 1) q r) (hn : n ≤ 9223372036854775808) (hb : a / 2 ^ i % 2 = 1) : OvIn a n d i (2 * q + n / d) (2 * r + n % d) := by
  obtain ⟨h1, h2, h3⟩ := h
  have hm := Nat.mod_lt n (show 0 < d by omega)
  have hdl := Nat.div_le_self n d
  have hr : (2 * r + n % d) / d < 3 := by rw [Nat.div_lt_iff_lt_mul (by omega)]; omega
  refine ⟨?_, by omega, by omega⟩
  rw [half_step a i, hb, Nat.add_mul, Nat.add_mul, Nat.mul_assoc 2, Nat.mul_assoc 2, ← h1, Nat.one_mul]
  have := Nat.div_add_mod' n d
  rw [Nat.mul_add]
  omega

theorem ovIn_down {a n d i q r : Nat} (h : OvIn a n d i q r) (hr : d ≤ r) (hd : 0 < d) : OvIn a n d i (q + 1) (r - d) := by
  obtain ⟨h1, h2, h3⟩ := h
  have e : r / d = (r - d) / d + 1 := by
    have := Nat.add_div_right (r - d) hd
    rw [Nat.sub_add_cancel hr] at this
    exact this
  refine ⟨?_, by omega, by omega⟩
  rw [← h1, Nat.add_mul]
  omega

theorem ovIn_end {a n d i q r : Nat} (h : OvIn a n d i q r) (hr : r < d) (hq : q ≤ 4503599627370496) : OvAt a n d i q r := ⟨h.1, hr, hq⟩

theorem ovIn_far {a n d i q r : Nat} (h : OvIn a n d i q r) (hd : 0 < d) (hq : 4503599627370496 < q) : 4503599627370496 < a * n / d := by
  obtain ⟨h1, _, _⟩ := h
  have h2 : a / 2 ^ i * n ≤ a * n := Nat.mul_le_mul_right _ (Nat.div_le_self _ _)
  have h3 : q ≤ a * n / d := by rw [Nat.le_div_iff_mul_le hd]; omega
  omega

theorem ovAt_end {a n d q r : Nat} (h : OvAt a n d 0 q r) : a * n / d = q ∧ a * n % d = r := by
  obtain ⟨h1, h2, _⟩ := h
  rw [Nat.pow_zero, Nat.div_one] at h1
  have hd : 0 < d := by omega
  rw [← h1, Nat.mul_comm q d]
  constructor
  · rw [Nat.mul_add_div hd, Nat.div_eq_of_lt h2]; rfl
  · rw [Nat.mul_add_mod, Nat.mod_eq_of_lt h2]

/-- What over answers. -/
def ovr (a n d : Nat) : Nat × Bool × Bool := if a * n / d ≤ 4503599627370496 then (a * n / d, decide (0 < a * n % d), true) else (0, false, false)
theorem ovr_far {a n d : Nat} (h : 4503599627370496 < a * n / d) : ovr a n d = (0, false, false) := if_neg (by omega)
theorem ovr_near {a n d q r : Nat} (h : OvAt a n d 0 q r) : ovr a n d = (q, decide (0 < r), true) := by
  obtain ⟨h1, h2⟩ := ovAt_end h
  unfold ovr
  rw [h1, h2, if_pos h.2.2]

/-- What put answers. -/
def putOf (neg : Bool) (n : Nat) (rest up : Bool) : Int × Bool :=
  if 4503599627370496 < (if (rest && (up != neg)) = true then n + 1 else n) then (0, false)
  else (if neg then -(((if (rest && (up != neg)) = true then n + 1 else n) : Nat) : Int) else (((if (rest && (up != neg)) = true then n + 1 else n) : Nat) : Int), true)

theorem put_ok (neg : Bool) (n : Nat) (rest up : Bool) : ok (putOf neg n rest up).1 := by
  unfold putOf ok
  generalize (if (rest && (up != neg)) = true then n + 1 else n) = m
  split
  · simp
  · cases neg <;> simp <;> omega

/-- A number, if it is a fixed-point number. -/
def fitB (v : Int) : Int × Bool := if ok v then (v, true) else (0, false)
theorem fitB_ok {v : Int} (h : ok v) : fitB v = (v, true) := if_pos h
theorem fitB_bad {v : Int} (h : ¬ ok v) : fitB v = (0, false) := if_neg h

theorem put_rnd (neg up : Bool) (n d : Nat) (hd : 0 < d) : putOf neg (n / d) (decide (0 < n % d)) up = fitB (rnd up (if neg then -(n : Int) else (n : Int)) d) := by
  rw [rnd_size neg up n d hd]
  have e : (if (decide (0 < n % d) && (up != neg)) = true then n / d + 1 else n / d) = rsz (up != neg) n d := by
    unfold rsz
    have : ((decide (0 < n % d) && (up != neg)) = true) ↔ ((up != neg) = true ∧ n % d ≠ 0) := by
      rw [Bool.and_eq_true, decide_eq_true_iff]
      constructor
      · rintro ⟨h1, h2⟩; exact ⟨h2, by omega⟩
      · rintro ⟨h1, h2⟩; exact ⟨by omega, h1⟩
    simp only [this]
  unfold putOf
  rw [e]
  generalize rsz (up != neg) n d = m
  by_cases h : 4503599627370496 < m
  · rw [if_pos h, fitB_bad (fun g => by have := (ok_sign neg m).mp g; omega)]
  · rw [if_neg h, fitB_ok ((ok_sign neg m).mpr (by omega))]

theorem rnd_far (neg up : Bool) (n d : Nat) (hd : 0 < d) (h : 4503599627370496 < n / d) : ¬ ok (rnd up (if neg then -(n : Int) else (n : Int)) d) := by
  rw [rnd_size neg up n d hd, ok_sign]
  have := rsz_ge (up != neg) n d
  omega

/-- The reference's rounded quotient. -/
def putOvr (neg up : Bool) (a n d : Nat) : Int × Bool := if (ovr a n d).2.2 = true then putOf neg (ovr a n d).1 (ovr a n d).2.1 up else (0, false)
theorem putOvr_far {a n d : Nat} (neg up : Bool) (h : ovr a n d = (0, false, false)) : putOvr neg up a n d = (0, false) := by rw [putOvr, h]; rfl
theorem putOvr_near {a n d q : Nat} {rest : Bool} (neg up : Bool) (h : ovr a n d = (q, rest, true)) : putOvr neg up a n d = putOf neg q rest up := by rw [putOvr, h]; rfl

theorem putOvr_rnd (neg up : Bool) (a n d : Nat) (hd : 0 < d) : putOvr neg up a n d = fitB (rnd up (if neg then -((a * n : Nat) : Int) else ((a * n : Nat) : Int)) d) := by
  by_cases h : a * n / d ≤ 4503599627370496
  · have e : ovr a n d = (a * n / d, decide (0 < a * n % d), true) := if_pos h
    rw [putOvr_near _ _ e, put_rnd _ _ _ _ hd]
  · rw [putOvr_far _ _ (ovr_far (by omega)), fitB_bad (rnd_far _ _ _ _ hd (by omega))]

/-- The root of the reference, before its bits i are taken. -/
def RtAt (N i root rest : Nat) : Prop := root * root + rest = N / 4 ^ i ∧ rest ≤ 2 * root

theorem rtAt_start {N : Nat} (h : N < 4 ^ 43) : RtAt N 43 0 0 := ⟨by rw [Nat.div_eq_of_lt h], by omega⟩

theorem quarter_step (a i : Nat) : a / 4 ^ i = 4 * (a / 4 ^ (i + 1)) + a / 4 ^ i % 4 := by
  rw [Nat.pow_succ, ← Nat.div_div_eq_div_mul]
  omega

theorem rtAt_take {N i root rest two : Nat} (h : RtAt N (i + 1) root rest) (ht : N / 4 ^ i % 4 = two) (hc : 4 * root + 1 ≤ 4 * rest + two) : RtAt N i (2 * root + 1) (4 * rest + two - (4 * root + 1)) := by
  obtain ⟨h1, h2⟩ := h
  have : two < 4 := by rw [← ht]; exact Nat.mod_lt _ (by omega)
  refine ⟨?_, by omega⟩
  rw [quarter_step, ht, ← h1]
  have e : (2 * root + 1) * (2 * root + 1) = 4 * (root * root) + 4 * root + 1 := by
    rw [Nat.mul_add, Nat.add_mul, Nat.mul_mul_mul_comm]; omega
  rw [e]
  omega

theorem rtAt_leave {N i root rest two : Nat} (h : RtAt N (i + 1) root rest) (ht : N / 4 ^ i % 4 = two) (hc : ¬ 4 * root + 1 ≤ 4 * rest + two) : RtAt N i (2 * root) (4 * rest + two) := by
  obtain ⟨h1, h2⟩ := h
  refine ⟨?_, by omega⟩
  rw [quarter_step, ht, ← h1]
  have e : (2 * root) * (2 * root) = 4 * (root * root) := by rw [Nat.mul_mul_mul_comm]
  rw [e]
  omega

theorem rtAt_end {N root rest : Nat} (h : RtAt N 0 root rest) (up : Bool) : rtOf up N = if up = true ∧ 0 < rest then root + 1 else root := by
  obtain ⟨h1, h2⟩ := h
  rw [Nat.pow_zero, Nat.div_one] at h1
  have e : isq N = root := isq_eq (by omega) (by rw [Nat.mul_add, Nat.add_mul]; omega)
  unfold rtOf
  rw [e]
  have : (¬ root * root = N) ↔ 0 < rest := by omega
  simp only [this]

theorem rtAt_bd {N i root rest : Nat} (h : RtAt N i root rest) (hN : N ≤ 19342813113834066795298816) : root ≤ 4398046511104 ∧ rest ≤ 8796093022208 := by
  obtain ⟨h1, h2⟩ := h
  have h3 : root * root ≤ 4398046511104 * 4398046511104 := by
    have := Nat.div_le_self N (4 ^ i)
    omega
  have : root ≤ 4398046511104 := Nat.mul_self_le_mul_self_iff.mp h3
  omega

theorem two_hi (a : Nat) {i : Nat} (h : 16 ≤ i) : a * 4294967296 / 4 ^ i = a / 2 ^ (2 * i - 32) := by
  have e : (4 : Nat) ^ i = 4294967296 * 2 ^ (2 * i - 32) := by
    rw [show (4 : Nat) = 2 ^ 2 by rfl, ← Nat.pow_mul, show (4294967296 : Nat) = 2 ^ 32 by rfl, ← Nat.pow_add]
    congr 1
    omega
  rw [e, Nat.mul_comm a, Nat.mul_div_mul_left _ _ (by omega)]

theorem two_lo (a : Nat) {i : Nat} (h : i < 16) : a * 4294967296 / 4 ^ i % 4 = 0 := by
  have e : 4294967296 = 4 ^ i * (4 ^ (15 - i) * 4) := by
    rw [← Nat.pow_succ, ← Nat.pow_add, show i + (15 - i).succ = 16 by omega]
  rw [e, Nat.mul_left_comm, Nat.mul_div_cancel_left _ (Nat.pow_pos (by omega)), ← Nat.mul_assoc, Nat.mul_mod_left]

/-- The product in parts. -/
theorem parts_mul (x y : Nat) : x * y = x / 67108864 * (y / 67108864) * 4503599627370496 + (x / 67108864 * (y % 67108864) + x % 67108864 * (y / 67108864)) * 67108864 + x % 67108864 * (y % 67108864) := by
  have hx := Nat.div_add_mod x 67108864
  have hy := Nat.div_add_mod y 67108864
  generalize x / 67108864 = a at *
  generalize x % 67108864 = b at *
  generalize y / 67108864 = c at *
  generalize y % 67108864 = d at *
  rw [← hx, ← hy, Nat.mul_add, Nat.add_mul, Nat.add_mul]
  have e1 : 67108864 * a * (67108864 * c) = a * c * 4503599627370496 := by rw [Nat.mul_mul_mul_comm]; omega
  have e2 : b * (67108864 * c) = b * c * 67108864 := by rw [Nat.mul_left_comm]; omega
  have e3 : 67108864 * a * d = a * d * 67108864 := by rw [Nat.mul_assoc]; omega
  rw [e1, e2, e3, Nat.add_mul]
  omega

theorem parts_div {h m l : Nat} : (h * 4503599627370496 + m * 67108864 + l) / 4294967296 = h * 1048576 + m / 64 + (m % 64 * 67108864 + l) / 4294967296 ∧ (h * 4503599627370496 + m * 67108864 + l) % 4294967296 = (m % 64 * 67108864 + l) % 4294967296 := by
  omega
end Mnc

/- Plain: intervals; what the operations of package span answer. No program here. -/
namespace Mnc
open Go

/-- A valid interval. -/
def okS (s : Int × Int) : Prop := -4503599627370496 ≤ s.1 ∧ s.1 ≤ s.2 ∧ s.2 ≤ 4503599627370496
instance (s : Int × Int) : Decidable (okS s) := by unfold okS; exact inferInstance
theorem okS.lo {s : Int × Int} (h : okS s) : ok s.1 := by unfold okS at h; unfold ok; omega
theorem okS.hi {s : Int × Int} (h : okS s) : ok s.2 := by unfold okS at h; unfold ok; omega

def sChk (s : Int × Int) : Int := if okS s then 0 else 20
theorem sChk_ok {s : Int × Int} (h : okS s) : sChk s = 0 := if_pos h
theorem sChk_bad {s : Int × Int} (h : ¬ okS s) : sChk s = 20 := if_neg h
def sChk2 (s t : Int × Int) : Int := if okS s ∧ okS t then 0 else 20
theorem sChk2_ok {s t : Int × Int} (h : okS s) (k : okS t) : sChk2 s t = 0 := if_pos ⟨h, k⟩
theorem sChk2_bad {s t : Int × Int} (h : ¬ (okS s ∧ okS t)) : sChk2 s t = 20 := if_neg h

/-- An interval of a result. -/
def sT (lo hi : Int) : (Int × Int) × Int := if -4503599627370496 ≤ lo ∧ hi ≤ 4503599627370496 then ((lo, hi), 0) else ((0, 0), 6)
theorem sT_ok {lo hi : Int} (h : -4503599627370496 ≤ lo) (k : hi ≤ 4503599627370496) : sT lo hi = ((lo, hi), 0) := if_pos ⟨h, k⟩
theorem sT_bad {lo hi : Int} (h : ¬ (-4503599627370496 ≤ lo ∧ hi ≤ 4503599627370496)) : sT lo hi = ((0, 0), 6) := if_neg h

/-- An operation on two intervals. -/
def on2 (f : Int × Int → Int × Int → (Int × Int) × Int) (a b : Int × Int) : (Int × Int) × Int := if okS a ∧ okS b then f a b else ((0, 0), 20)
theorem on2_ok {f : Int × Int → Int × Int → (Int × Int) × Int} {a b : Int × Int} (h : okS a) (k : okS b) : on2 f a b = f a b := if_pos ⟨h, k⟩
theorem on2_bad {f : Int × Int → Int × Int → (Int × Int) × Int} {a b : Int × Int} (h : ¬ (okS a ∧ okS b)) : on2 f a b = ((0, 0), 20) := if_neg h
def on1 (f : Int × Int → (Int × Int) × Int) (a : Int × Int) : (Int × Int) × Int := if okS a then f a else ((0, 0), 20)
theorem on1_ok {f : Int × Int → (Int × Int) × Int} {a : Int × Int} (h : okS a) : on1 f a = f a := if_pos h
theorem on1_bad {f : Int × Int → (Int × Int) × Int} {a : Int × Int} (h : ¬ okS a) : on1 f a = ((0, 0), 20) := if_neg h

def sAdd : Int × Int → Int × Int → (Int × Int) × Int := on2 fun a b => sT (a.1 + b.1) (a.2 + b.2)
def sSub : Int × Int → Int × Int → (Int × Int) × Int := on2 fun a b => sT (a.1 - b.2) (a.2 - b.1)
def sNeg : Int × Int → (Int × Int) × Int := on1 fun a => ((-a.2, -a.1), 0)
def sAbs : Int × Int → (Int × Int) × Int := on1 fun a => ((max (max a.1 (-a.2)) 0, max a.2 (-a.1)), 0)
def sMin : Int × Int → Int × Int → (Int × Int) × Int := on2 fun a b => ((min a.1 b.1, min a.2 b.2), 0)
def sMax : Int × Int → Int × Int → (Int × Int) × Int := on2 fun a b => ((max a.1 b.1, max a.2 b.2), 0)
def sHull : Int × Int → Int × Int → (Int × Int) × Int := on2 fun a b => ((min a.1 b.1, max a.2 b.2), 0)
def sMeet : Int × Int → Int × Int → (Int × Int) × Int := on2 fun a b => if max a.1 b.1 ≤ min a.2 b.2 then ((max a.1 b.1, min a.2 b.2), 0) else ((0, 0), 4)

def sOf (lo hi : Int) : (Int × Int) × Int := if okS (lo, hi) then ((lo, hi), 0) else ((0, 0), 20)
theorem sOf_ok {lo hi : Int} (h : okS (lo, hi)) : sOf lo hi = ((lo, hi), 0) := if_pos h
theorem sOf_bad {lo hi : Int} (h : ¬ okS (lo, hi)) : sOf lo hi = ((0, 0), 20) := if_neg h
def sHas (s : Int × Int) (v : Int) : Bool × Int := if okS s then (decide (s.1 ≤ v ∧ v ≤ s.2), 0) else (false, 20)
theorem sHas_ok {s : Int × Int} (h : okS s) (v : Int) : sHas s v = (decide (s.1 ≤ v ∧ v ≤ s.2), 0) := if_pos h
theorem sHas_bad {s : Int × Int} (h : ¬ okS s) (v : Int) : sHas s v = (false, 20) := if_neg h
def sNum (f : Int × Int → Int) (s : Int × Int) : Int × Int := if okS s then (f s, 0) else (0, 20)
theorem sNum_ok {f : Int × Int → Int} {s : Int × Int} (h : okS s) : sNum f s = (f s, 0) := if_pos h
theorem sNum_bad {f : Int × Int → Int} {s : Int × Int} (h : ¬ okS s) : sNum f s = (0, 20) := if_neg h
def sMid : Int × Int → Int × Int := sNum fun s => (s.1 + s.2) / 2
def sWidth : Int × Int → Int × Int := sNum fun s => s.2 - s.1
def sSign : Int × Int → Int × Int := sNum fun s => if 0 < s.1 then 1 else if s.2 < 0 then -1 else if s = (0, 0) then 0 else 2
def sDec (n d : Int) : (Int × Int) × Int := (((dec n d).1, (dec n d).2.1), (dec n d).2.2)

/-- Rounded to units of 1 / One. -/
def fl (x : Int) : Int := rnd false x 4294967296
def cl (x : Int) : Int := rnd true x 4294967296
theorem fl_def (x : Int) : fl x = x / 4294967296 := rfl
theorem cl_def (x : Int) : cl x = -((-x) / 4294967296) := rfl
def min4 (a b c d : Int) : Int := min (min a b) (min c d)
def max4 (a b c d : Int) : Int := max (max a b) (max c d)

def sMul : Int × Int → Int × Int → (Int × Int) × Int := on2 fun a b =>
  sT (min4 (fl (a.1 * b.1)) (fl (a.1 * b.2)) (fl (a.2 * b.1)) (fl (a.2 * b.2))) (max4 (cl (a.1 * b.1)) (cl (a.1 * b.2)) (cl (a.2 * b.1)) (cl (a.2 * b.2)))

/-- A quotient, rounded; the divisor is not 0. -/
def dv (up : Bool) (x y : Int) : Int := rnd up (if y < 0 then -(x * 4294967296) else x * 4294967296) (y.natAbs : Int)
def sDiv : Int × Int → Int × Int → (Int × Int) × Int := on2 fun a b => if b.1 ≤ 0 ∧ 0 ≤ b.2 then ((0, 0), 7) else
  sT (min4 (dv false a.1 b.1) (dv false a.1 b.2) (dv false a.2 b.1) (dv false a.2 b.2)) (max4 (dv true a.1 b.1) (dv true a.1 b.2) (dv true a.2 b.1) (dv true a.2 b.2))

def sSqrt : Int × Int → (Int × Int) × Int := on1 fun a => if a.1 < 0 then ((0, 0), 2) else (((rt false a.1).1, (rt true a.2).1), 0)

/-- The power of an interval, n from 1 on. -/
def pw (a : Int × Int) (n : Nat) : (Int × Int) × Int := sT (rnd false (a.1 ^ n) (4294967296 ^ (n - 1))) (rnd true (a.2 ^ n) (4294967296 ^ (n - 1)))
def sPow (a : Int × Int) (n : Int) : (Int × Int) × Int :=
  if okS a then (if n < 0 ∨ 16 < n then ((0, 0), 2) else if n = 0 then ((4294967296, 4294967296), 0) else if n % 2 = 0 then pw (sAbs a).1 n.toNat else pw a n.toNat) else ((0, 0), 20)
end Mnc

/- Plain: products and quotients at the corners; what between answers. No program here. -/
namespace Mnc
open Go

theorem fl_le_cl (x : Int) : fl x ≤ cl x := by
  rw [fl_def, cl_def]; omega

theorem mul_pair_ok {a b : Int} (ha : ok a) (hb : ok b) (h1 : ok (fl (a * b))) (h2 : ok (cl (a * b))) : mul false a b = (fl (a * b), 0) ∧ mul true a b = (cl (a * b), 0) := by
  by_cases h : a.natAbs * b.natAbs < 39614081257132168796771975168
  · rw [mul_fit _ ha hb h, mul_fit _ ha hb h]
    exact ⟨fit_ok h1, fit_ok h2⟩
  · exfalso
    have e := sign_mul a b
    have := rnd_far (decide (a < 0) != decide (b < 0)) false (a.natAbs * b.natAbs) 4294967296 (by omega) (by omega)
    rw [e] at this
    exact this h1

theorem mul_pair_bad {a b : Int} (ha : ok a) (hb : ok b) (h : ¬ (ok (fl (a * b)) ∧ ok (cl (a * b)))) : ¬ ((mul false a b).2 = 0 ∧ (mul true a b).2 = 0) := by
  by_cases hn : a.natAbs * b.natAbs < 39614081257132168796771975168
  · rw [mul_fit _ ha hb hn, mul_fit _ ha hb hn]
    rintro ⟨g1, g2⟩
    apply h
    constructor
    · by_cases k : ok (fl (a * b))
      · exact k
      · have e : fit (rnd false (a * b) 4294967296) = (0, 6) := fit_bad k
        rw [e] at g1
        cases g1
    · by_cases k : ok (cl (a * b))
      · exact k
      · have e : fit (rnd true (a * b) 4294967296) = (0, 6) := fit_bad k
        rw [e] at g2
        cases g2
  · rw [mul_ok _ ha hb, mul_ok _ ha hb]
    have key : ∀ s, sgn s (quo (a.natAbs * b.natAbs) 4294967296 false) = (0, 6) := by
      intro s
      unfold quo
      split
      · exact sgn_false _ _
      · rw [if_neg (by simp)]
        exact sgn_far _ (by omega)
    cases hs : (decide (a < 0) != decide (b < 0))
    · simp [key]
    · simp [key]

theorem dv_sign (x y : Int) : (if (decide (x < 0) != decide (y < 0)) = true then -((x.natAbs * 4294967296 : Nat) : Int) else ((x.natAbs * 4294967296 : Nat) : Int)) = if y < 0 then -(x * 4294967296) else x * 4294967296 := by
  by_cases hx : x < 0 <;> by_cases hy : y < 0 <;> simp [hx, hy] <;> omega

theorem dvd_fit (up : Bool) {a b : Int} (ha : ok a) (hb : ok b) (hz : ¬ b = 0) : dvd up a b = fit (dv up a b) := by
  rw [dvd_ok up ha hb hz, sgn_quo _ _ _ _ (by omega) ?_, dv_sign]
  · rfl
  · by_cases hr : a.natAbs * 4294967296 % b.natAbs = 0
    · exact Or.inr hr
    · left
      intro hq
      have e := Nat.div_add_mod (a.natAbs * 4294967296) b.natAbs
      have hm := Nat.mod_lt (a.natAbs * 4294967296) (show 0 < b.natAbs by omega)
      rw [hq] at e
      unfold ok at ha
      omega

/-- What between answers, of two operations with errors. -/
def btw (D U : Int → Int → Int × Int) (a b : Int × Int) : (Int × Int) × Int :=
  if ((D a.1 b.1).2 = 0 ∧ (U a.1 b.1).2 = 0) ∧ ((D a.1 b.2).2 = 0 ∧ (U a.1 b.2).2 = 0) ∧ ((D a.2 b.1).2 = 0 ∧ (U a.2 b.1).2 = 0) ∧ ((D a.2 b.2).2 = 0 ∧ (U a.2 b.2).2 = 0) then
    sT (min4 (D a.1 b.1).1 (D a.1 b.2).1 (D a.2 b.1).1 (D a.2 b.2).1) (max4 (U a.1 b.1).1 (U a.1 b.2).1 (U a.2 b.1).1 (U a.2 b.2).1)
  else ((0, 0), 6)

theorem btw_of {D U : Int → Int → Int × Int} {f g : Int → Int → Int} {a b : Int × Int}
    (hle : ∀ x y, f x y ≤ g x y)
    (hok : ∀ x y, (x = a.1 ∨ x = a.2) → (y = b.1 ∨ y = b.2) → ok (f x y) → ok (g x y) → D x y = (f x y, 0) ∧ U x y = (g x y, 0))
    (hbad : ∀ x y, (x = a.1 ∨ x = a.2) → (y = b.1 ∨ y = b.2) → ¬ (ok (f x y) ∧ ok (g x y)) → ¬ ((D x y).2 = 0 ∧ (U x y).2 = 0)) :
    btw D U a b = sT (min4 (f a.1 b.1) (f a.1 b.2) (f a.2 b.1) (f a.2 b.2)) (max4 (g a.1 b.1) (g a.1 b.2) (g a.2 b.1) (g a.2 b.2)) := by
  unfold btw
  have k : ∀ x y, (x = a.1 ∨ x = a.2) → (y = b.1 ∨ y = b.2) → (((D x y).2 = 0 ∧ (U x y).2 = 0) ↔ (ok (f x y) ∧ ok (g x y))) := by
    intro x y hx hy
    constructor
    · intro h
      by_cases hh : ok (f x y) ∧ ok (g x y)
      · exact hh
      · exact absurd h (hbad x y hx hy hh)
    · intro h
      obtain ⟨e1, e2⟩ := hok x y hx hy h.1 h.2
      rw [e1, e2]
      exact ⟨rfl, rfl⟩
  have l1 := hle a.1 b.1
  have l2 := hle a.1 b.2
  have l3 := hle a.2 b.1
  have l4 := hle a.2 b.2
  have k1 := k a.1 b.1 (.inl rfl) (.inl rfl)
  have k2 := k a.1 b.2 (.inl rfl) (.inr rfl)
  have k3 := k a.2 b.1 (.inr rfl) (.inl rfl)
  have k4 := k a.2 b.2 (.inr rfl) (.inr rfl)
  split
  · rename_i h
    obtain ⟨h1, h2, h3, h4⟩ := h
    rw [k1] at h1
    rw [k2] at h2
    rw [k3] at h3
    rw [k4] at h4
    rw [(hok a.1 b.1 (.inl rfl) (.inl rfl) h1.1 h1.2).1, (hok a.1 b.1 (.inl rfl) (.inl rfl) h1.1 h1.2).2, (hok a.1 b.2 (.inl rfl) (.inr rfl) h2.1 h2.2).1, (hok a.1 b.2 (.inl rfl) (.inr rfl) h2.1 h2.2).2, (hok a.2 b.1 (.inr rfl) (.inl rfl) h3.1 h3.2).1, (hok a.2 b.1 (.inr rfl) (.inl rfl) h3.1 h3.2).2, (hok a.2 b.2 (.inr rfl) (.inr rfl) h4.1 h4.2).1, (hok a.2 b.2 (.inr rfl) (.inr rfl) h4.1 h4.2).2]
  · rename_i h
    rw [sT_bad]
    rw [k1, k2, k3, k4] at h
    clear k k1 k2 k3 k4 hok hbad
    unfold ok at h
    unfold min4 max4
    omega

theorem btw_mul {a b : Int × Int} (ha : okS a) (hb : okS b) : btw (mul false) (mul true) a b = sMul a b := by
  have e : sMul a b = _ := on2_ok ha hb
  rw [e]
  refine btw_of (f := fun x y => fl (x * y)) (g := fun x y => cl (x * y)) (fun _ _ => fl_le_cl _) ?_ ?_
  · intro x y hx hy h1 h2
    have hx' : ok x := by rcases hx with rfl | rfl <;> first | exact ha.lo | exact ha.hi
    have hy' : ok y := by rcases hy with rfl | rfl <;> first | exact hb.lo | exact hb.hi
    exact mul_pair_ok hx' hy' h1 h2
  · intro x y hx hy h
    have hx' : ok x := by rcases hx with rfl | rfl <;> first | exact ha.lo | exact ha.hi
    have hy' : ok y := by rcases hy with rfl | rfl <;> first | exact hb.lo | exact hb.hi
    exact mul_pair_bad hx' hy' h

theorem rnd_le {x d : Int} (hd : 0 < d) : rnd false x d ≤ rnd true x d := by
  unfold rnd
  simp only [Bool.false_eq_true, if_false, if_true]
  have h1 := Int.mul_ediv_add_emod x d
  have h2 := Int.mul_ediv_add_emod (-x) d
  have h3 := Int.emod_nonneg x (show d ≠ 0 by omega)
  have h4 := Int.emod_nonneg (-x) (show d ≠ 0 by omega)
  have h5 : d * (x / d + (-x) / d) ≤ 0 := by rw [Int.mul_add]; omega
  have h6 : x / d + (-x) / d ≤ 0 := by
    apply Int.not_lt.mp
    intro h
    have := Int.mul_pos hd h
    omega
  omega

theorem btw_div {a b : Int × Int} (ha : okS a) (hb : okS b) (hz : ¬ (b.1 ≤ 0 ∧ 0 ≤ b.2)) : btw (dvd false) (dvd true) a b = sDiv a b := by
  have e : sDiv a b = _ := on2_ok ha hb
  rw [e, if_neg hz]
  have hnz : ∀ y, (y = b.1 ∨ y = b.2) → ¬ y = 0 := by
    intro y hy
    unfold okS at hb
    omega
  have hle : ∀ x y, y = 0 ∨ dv false x y ≤ dv true x y := by
    intro x y
    by_cases h : y = 0
    · exact .inl h
    · exact .inr (rnd_le (by omega))
  refine btw_of (f := fun x y => if y = 0 then 0 else dv false x y) (g := fun x y => if y = 0 then 0 else dv true x y) ?_ ?_ ?_ |>.trans ?_
  · intro x y
    rcases hle x y with h | h
    · simp [h]
    · show (if y = 0 then 0 else dv false x y) ≤ (if y = 0 then 0 else dv true x y)
      split <;> omega
  · intro x y hx hy h1 h2
    have hx' : ok x := by rcases hx with rfl | rfl <;> first | exact ha.lo | exact ha.hi
    have hy' : ok y := by rcases hy with rfl | rfl <;> first | exact hb.lo | exact hb.hi
    simp only [if_neg (hnz y hy)] at h1 h2 ⊢
    rw [dvd_fit _ hx' hy' (hnz y hy), dvd_fit _ hx' hy' (hnz y hy)]
    exact ⟨fit_ok h1, fit_ok h2⟩
  · intro x y hx hy h
    have hx' : ok x := by rcases hx with rfl | rfl <;> first | exact ha.lo | exact ha.hi
    have hy' : ok y := by rcases hy with rfl | rfl <;> first | exact hb.lo | exact hb.hi
    simp only [if_neg (hnz y hy)] at h
    rw [dvd_fit _ hx' hy' (hnz y hy), dvd_fit _ hx' hy' (hnz y hy)]
    rintro ⟨g1, g2⟩
    apply h
    constructor
    · by_cases k : ok (dv false x y)
      · exact k
      · rw [fit_bad k] at g1
        cases g1
    · by_cases k : ok (dv true x y)
      · exact k
      · rw [fit_bad k] at g2
        cases g2
  · simp only [if_neg (hnz b.1 (.inl rfl)), if_neg (hnz b.2 (.inr rfl))]
end Mnc

/- Plain: intervals times a fraction. No program here. -/
namespace Mnc
open Go

/-- Scaled by a fraction whose numerator is not negative. -/
def sclC (s : Int × Int) (n d : Int) : (Int × Int) × Int := if (scl false s.1 n d).2 = 0 ∧ (scl true s.2 n d).2 = 0 then (((scl false s.1 n d).1, (scl true s.2 n d).1), 0) else ((0, 0), max (scl false s.1 n d).2 (scl true s.2 n d).2)
def sScl (s : Int × Int) (n d : Int) : (Int × Int) × Int := if okS s then (if n < 0 then (if n < -4611686018427387904 then ((0, 0), 2) else sclC (-s.2, -s.1) (-n) d) else sclC s n d) else ((0, 0), 20)

end Mnc

/- Plain: polynomials with interval coefficients; what the operations of package poly answer. No program here. -/
namespace Mnc
open Go

/-- The first error of arguments. -/
def pChk (l : List (Int × Int)) (s : Int × Int) : Int := if 8 < l.length then 3 else if (∀ c ∈ l, okS c) ∧ okS s then 0 else 20
theorem pChk_long {l : List (Int × Int)} {s : Int × Int} (h : 8 < l.length) : pChk l s = 3 := if_pos h
theorem pChk_ok {l : List (Int × Int)} {s : Int × Int} (h : ¬ 8 < l.length) (hl : ∀ c ∈ l, okS c) (hs : okS s) : pChk l s = 0 := by rw [pChk, if_neg h, if_pos ⟨hl, hs⟩]
theorem pChk_bad {l : List (Int × Int)} {s : Int × Int} (h : ¬ 8 < l.length) (hb : ¬ ((∀ c ∈ l, okS c) ∧ okS s)) : pChk l s = 20 := by rw [pChk, if_neg h, if_neg hb]

/-- One step of the value: times s, and one coefficient more. -/
def pStep (s v c : Int × Int) : (Int × Int) × Int := if (sMul v s).2 = 0 then sAdd (sMul v s).1 c else sMul v s
/-- The value of the coefficients that have come, from the last one on, up to the first error. -/
def pAcc (s : Int × Int) : List (Int × Int) → (Int × Int) × Int
  | [] => ((0, 0), 0)
  | c :: r => if (pAcc s r).2 = 0 then pStep s (pAcc s r).1 c else pAcc s r
def pVal (l : List (Int × Int)) (s : Int × Int) : (Int × Int) × Int := pAcc s l
def pEval (l : List (Int × Int)) (s : Int × Int) : (Int × Int) × Int := if pChk l s = 0 then pVal l s else ((0, 0), pChk l s)
theorem pEval_ok {l : List (Int × Int)} {s : Int × Int} (h : pChk l s = 0) : pEval l s = pVal l s := if_pos h
theorem pEval_bad {l : List (Int × Int)} {s : Int × Int} (h : ¬ pChk l s = 0) : pEval l s = ((0, 0), pChk l s) := if_neg h

/-- The cells of a list of intervals. -/
def flat (l : List (Int × Int)) : List Value := l.flatMap fun s => [.int .i64 s.1, .int .i64 s.2]
theorem flat_len (l : List (Int × Int)) : (flat l).length = l.length * 2 := by
  induction l with
  | nil => rfl
  | cons a r ih => simp [flat] at ih ⊢; omega
theorem flat_append (l m : List (Int × Int)) : flat (l ++ m) = flat l ++ flat m := by simp [flat]
theorem flat_one (s : Int × Int) : flat [s] = [.int .i64 s.1, .int .i64 s.2] := rfl
theorem flat_at (l : List (Int × Int)) (i : Nat) (s : Int × Int) (h : l[i]? = some s) : (flat l)[2 * i]? = some (.int .i64 s.1) ∧ (flat l)[2 * i + 1]? = some (.int .i64 s.2) := by
  induction l generalizing i with
  | nil => simp at h
  | cons a r ih =>
    cases i with
    | zero =>
      simp at h
      subst h
      exact ⟨rfl, rfl⟩
    | succ i =>
      simp at h
      obtain ⟨h1, h2⟩ := ih i h
      have e : flat (a :: r) = [.int .i64 a.1, .int .i64 a.2] ++ flat r := rfl
      rw [e, List.getElem?_append_right (by simp; omega), List.getElem?_append_right (by simp; omega)]
      constructor
      · rw [← h1]; congr 1
      · rw [← h2]; congr 1
theorem flat_one_cell (l : List (Int × Int)) : ∀ u ∈ flat l, u.oneCell' = true := by
  intro u hu
  simp only [flat, List.mem_flatMap] at hu
  obtain ⟨s, _, h⟩ := hu
  simp at h
  rcases h with rfl | rfl <;> rfl
end Mnc

/- Plain: the coefficients of the derivative; what Slope answers. No program here. -/
namespace Mnc
open Go
/-- The coefficients of the derivative, up to the first error. -/
def pScA : List (Int × Int) → Nat → List (Int × Int) → List (Int × Int) × Int
  | [], _, acc => (acc, 0)
  | c :: r, i, acc => if (sScl c ((i : Int) + 1) 1).2 = 0 then pScA r (i + 1) (acc ++ [(sScl c ((i : Int) + 1) 1).1]) else ([], (sScl c ((i : Int) + 1) 1).2)
theorem pScA_ok {c : Int × Int} {r acc : List (Int × Int)} {i : Nat} (h : (sScl c ((i : Int) + 1) 1).2 = 0) : pScA (c :: r) i acc = pScA r (i + 1) (acc ++ [(sScl c ((i : Int) + 1) 1).1]) := if_pos h
theorem pScA_bad {c : Int × Int} {r acc : List (Int × Int)} {i : Nat} (h : ¬ (sScl c ((i : Int) + 1) 1).2 = 0) : pScA (c :: r) i acc = ([], (sScl c ((i : Int) + 1) 1).2) := if_neg h
def pSlope (l : List (Int × Int)) (s : Int × Int) : (Int × Int) × Int :=
  if pChk l s = 0 then (if l = [] then ((0, 0), 0) else if (pScA l.tail 0 []).2 = 0 then pVal (pScA l.tail 0 []).1 s else ((0, 0), (pScA l.tail 0 []).2)) else ((0, 0), pChk l s)

theorem flat_cons (a : Int × Int) (r : List (Int × Int)) : flat (a :: r) = .int .i64 a.1 :: .int .i64 a.2 :: flat r := rfl
theorem flat_set (L : List (Int × Int)) (k : Nat) (x : Int × Int) (h : k < L.length) : ((flat L).set (k * 2) (.int .i64 x.1)).set (k * 2 + 1) (.int .i64 x.2) = flat (L.set k x) := by
  induction L generalizing k with
  | nil => simp at h
  | cons a r ih =>
    cases k with
    | zero => rfl
    | succ k =>
      have e1 : (k + 1) * 2 = k * 2 + 1 + 1 := by omega
      rw [flat_cons, e1, List.set_cons_succ, List.set_cons_succ, List.set_cons_succ, List.set_cons_succ, ih k (by simpa using h), List.set_cons_succ, flat_cons]
end Mnc

/- Plain: intervals within intervals. No program here. -/
namespace Mnc
open Go

/-- An interval within another one. -/
def sIn (s t : Int × Int) : Prop := t.1 ≤ s.1 ∧ s.2 ≤ t.2
instance (s t : Int × Int) : Decidable (sIn s t) := by unfold sIn; exact inferInstance
/-- A result within another one, if there is one. -/
def rIn (r q : (Int × Int) × Int) : Prop := q.2 = 0 → r.2 = 0 ∧ sIn r.1 q.1

theorem rIn_sT {lo hi lo' hi' : Int} (h1 : lo ≤ lo') (h2 : hi' ≤ hi) : rIn (sT lo' hi') (sT lo hi) := by
  intro h0
  by_cases k : -4503599627370496 ≤ lo ∧ hi ≤ 4503599627370496
  · rw [sT_ok k.1 k.2, sT_ok (by omega) (by omega)]
    exact ⟨rfl, h1, h2⟩
  · rw [sT_bad k] at h0
    exact absurd h0 (by decide)

theorem fl_mono {x y : Int} (h : x ≤ y) : fl x ≤ fl y := by rw [fl_def, fl_def]; omega
theorem cl_mono {x y : Int} (h : x ≤ y) : cl x ≤ cl y := by rw [cl_def, cl_def]; omega

theorem mul_lo {a b : Int × Int} {x y : Int} (hx : a.1 ≤ x ∧ x ≤ a.2) (hy : b.1 ≤ y ∧ y ≤ b.2) : ∃ u v, (u = a.1 ∨ u = a.2) ∧ (v = b.1 ∨ v = b.2) ∧ u * v ≤ x * y := by
  obtain ⟨u, hu, h1⟩ : ∃ u, (u = a.1 ∨ u = a.2) ∧ u * y ≤ x * y := by
    rcases Int.le_total 0 y with h | h
    · exact ⟨a.1, .inl rfl, Int.mul_le_mul_of_nonneg_right hx.1 h⟩
    · exact ⟨a.2, .inr rfl, Int.mul_le_mul_of_nonpos_right hx.2 h⟩
  obtain ⟨v, hv, h2⟩ : ∃ v, (v = b.1 ∨ v = b.2) ∧ u * v ≤ u * y := by
    rcases Int.le_total 0 u with h | h
    · exact ⟨b.1, .inl rfl, Int.mul_le_mul_of_nonneg_left hy.1 h⟩
    · exact ⟨b.2, .inr rfl, Int.mul_le_mul_of_nonpos_left h hy.2⟩
  exact ⟨u, v, hu, hv, Int.le_trans h2 h1⟩
theorem mul_hi {a b : Int × Int} {x y : Int} (hx : a.1 ≤ x ∧ x ≤ a.2) (hy : b.1 ≤ y ∧ y ≤ b.2) : ∃ u v, (u = a.1 ∨ u = a.2) ∧ (v = b.1 ∨ v = b.2) ∧ x * y ≤ u * v := by
  obtain ⟨u, v, hu, hv, h⟩ := mul_lo (a := (-a.2, -a.1)) (x := -x) ⟨by simp; omega, by simp; omega⟩ hy
  refine ⟨-u, v, by simp at hu; omega, hv, ?_⟩
  rw [Int.neg_mul] at h ⊢
  omega
theorem mul_min {a b : Int × Int} {x y : Int} (hx : a.1 ≤ x ∧ x ≤ a.2) (hy : b.1 ≤ y ∧ y ≤ b.2) : min4 (a.1 * b.1) (a.1 * b.2) (a.2 * b.1) (a.2 * b.2) ≤ x * y := by
  obtain ⟨u, v, hu, hv, h⟩ := mul_lo hx hy
  unfold min4
  rcases hu with rfl | rfl <;> rcases hv with rfl | rfl <;> omega
theorem mul_max {a b : Int × Int} {x y : Int} (hx : a.1 ≤ x ∧ x ≤ a.2) (hy : b.1 ≤ y ∧ y ≤ b.2) : x * y ≤ max4 (a.1 * b.1) (a.1 * b.2) (a.2 * b.1) (a.2 * b.2) := by
  obtain ⟨u, v, hu, hv, h⟩ := mul_hi hx hy
  unfold max4
  rcases hu with rfl | rfl <;> rcases hv with rfl | rfl <;> omega
theorem fl_min4 {p q r s z : Int} (h : min4 p q r s ≤ z) : min4 (fl p) (fl q) (fl r) (fl s) ≤ fl z := by
  unfold min4 at *
  simp only [fl_def]
  omega
theorem cl_max4 {p q r s z : Int} (h : z ≤ max4 p q r s) : cl z ≤ max4 (cl p) (cl q) (cl r) (cl s) := by
  unfold max4 at *
  simp only [cl_def]
  omega

theorem sMul_narrow {a b a' b' : Int × Int} (ha : okS a) (hb : okS b) (ha' : okS a') (hb' : okS b') (h : sIn a' a) (k : sIn b' b) : rIn (sMul a' b') (sMul a b) := by
  rw [sMul, on2_ok ha hb, on2_ok ha' hb']
  unfold sIn at h k
  unfold okS at ha' hb'
  refine rIn_sT ?_ ?_
  · have h1 := fl_min4 (mul_min (a := a) (b := b) (x := a'.1) (y := b'.1) ⟨by omega, by omega⟩ ⟨by omega, by omega⟩)
    have h2 := fl_min4 (mul_min (a := a) (b := b) (x := a'.1) (y := b'.2) ⟨by omega, by omega⟩ ⟨by omega, by omega⟩)
    have h3 := fl_min4 (mul_min (a := a) (b := b) (x := a'.2) (y := b'.1) ⟨by omega, by omega⟩ ⟨by omega, by omega⟩)
    have h4 := fl_min4 (mul_min (a := a) (b := b) (x := a'.2) (y := b'.2) ⟨by omega, by omega⟩ ⟨by omega, by omega⟩)
    generalize min4 (fl (a.1 * b.1)) (fl (a.1 * b.2)) (fl (a.2 * b.1)) (fl (a.2 * b.2)) = m at *
    unfold min4
    omega
  · have h1 := cl_max4 (mul_max (a := a) (b := b) (x := a'.1) (y := b'.1) ⟨by omega, by omega⟩ ⟨by omega, by omega⟩)
    have h2 := cl_max4 (mul_max (a := a) (b := b) (x := a'.1) (y := b'.2) ⟨by omega, by omega⟩ ⟨by omega, by omega⟩)
    have h3 := cl_max4 (mul_max (a := a) (b := b) (x := a'.2) (y := b'.1) ⟨by omega, by omega⟩ ⟨by omega, by omega⟩)
    have h4 := cl_max4 (mul_max (a := a) (b := b) (x := a'.2) (y := b'.2) ⟨by omega, by omega⟩ ⟨by omega, by omega⟩)
    generalize max4 (cl (a.1 * b.1)) (cl (a.1 * b.2)) (cl (a.2 * b.1)) (cl (a.2 * b.2)) = m at *
    unfold max4
    omega

theorem sAdd_narrow {a b a' b' : Int × Int} (ha : okS a) (hb : okS b) (ha' : okS a') (hb' : okS b') (h : sIn a' a) (k : sIn b' b) : rIn (sAdd a' b') (sAdd a b) := by
  rw [sAdd, on2_ok ha hb, on2_ok ha' hb']
  unfold sIn at h k
  exact rIn_sT (by omega) (by omega)
theorem sSub_narrow {a b a' b' : Int × Int} (ha : okS a) (hb : okS b) (ha' : okS a') (hb' : okS b') (h : sIn a' a) (k : sIn b' b) : rIn (sSub a' b') (sSub a b) := by
  rw [sSub, on2_ok ha hb, on2_ok ha' hb']
  unfold sIn at h k
  exact rIn_sT (by omega) (by omega)

theorem ediv_anti {x y z : Int} (hx : 0 ≤ x) (hy : 0 < y) (h : y ≤ z) : x / z ≤ x / y := by
  rw [Int.le_ediv_iff_mul_le hy]
  have h1 := Int.ediv_mul_le x (show z ≠ 0 by omega)
  have h2 : 0 ≤ x / z := Int.ediv_nonneg hx (by omega)
  have h3 := Int.mul_le_mul_of_nonneg_left h h2
  omega
theorem ediv_mono_neg {x y z : Int} (hx : x ≤ 0) (hy : 0 < y) (h : y ≤ z) : x / y ≤ x / z := by
  rw [Int.le_ediv_iff_mul_le (show 0 < z by omega)]
  have h1 := Int.ediv_mul_le x (show y ≠ 0 by omega)
  have h2 : x / y ≤ 0 := by
    have := Int.ediv_le_ediv hy hx
    rwa [Int.zero_ediv] at this
  have h3 := Int.mul_le_mul_of_nonpos_left h2 h
  omega
theorem ediv_corner {x1 x2 y1 y2 x y : Int} (h0 : 0 < y1) (hy : y1 ≤ y ∧ y ≤ y2) (hx : x1 ≤ x ∧ x ≤ x2) : min4 (x1 / y1) (x1 / y2) (x2 / y1) (x2 / y2) ≤ x / y ∧ x / y ≤ max4 (x1 / y1) (x1 / y2) (x2 / y1) (x2 / y2) := by
  have hl := Int.ediv_le_ediv (show 0 < y by omega) hx.1
  have hr := Int.ediv_le_ediv (show 0 < y by omega) hx.2
  constructor
  · rcases Int.le_total 0 x1 with h | h
    · have := ediv_anti h (show 0 < y by omega) hy.2
      unfold min4
      omega
    · have := ediv_mono_neg h h0 hy.1
      unfold min4
      omega
  · rcases Int.le_total 0 x2 with h | h
    · have := ediv_anti h h0 hy.1
      unfold max4
      omega
    · have := ediv_mono_neg h (show 0 < y by omega) hy.2
      unfold max4
      omega
theorem rnd_corner (up : Bool) {x1 x2 y1 y2 x y : Int} (h0 : 0 < y1) (hy : y1 ≤ y ∧ y ≤ y2) (hx : x1 ≤ x ∧ x ≤ x2) : min4 (rnd up x1 y1) (rnd up x1 y2) (rnd up x2 y1) (rnd up x2 y2) ≤ rnd up x y ∧ rnd up x y ≤ max4 (rnd up x1 y1) (rnd up x1 y2) (rnd up x2 y1) (rnd up x2 y2) := by
  cases up
  · exact ediv_corner h0 hy hx
  · have h := ediv_corner (x1 := -x2) (x2 := -x1) (x := -x) h0 hy ⟨by omega, by omega⟩
    unfold rnd
    simp only [if_true]
    unfold min4 max4 at *
    omega
theorem dv_pos (up : Bool) (x : Int) {y : Int} (h : 0 < y) : dv up x y = rnd up (x * 4294967296) y := by
  unfold dv
  rw [if_neg (by omega), show ((y.natAbs : Nat) : Int) = y by omega]
theorem dv_neg (up : Bool) (x : Int) {y : Int} (h : y < 0) : dv up x y = rnd up (-x * 4294967296) (-y) := by
  unfold dv
  rw [if_pos h, show ((y.natAbs : Nat) : Int) = -y by omega, Int.neg_mul]
theorem dv_corner (up : Bool) {a b : Int × Int} {x y : Int} (hz : ¬ (b.1 ≤ 0 ∧ 0 ≤ b.2)) (hy : b.1 ≤ y ∧ y ≤ b.2) (hx : a.1 ≤ x ∧ x ≤ a.2) :
    min4 (dv up a.1 b.1) (dv up a.1 b.2) (dv up a.2 b.1) (dv up a.2 b.2) ≤ dv up x y ∧ dv up x y ≤ max4 (dv up a.1 b.1) (dv up a.1 b.2) (dv up a.2 b.1) (dv up a.2 b.2) := by
  rcases Int.lt_or_le 0 b.1 with h | h
  · rw [dv_pos _ _ h, dv_pos _ _ (show 0 < b.2 by omega), dv_pos _ _ (show 0 < y by omega), dv_pos _ _ h, dv_pos _ _ (show 0 < b.2 by omega)]
    exact rnd_corner up h hy ⟨by omega, by omega⟩
  · rw [dv_neg _ _ (show b.1 < 0 by omega), dv_neg _ _ (show b.2 < 0 by omega), dv_neg _ _ (show y < 0 by omega), dv_neg _ _ (show b.1 < 0 by omega), dv_neg _ _ (show b.2 < 0 by omega)]
    have := rnd_corner up (x1 := -a.2 * 4294967296) (x2 := -a.1 * 4294967296) (y1 := -b.2) (y2 := -b.1) (x := -x * 4294967296) (y := -y) (by omega) ⟨by omega, by omega⟩ ⟨by omega, by omega⟩
    unfold min4 max4 at *
    omega
theorem sDiv_narrow {a b a' b' : Int × Int} (ha : okS a) (hb : okS b) (ha' : okS a') (hb' : okS b') (h : sIn a' a) (k : sIn b' b) : rIn (sDiv a' b') (sDiv a b) := by
  rw [sDiv, on2_ok ha hb, on2_ok ha' hb']
  unfold sIn at h k
  unfold okS at ha' hb'
  by_cases hz : b.1 ≤ 0 ∧ 0 ≤ b.2
  · rw [if_pos hz]
    intro h0
    exact absurd h0 (by decide)
  · rw [if_neg hz, if_neg (by omega)]
    refine rIn_sT ?_ ?_
    · have h1 := (dv_corner false (a := a) (b := b) (x := a'.1) (y := b'.1) hz ⟨by omega, by omega⟩ ⟨by omega, by omega⟩).1
      have h2 := (dv_corner false (a := a) (b := b) (x := a'.1) (y := b'.2) hz ⟨by omega, by omega⟩ ⟨by omega, by omega⟩).1
      have h3 := (dv_corner false (a := a) (b := b) (x := a'.2) (y := b'.1) hz ⟨by omega, by omega⟩ ⟨by omega, by omega⟩).1
      have h4 := (dv_corner false (a := a) (b := b) (x := a'.2) (y := b'.2) hz ⟨by omega, by omega⟩ ⟨by omega, by omega⟩).1
      generalize min4 (dv false a.1 b.1) (dv false a.1 b.2) (dv false a.2 b.1) (dv false a.2 b.2) = m at *
      unfold min4
      omega
    · have h1 := (dv_corner true (a := a) (b := b) (x := a'.1) (y := b'.1) hz ⟨by omega, by omega⟩ ⟨by omega, by omega⟩).2
      have h2 := (dv_corner true (a := a) (b := b) (x := a'.1) (y := b'.2) hz ⟨by omega, by omega⟩ ⟨by omega, by omega⟩).2
      have h3 := (dv_corner true (a := a) (b := b) (x := a'.2) (y := b'.1) hz ⟨by omega, by omega⟩ ⟨by omega, by omega⟩).2
      have h4 := (dv_corner true (a := a) (b := b) (x := a'.2) (y := b'.2) hz ⟨by omega, by omega⟩ ⟨by omega, by omega⟩).2
      generalize max4 (dv true a.1 b.1) (dv true a.1 b.2) (dv true a.2 b.1) (dv true a.2 b.2) = m at *
      unfold max4
      omega

theorem rIn_zero {p q p' q' : Int} (h1 : p ≤ p') (h2 : q' ≤ q) : rIn ((p', q'), 0) ((p, q), 0) := fun _ => ⟨rfl, h1, h2⟩
theorem sMin_narrow {a b a' b' : Int × Int} (ha : okS a) (hb : okS b) (ha' : okS a') (hb' : okS b') (h : sIn a' a) (k : sIn b' b) : rIn (sMin a' b') (sMin a b) := by
  rw [sMin, on2_ok ha hb, on2_ok ha' hb']
  unfold sIn at h k
  exact rIn_zero (by omega) (by omega)
theorem sMax_narrow {a b a' b' : Int × Int} (ha : okS a) (hb : okS b) (ha' : okS a') (hb' : okS b') (h : sIn a' a) (k : sIn b' b) : rIn (sMax a' b') (sMax a b) := by
  rw [sMax, on2_ok ha hb, on2_ok ha' hb']
  unfold sIn at h k
  exact rIn_zero (by omega) (by omega)
theorem sHull_narrow {a b a' b' : Int × Int} (ha : okS a) (hb : okS b) (ha' : okS a') (hb' : okS b') (h : sIn a' a) (k : sIn b' b) : rIn (sHull a' b') (sHull a b) := by
  rw [sHull, on2_ok ha hb, on2_ok ha' hb']
  unfold sIn at h k
  exact rIn_zero (by omega) (by omega)
theorem sAbs_narrow {a a' : Int × Int} (ha : okS a) (ha' : okS a') (h : sIn a' a) : rIn (sAbs a') (sAbs a) := by
  rw [sAbs, on1_ok ha, on1_ok ha']
  unfold sIn at h
  unfold okS at ha ha'
  refine rIn_zero ?_ ?_
  · have : max a.1 (-a.2) ≤ max a'.1 (-a'.2) := by omega
    omega
  · omega
end Mnc

/- Plain: polynomials within polynomials; what Eval and Slope answer at 0, and with one coefficient 0 more. No program here. -/
namespace Mnc
open Go

theorem okS_zero : okS (0, 0) := by unfold okS; omega
theorem sT_okS {lo hi : Int} (h : lo ≤ hi) : okS (sT lo hi).1 := by
  by_cases k : -4503599627370496 ≤ lo ∧ hi ≤ 4503599627370496
  · rw [sT_ok k.1 k.2]
    exact ⟨k.1, h, k.2⟩
  · rw [sT_bad k]
    exact okS_zero
theorem on2_okS {f : Int × Int → Int × Int → (Int × Int) × Int} (h : ∀ a b, okS a → okS b → okS (f a b).1) (a b : Int × Int) : okS (on2 f a b).1 := by
  by_cases k : okS a ∧ okS b
  · rw [on2_ok k.1 k.2]
    exact h a b k.1 k.2
  · rw [on2_bad k]
    exact okS_zero
theorem sMul_okS (a b : Int × Int) : okS (sMul a b).1 := on2_okS (fun a b _ _ => sT_okS (by
  have h1 := fl_le_cl (a.1 * b.1)
  unfold min4 max4
  omega)) a b
theorem sAdd_okS (a b : Int × Int) : okS (sAdd a b).1 := on2_okS (fun a b ha hb => sT_okS (by
  unfold okS at ha hb
  omega)) a b
theorem sSub_okS (a b : Int × Int) : okS (sSub a b).1 := on2_okS (fun a b ha hb => sT_okS (by
  unfold okS at ha hb
  omega)) a b
theorem pStep_okS (s v c : Int × Int) : okS (pStep s v c).1 := by
  unfold pStep
  split
  · exact sAdd_okS _ _
  · exact sMul_okS _ _
theorem pAcc_okS (s : Int × Int) : ∀ l, okS (pAcc s l).1
  | [] => okS_zero
  | c :: r => by
    unfold pAcc
    split
    · exact pStep_okS _ _ _
    · exact pAcc_okS s r

/-- A list of intervals within those of another list. -/
inductive AllIn : List (Int × Int) → List (Int × Int) → Prop
  | nil : AllIn [] []
  | cons {a b : Int × Int} {l m : List (Int × Int)} (ha : okS a) (hb : okS b) (h : sIn a b) (t : AllIn l m) : AllIn (a :: l) (b :: m)

theorem pStep_narrow {s v c s' v' c' : Int × Int} (hs : okS s) (hv : okS v) (hc : okS c) (hs' : okS s') (hv' : okS v') (hc' : okS c') (h1 : sIn s' s) (h2 : sIn v' v) (h3 : sIn c' c) : rIn (pStep s' v' c') (pStep s v c) := by
  intro h0
  have hm := sMul_narrow hv hs hv' hs' h2 h1
  unfold pStep at h0
  split at h0
  · rename_i hz
    obtain ⟨g1, g2⟩ := hm hz
    have := sAdd_narrow (sMul_okS v s) hc (sMul_okS v' s') hc' g2 h3 h0
    unfold pStep
    rw [if_pos g1, if_pos hz]
    exact this
  · rename_i hz
    exact absurd h0 hz

theorem pAcc_narrow {s s' : Int × Int} (hs : okS s) (hs' : okS s') (h : sIn s' s) {l' l : List (Int × Int)} (hl : AllIn l' l) : rIn (pAcc s' l') (pAcc s l) := by
  induction hl with
  | nil => exact fun _ => ⟨rfl, by unfold sIn; exact ⟨Int.le_refl _, Int.le_refl _⟩⟩
  | @cons a b l m ha hb hab _ ih =>
    intro h0
    have e : pAcc s (b :: m) = if (pAcc s m).2 = 0 then pStep s (pAcc s m).1 b else pAcc s m := rfl
    have e' : pAcc s' (a :: l) = if (pAcc s' l).2 = 0 then pStep s' (pAcc s' l).1 a else pAcc s' l := rfl
    rw [e] at h0 ⊢
    split at h0
    · rename_i hz
      obtain ⟨g1, g2⟩ := ih hz
      rw [e', if_pos g1, if_pos hz]
      exact pStep_narrow hs (pAcc_okS s m) hb hs' (pAcc_okS s' l) ha h g2 hab h0
    · rename_i hz
      exact absurd h0 hz

theorem AllIn.okL {l' l : List (Int × Int)} (h : AllIn l' l) : ∀ c ∈ l', okS c := by
  induction h with
  | nil => intro c hc; simp at hc
  | cons ha hb _ _ ih =>
    intro c hc
    rcases List.mem_cons.1 hc with rfl | hc
    · exact ha
    · exact ih c hc
theorem AllIn.okR {l' l : List (Int × Int)} (h : AllIn l' l) : ∀ c ∈ l, okS c := by
  induction h with
  | nil => intro c hc; simp at hc
  | cons ha hb _ _ ih =>
    intro c hc
    rcases List.mem_cons.1 hc with rfl | hc
    · exact hb
    · exact ih c hc
theorem AllIn.len {l' l : List (Int × Int)} (h : AllIn l' l) : l'.length = l.length := by
  induction h with
  | nil => rfl
  | cons _ _ _ _ ih => simp [ih]

theorem scl_one (up : Bool) {a n : Int} (ha : ok a) (hn : 0 ≤ n ∧ n ≤ 1000) : scl up a n 1 = fit (a * n) := by
  rw [scl_ok up ⟨ha, by omega, by omega, by omega, by omega⟩, show (1 : Int).toNat = 1 from rfl, sgn_quo _ _ _ _ (by omega) (Or.inr (Nat.mod_one _)), sign_mul]
  congr 1
  cases up <;> simp [rnd]
theorem sScl_one {c : Int × Int} {n : Int} (hc : okS c) (hn : 0 ≤ n ∧ n ≤ 1000) : sScl c n 1 = sT (c.1 * n) (c.2 * n) := by
  have hle : c.1 * n ≤ c.2 * n := Int.mul_le_mul_of_nonneg_right hc.2.1 hn.1
  unfold sScl sclC
  rw [if_pos hc, if_neg (by omega), scl_one false hc.lo hn, scl_one true hc.hi hn]
  generalize c.1 * n = x at *
  generalize c.2 * n = y at *
  by_cases h1 : ok x
  · rw [fit_ok h1]
    by_cases h2 : ok y
    · rw [fit_ok h2, if_pos ⟨rfl, rfl⟩, sT_ok h1.1 h2.2]
    · rw [fit_bad h2, if_neg (by simp), sT_bad (by unfold ok at h1 h2; omega)]
      rfl
  · rw [fit_bad h1, if_neg (by simp)]
    by_cases h2 : ok y
    · rw [fit_ok h2, sT_bad (by unfold ok at h1 h2; omega)]
      rfl
    · rw [fit_bad h2, sT_bad (by unfold ok at h1 h2; omega)]
      rfl
theorem sScl_narrow {c c' : Int × Int} {n : Int} (hc : okS c) (hc' : okS c') (hn : 0 ≤ n ∧ n ≤ 1000) (h : sIn c' c) : rIn (sScl c' n 1) (sScl c n 1) := by
  rw [sScl_one hc hn, sScl_one hc' hn]
  exact rIn_sT (Int.mul_le_mul_of_nonneg_right h.1 hn.1) (Int.mul_le_mul_of_nonneg_right h.2 hn.1)
theorem sScl_okS {c : Int × Int} {n : Int} (hc : okS c) (hn : 0 ≤ n ∧ n ≤ 1000) : okS (sScl c n 1).1 := by
  rw [sScl_one hc hn]
  exact sT_okS (Int.mul_le_mul_of_nonneg_right hc.2.1 hn.1)

theorem AllIn.snoc {l m : List (Int × Int)} {a b : Int × Int} (h : AllIn l m) (ha : okS a) (hb : okS b) (hab : sIn a b) : AllIn (l ++ [a]) (m ++ [b]) := by
  induction h with
  | nil => exact .cons ha hb hab .nil
  | cons h1 h2 h3 _ ih => exact .cons h1 h2 h3 ih

theorem pScA_narrow {l' l : List (Int × Int)} (hl : AllIn l' l) : ∀ (i : Nat) (acc' acc : List (Int × Int)), i + l.length ≤ 900 → AllIn acc' acc → (pScA l i acc).2 = 0 → (pScA l' i acc').2 = 0 ∧ AllIn (pScA l' i acc').1 (pScA l i acc).1 := by
  induction hl with
  | nil => exact fun i acc' acc _ ha _ => ⟨rfl, ha⟩
  | @cons a b l m ha hb hab _ ih =>
    intro i acc' acc hi hacc h0
    simp only [List.length_cons] at hi
    have hn : 0 ≤ (i : Int) + 1 ∧ (i : Int) + 1 ≤ 1000 := by omega
    by_cases hz : (sScl b ((i : Int) + 1) 1).2 = 0
    · obtain ⟨g1, g2⟩ := sScl_narrow hb ha hn hab hz
      rw [pScA_ok hz] at h0 ⊢
      rw [pScA_ok g1]
      exact ih (i + 1) _ _ (by omega) (hacc.snoc (sScl_okS ha hn) (sScl_okS hb hn) g2) h0
    · rw [pScA_bad hz] at h0
      exact absurd h0 hz

theorem pEval_narrow {s s' : Int × Int} (hs : okS s) (hs' : okS s') (h : sIn s' s) {l' l : List (Int × Int)} (hl : AllIn l' l) (h8 : l.length ≤ 8) : rIn (pEval l' s') (pEval l s) := by
  rw [pEval_ok (pChk_ok (by omega) hl.okR hs), pEval_ok (pChk_ok (by rw [hl.len]; omega) hl.okL hs')]
  exact pAcc_narrow hs hs' h hl
theorem pSlope_narrow {s s' : Int × Int} (hs : okS s) (hs' : okS s') (h : sIn s' s) {l' l : List (Int × Int)} (hl : AllIn l' l) (h8 : l.length ≤ 8) : rIn (pSlope l' s') (pSlope l s) := by
  have c1 := pChk_ok (l := l) (s := s) (by omega) hl.okR hs
  have c2 := pChk_ok (l := l') (s := s') (by rw [hl.len]; omega) hl.okL hs'
  unfold pSlope
  rw [if_pos c1, if_pos c2]
  cases hl with
  | nil => exact fun _ => ⟨rfl, by unfold sIn; exact ⟨Int.le_refl _, Int.le_refl _⟩⟩
  | @cons a b l m ha hb hab t =>
    rw [if_neg (show ¬ a :: l = [] by simp), if_neg (show ¬ b :: m = [] by simp), List.tail_cons, List.tail_cons]
    intro h0
    simp only [List.length_cons] at h8
    by_cases hz : (pScA m 0 []).2 = 0
    · rw [if_pos hz] at h0 ⊢
      obtain ⟨g1, g2⟩ := pScA_narrow t 0 [] [] (by omega) .nil hz
      rw [if_pos g1]
      exact pAcc_narrow hs hs' h g2 h0
    · rw [if_neg hz] at h0
      exact absurd h0 hz

theorem sMul_zero {v : Int × Int} (h : okS v) : sMul v (0, 0) = ((0, 0), 0) := by
  rw [sMul, on2_ok h okS_zero]
  simp only [Int.mul_zero]
  decide
theorem zero_sMul {v : Int × Int} (h : okS v) : sMul (0, 0) v = ((0, 0), 0) := by
  rw [sMul, on2_ok okS_zero h]
  simp only [Int.zero_mul]
  decide
theorem zero_sAdd {c : Int × Int} (h : okS c) : sAdd (0, 0) c = (c, 0) := by
  rw [sAdd, on2_ok okS_zero h]
  simp only [Int.zero_add]
  exact sT_ok h.1 h.2.2
theorem pStep_at0 {v c : Int × Int} (hv : okS v) (hc : okS c) : pStep (0, 0) v c = (c, 0) := by
  unfold pStep
  rw [sMul_zero hv, if_pos rfl]
  exact zero_sAdd hc
theorem pStep_of0 {s c : Int × Int} (hs : okS s) (hc : okS c) : pStep s (0, 0) c = (c, 0) := by
  unfold pStep
  rw [zero_sMul hs, if_pos rfl]
  exact zero_sAdd hc
theorem pAcc_at0 : ∀ {l : List (Int × Int)}, (∀ c ∈ l, okS c) → pAcc (0, 0) l = (l.headD (0, 0), 0)
  | [], _ => rfl
  | c :: r, h => by
    have ih := pAcc_at0 (l := r) (fun x hx => h x (by simp [hx]))
    unfold pAcc
    rw [ih, if_pos rfl, pStep_at0 (by
      cases r with
      | nil => exact okS_zero
      | cons y r => exact h y (by simp)) (h c (by simp))]
    rfl
theorem pEval_at0 {l : List (Int × Int)} (h8 : l.length ≤ 8) (h : ∀ c ∈ l, okS c) : pEval l (0, 0) = (l.headD (0, 0), 0) := by
  rw [pEval_ok (pChk_ok (by omega) h okS_zero)]
  exact pAcc_at0 h

/-- One coefficient 0 more at the end changes nothing. -/
theorem pAcc_more {s : Int × Int} (hs : okS s) : ∀ l : List (Int × Int), pAcc s (l ++ [(0, 0)]) = pAcc s l
  | [] => pStep_of0 hs okS_zero
  | c :: r => by
    show (if (pAcc s (r ++ [(0, 0)])).2 = 0 then pStep s (pAcc s (r ++ [(0, 0)])).1 c else pAcc s (r ++ [(0, 0)])) = _
    rw [pAcc_more hs r]
    rfl
theorem pEval_more {s : Int × Int} (hs : okS s) {l : List (Int × Int)} (h8 : l.length < 8) (h : ∀ c ∈ l, okS c) : pEval (l ++ [(0, 0)]) s = pEval l s := by
  rw [pEval_ok (pChk_ok (by omega) h hs), pEval_ok (pChk_ok (by simp; omega) (fun c hc => by
    rcases List.mem_append.1 hc with hc | hc
    · exact h c hc
    · simp at hc
      subst hc
      exact okS_zero) hs)]
  exact pAcc_more hs l

/-- Small coefficients: the derivative's are no error. -/
def sml (c : Int × Int) : Prop := okS c ∧ -137438953472 ≤ c.1 ∧ c.2 ≤ 137438953472
theorem pScA_small : ∀ (l : List (Int × Int)) (i : Nat) (acc : List (Int × Int)), i + l.length ≤ 900 → (∀ c ∈ l, sml c) → (pScA l i acc).2 = 0 ∧ (pScA l i acc).1 = acc ++ l.mapIdx (fun k c => (c.1 * ((k + i : Nat) + 1 : Int), c.2 * ((k + i : Nat) + 1 : Int)))
  | [], i, acc, _, _ => ⟨rfl, by simp [pScA]⟩
  | c :: r, i, acc, hi, h => by
    simp only [List.length_cons] at hi
    have hn : 0 ≤ (i : Int) + 1 ∧ (i : Int) + 1 ≤ 1000 := by omega
    obtain ⟨h1, h2, h3⟩ := h c (by simp)
    have e : sScl c ((i : Int) + 1) 1 = ((c.1 * ((i : Int) + 1), c.2 * ((i : Int) + 1)), 0) := by
      rw [sScl_one h1 hn]
      refine sT_ok ?_ ?_
      · have := Int.mul_le_mul_of_nonneg_right h2 hn.1
        omega
      · have := Int.mul_le_mul_of_nonneg_right h3 hn.1
        omega
    obtain ⟨g1, g2⟩ := pScA_small r (i + 1) (acc ++ [(c.1 * ((i : Int) + 1), c.2 * ((i : Int) + 1))]) (by omega) (fun x hx => h x (by simp [hx]))
    have hz : (sScl c ((i : Int) + 1) 1).2 = 0 := by rw [e]
    rw [pScA_ok hz, e]
    refine ⟨g1, ?_⟩
    rw [g2, List.append_assoc]
    congr 1
    simp only [List.mapIdx_cons, List.singleton_append, Nat.zero_add]
    congr 1
    refine List.ext_getElem? (fun k => ?_)
    simp only [List.getElem?_mapIdx]
    have e2 : k + (i + 1) = k + 1 + i := by omega
    rw [e2]
theorem pSlope_at0 {l : List (Int × Int)} (h8 : l.length ≤ 8) (h : ∀ c ∈ l, sml c) : pSlope l (0, 0) = (l.tail.headD (0, 0), 0) := by
  unfold pSlope
  rw [if_pos (pChk_ok (by omega) (fun c hc => (h c hc).1) okS_zero)]
  cases l with
  | nil => rfl
  | cons c r =>
    rw [if_neg (by simp), List.tail_cons]
    simp only [List.length_cons] at h8
    have hr : ∀ x ∈ r, sml x := fun x hx => h x (by simp [hx])
    obtain ⟨g1, g2⟩ := pScA_small r 0 [] (by omega) hr
    rw [if_pos g1, g2, List.nil_append]
    unfold pVal
    rw [pAcc_at0]
    · cases r with
      | nil => rfl
      | cons y r => simp [List.mapIdx_cons]
    · intro x hx
      obtain ⟨k, hk⟩ := List.mem_iff_getElem?.1 hx
      rw [List.getElem?_mapIdx] at hk
      cases hy : r[k]? with
      | none => simp [hy] at hk
      | some y =>
        rw [hy] at hk
        simp only [Option.map_some, Option.some.injEq] at hk
        subst hk
        have hkl := (List.getElem?_eq_some_iff.1 hy).1
        obtain ⟨⟨y1, y2, y3⟩, y4, y5⟩ := hr y (List.mem_of_getElem? hy)
        have hn : 0 ≤ ((k + 0 : Nat) : Int) + 1 ∧ ((k + 0 : Nat) : Int) + 1 ≤ 8 := by omega
        generalize ((k + 0 : Nat) : Int) + 1 = n at hn
        unfold okS
        have a1 := Int.mul_le_mul_of_nonneg_right y2 hn.1
        have a2 := Int.mul_le_mul_of_nonneg_right y4 hn.1
        have a3 := Int.mul_le_mul_of_nonneg_right y5 hn.1
        simp only
        omega
end Mnc
