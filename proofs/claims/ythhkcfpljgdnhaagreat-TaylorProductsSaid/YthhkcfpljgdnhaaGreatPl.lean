/- Plain arithmetic under the walks: fixed-point numbers, rounded quotients. No program here. -/
import Derived.RowKit
import Derived.Calls
import Derived.WalkKit
namespace Mnc
open Go

theorem ret_int {k : IntKind} {a b : Int} (h : a = b) : Ending.returned (.int k a) = .returned (.int k b) := by rw [h]

theorem ret2 {k k' : IntKind} {a b : Int} {p : Int × Int} (h : p = (a, b)) : Ending.returned (.tuple #[.int k a, .int k' b]) = .returned (.tuple #[.int k p.1, .int k' p.2]) := by rw [h]

/-- A fixed-point number. -/
def ok (a : Int) : Prop := -4503599627370496 ≤ a ∧ a ≤ 4503599627370496
instance (a : Int) : Decidable (ok a) := by unfold ok; exact inferInstance

/-- What Check answers. -/
def chk (a : Int) : Int := if ok a then 0 else 2
theorem chk_ok {a : Int} (h : ok a) : chk a = 0 := if_pos h
theorem chk_bad {a : Int} (h : ¬ ok a) : chk a = 2 := if_neg h

def chk2 (a b : Int) : Int := if ok a ∧ ok b then 0 else 2
theorem chk2_ok {a b : Int} (ha : ok a) (hb : ok b) : chk2 a b = 0 := if_pos ⟨ha, hb⟩
theorem chk2_l {a b : Int} (ha : ¬ ok a) : chk2 a b = 2 := if_neg fun h => ha h.1
theorem chk2_r {a b : Int} (hb : ¬ ok b) : chk2 a b = 2 := if_neg fun h => hb h.2

/-- An exact result, if it is a fixed-point number. -/
def fit (a : Int) : Int × Int := if ok a then (a, 0) else (0, 6)
theorem fit_ok {a : Int} (h : ok a) : fit a = (a, 0) := if_pos h
theorem fit_bad {a : Int} (h : ¬ ok a) : fit a = (0, 6) := if_neg h

def add (a b : Int) : Int × Int := if ok a ∧ ok b then fit (a + b) else (0, 2)
def neg (a : Int) : Int × Int := if ok a then (-a, 0) else (0, 2)
theorem chk2_bad {a b : Int} (h : ¬ (ok a ∧ ok b)) : chk2 a b = 2 := if_neg h
end Mnc

/- Plain: the rounded quotient of 128 bits as the program computes it (with the wrap of q++), its sign, and mul, div, scale, sqrt, fromDec. No program here. -/
namespace Mnc
open Go

/-- The rounded quotient as the program has it; the last step may wrap to 0. -/
def quo (n d : Nat) (away : Bool) : Nat × Bool := if d ≤ n / 18446744073709551616 then (0, false) else if away = true ∧ n % d ≠ 0 then ((n / d + 1) % 18446744073709551616, true) else (n / d, true)

theorem quo_far {hi lo d : Nat} (hl : lo < 18446744073709551616) (h : d ≤ hi) (away : Bool) : quo (hi * 18446744073709551616 + lo) d away = (0, false) := by
 unfold quo
 rw [if_pos (by omega)]

theorem quo_near {hi lo d : Nat} (hl : lo < 18446744073709551616) (h : hi < d) (away : Bool) : quo (hi * 18446744073709551616 + lo) d away = if away = true ∧ (hi * 18446744073709551616 + lo) % d ≠ 0 then (((hi * 18446744073709551616 + lo) / d + 1) % 18446744073709551616, true) else ((hi * 18446744073709551616 + lo) / d, true) := by
 unfold quo
 rw [if_neg (by omega)]

theorem quo_wrap (q : Nat) : (((q + 1) % 18446744073709551616 : Nat) : Int) = IntKind.u64.wrap ((q : Int) + 1) := by
 rw [IntKind.wrap_u64]; simp

theorem quo_lt (n d : Nat) (away : Bool) : (quo n d away).1 < 18446744073709551616 := by
 unfold quo
 split
 ·simp
 ·split
  ·exact Nat.mod_lt _ (by omega)
  ·show n / d < _
   rename_i h _
   apply Nat.div_lt_of_lt_mul
   omega

/-- The number of a size, with its sign. -/
def sgn (neg : Bool) (q : Nat × Bool) : Int × Int := if q.2 = false ∨ 4503599627370496 < q.1 then (0, 6) else (if neg then -(q.1 : Int) else (q.1 : Int), 0)
theorem sgn_false (neg : Bool) (q : Nat) : sgn neg (q, false) = (0, 6) := if_pos (Or.inl rfl)
theorem sgn_far (neg : Bool) {q : Nat} {f : Bool} (h : 4503599627370496 < q) : sgn neg (q, f) = (0, 6) := if_pos (Or.inr h)
theorem sgn_near (neg : Bool) {q : Nat} (h : q ≤ 4503599627370496) : sgn neg (q, true) = (if neg then -(q : Int) else (q : Int), 0) := if_neg (by simp; omega)

/-- A product, rounded, as the program has it. -/
def mul (up : Bool) (a b : Int) : Int × Int := if ok a ∧ ok b then sgn (decide (a < 0) != decide (b < 0)) (quo (a.natAbs * b.natAbs) 4294967296 (up != (decide (a < 0) != decide (b < 0)))) else (0, 2)
theorem mul_ok (up : Bool) {a b : Int} (ha : ok a) (hb : ok b) : mul up a b = sgn (decide (a < 0) != decide (b < 0)) (quo (a.natAbs * b.natAbs) 4294967296 (up != (decide (a < 0) != decide (b < 0)))) := if_pos ⟨ha, hb⟩
theorem mul_bad (up : Bool) {a b : Int} (h : ¬ (ok a ∧ ok b)) : mul up a b = (0, 2) := if_neg h

/-- A quotient, rounded. -/
def dvd (up : Bool) (a b : Int) : Int × Int := if ok a ∧ ok b then (if b = 0 then (0, 7) else sgn (decide (a < 0) != decide (b < 0)) (quo (a.natAbs * 4294967296) b.natAbs (up != (decide (a < 0) != decide (b < 0))))) else (0, 2)
theorem dvd_ok (up : Bool) {a b : Int} (ha : ok a) (hb : ok b) (hz : ¬ b = 0) : dvd up a b = sgn (decide (a < 0) != decide (b < 0)) (quo (a.natAbs * 4294967296) b.natAbs (up != (decide (a < 0) != decide (b < 0)))) := by rw [dvd, if_pos ⟨ha, hb⟩, if_neg hz]
theorem dvd_zero (up : Bool) {a b : Int} (ha : ok a) (hb : ok b) (hz : b = 0) : dvd up a b = (0, 7) := by rw [dvd, if_pos ⟨ha, hb⟩, if_pos hz]
theorem dvd_bad (up : Bool) {a b : Int} (h : ¬ (ok a ∧ ok b)) : dvd up a b = (0, 2) := if_neg h

/-- Scaled by a fraction. -/
def sclOk (a n d : Int) : Prop := ok a ∧ -4611686018427387904 ≤ n ∧ n ≤ 4611686018427387904 ∧ 1 ≤ d ∧ d ≤ 4611686018427387904
instance (a n d : Int) : Decidable (sclOk a n d) := by unfold sclOk; exact inferInstance
end Mnc

/- Plain: integer square roots; the root as the program has it. No program here. -/
namespace Mnc
open Go

end Mnc

/- Plain: what the rounded operations are, mirrored and canonical; the reference's long division and its root. No program here. -/
namespace Mnc
open Go

/-- Rounded to one side. -/
def rnd (up : Bool) (x d : Int) : Int := if up then -((-x) / d) else x / d

theorem cl_nat (n d : Nat) (hd : 0 < d) : -((-(n : Int)) / (d : Int)) = (((if n % d = 0 then n / d else n / d + 1) : Nat) : Int) := by
 have e := Nat.div_add_mod n d
 have hr := Nat.mod_lt n hd
 generalize n / d = q at *
 generalize n % d = r at *
 have hd' : (d : Int) ≠ 0 := by omega
 split
 ·rename_i hz
  subst hz
  have : (-(n : Int)) = (d : Int) * (-(q : Int)) := by rw [← e]; push_cast; rw [Int.mul_neg]; omega
  rw [this, Int.mul_ediv_cancel_left _ hd']
  omega
 ·have : (-(n : Int)) = ((d : Int) - r) + (d : Int) * (-((q : Int) + 1)) := by
   rw [← e]; push_cast; rw [Int.mul_neg, Int.mul_add]; omega
  rw [this, Int.add_mul_ediv_left _ _ hd', Int.ediv_eq_zero_of_lt (by omega) (by omega)]
  push_cast
  omega

theorem fl_nat (n d : Nat) : (n : Int) / (d : Int) = ((n / d : Nat) : Int) := (Int.natCast_ediv n d).symm

/-- The size of a rounded number. -/
def rsz (away : Bool) (n d : Nat) : Nat := if away = true ∧ n % d ≠ 0 then n / d + 1 else n / d
theorem rsz_ge (away : Bool) (n d : Nat) : n / d ≤ rsz away n d := by unfold rsz; split <;> omega

theorem rnd_size (neg up : Bool) (n d : Nat) (hd : 0 < d) : rnd up (if neg then -(n : Int) else (n : Int)) d = if neg then -((rsz (up != neg) n d : Nat) : Int) else ((rsz (up != neg) n d : Nat) : Int) := by
 have hc := cl_nat n d hd
 have hf := fl_nat n d
 unfold rnd rsz
 generalize n / d = q at *
 generalize n % d = r at *
 by_cases hr : r = 0
 ·subst hr
  simp only [if_true] at hc
  cases neg <;> cases up <;> simp <;> omega
 ·rw [if_neg hr] at hc
  cases neg <;> cases up <;> simp [hr] <;> omega

theorem ok_sign (neg : Bool) (m : Nat) : ok (if neg then -(m : Int) else (m : Int)) ↔ m ≤ 4503599627370496 := by
 unfold ok
 cases neg <;> simp <;> omega

/-- A rounded quotient with its sign is the rounded number, where the last step does not wrap. -/
theorem sgn_quo (neg up : Bool) (n d : Nat) (hd : 0 < d) (hw : n / d ≠ 18446744073709551615 ∨ n % d = 0) :
  sgn neg (quo n d (up != neg)) = fit (rnd up (if neg then -(n : Int) else (n : Int)) d) := by
 have hq : d ≤ n / 18446744073709551616 ↔ 18446744073709551616 ≤ n / d := by
  rw [Nat.le_div_iff_mul_le (by omega), Nat.le_div_iff_mul_le hd, Nat.mul_comm]
 rw [rnd_size neg up n d hd]
 have hge := rsz_ge (up != neg) n d
 by_cases h1 : d ≤ n / 18446744073709551616
 ·have e : quo n d (up != neg) = (0, false) := if_pos h1
  rw [e, sgn_false, fit_bad]
  rw [ok_sign]
  have := hq.mp h1
  omega
 ·have h2 : n / d < 18446744073709551616 := by omega
  have e : quo n d (up != neg) = (rsz (up != neg) n d, true) := by
   unfold quo rsz
   rw [if_neg h1]
   split
   ·rename_i h3
    have h4 : n / d ≠ 18446744073709551615 := by
     rcases hw with h | h
     ·exact h
     ·exact absurd h h3.2
    rw [Nat.mod_eq_of_lt (by omega)]
   ·rfl
  rw [e]
  generalize rsz (up != neg) n d = m at *
  by_cases h5 : m ≤ 4503599627370496
  ·rw [sgn_near neg h5, fit_ok ((ok_sign neg m).mpr h5)]
  ·rw [sgn_far neg (by omega), fit_bad (fun g => h5 ((ok_sign neg m).mp g))]

theorem sign_mul (a b : Int) : (if (decide (a < 0) != decide (b < 0)) = true then -((a.natAbs * b.natAbs : Nat) : Int) else ((a.natAbs * b.natAbs : Nat) : Int)) = a * b := by
 rw [← Int.natAbs_mul]
 by_cases ha : a < 0 <;> by_cases hb : b < 0
 ·have := Int.mul_pos_of_neg_of_neg ha hb; simp [ha, hb]; omega
 ·have := Int.mul_nonpos_of_nonpos_of_nonneg (Int.le_of_lt ha) (Int.not_lt.mp hb); simp [ha, hb]; omega
 ·have := Int.mul_nonpos_of_nonneg_of_nonpos (Int.not_lt.mp ha) (Int.le_of_lt hb); simp [ha, hb]; omega
 ·have := Int.mul_nonneg (Int.not_lt.mp ha) (Int.not_lt.mp hb); simp [ha, hb]; omega

theorem mul_fit (up : Bool) {a b : Int} (ha : ok a) (hb : ok b) (h : a.natAbs * b.natAbs < 39614081257132168796771975168) : mul up a b = fit (rnd up (a * b) 4294967296) := by
 rw [mul_ok up ha hb, sgn_quo _ _ _ _ (by omega) (Or.inl (by omega)), sign_mul]
 rfl
end Mnc

/- Plain: the reference's long division and its root, digit by digit; its product in parts. No program here. -/
namespace Mnc
open Go

/-- What put answers. -/
def putOf (neg : Bool) (n : Nat) (rest up : Bool) : Int × Bool :=
 if 4503599627370496 < (if (rest && (up != neg)) = true then n + 1 else n) then (0, false)
 else (if neg then -(((if (rest && (up != neg)) = true then n + 1 else n) : Nat) : Int) else (((if (rest && (up != neg)) = true then n + 1 else n) : Nat) : Int), true)

/-- A number, if it is a fixed-point number. -/
def fitB (v : Int) : Int × Bool := if ok v then (v, true) else (0, false)
theorem fitB_ok {v : Int} (h : ok v) : fitB v = (v, true) := if_pos h
theorem fitB_bad {v : Int} (h : ¬ ok v) : fitB v = (0, false) := if_neg h

theorem put_rnd (neg up : Bool) (n d : Nat) (hd : 0 < d) : putOf neg (n / d) (decide (0 < n % d)) up = fitB (rnd up (if neg then -(n : Int) else (n : Int)) d) := by
 rw [rnd_size neg up n d hd]
 have e : (if (decide (0 < n % d) && (up != neg)) = true then n / d + 1 else n / d) = rsz (up != neg) n d := by
  unfold rsz
  have : ((decide (0 < n % d) && (up != neg)) = true) ↔ ((up != neg) = true ∧ n % d ≠ 0) := by
   rw [Bool.and_eq_true, decide_eq_true_iff]
   constructor
   ·rintro ⟨h1, h2⟩; exact ⟨h2, by omega⟩
   ·rintro ⟨h1, h2⟩; exact ⟨by omega, h1⟩
  simp only [this]
 unfold putOf
 rw [e]
 generalize rsz (up != neg) n d = m
 by_cases h : 4503599627370496 < m
 ·rw [if_pos h, fitB_bad (fun g => by have := (ok_sign neg m).mp g; omega)]
 ·rw [if_neg h, fitB_ok ((ok_sign neg m).mpr (by omega))]

theorem rnd_far (neg up : Bool) (n d : Nat) (hd : 0 < d) (h : 4503599627370496 < n / d) : ¬ ok (rnd up (if neg then -(n : Int) else (n : Int)) d) := by
 rw [rnd_size neg up n d hd, ok_sign]
 have := rsz_ge (up != neg) n d
 omega

/-- The product in parts. -/
theorem parts_mul (x y : Nat) : x * y = x / 67108864 * (y / 67108864) * 4503599627370496 + (x / 67108864 * (y % 67108864) + x % 67108864 * (y / 67108864)) * 67108864 + x % 67108864 * (y % 67108864) := by
 have hx := Nat.div_add_mod x 67108864
 have hy := Nat.div_add_mod y 67108864
 generalize x / 67108864 = a at *
 generalize x % 67108864 = b at *
 generalize y / 67108864 = c at *
 generalize y % 67108864 = d at *
 rw [← hx, ← hy, Nat.mul_add, Nat.add_mul, Nat.add_mul]
 have e1 : 67108864 * a * (67108864 * c) = a * c * 4503599627370496 := by rw [Nat.mul_mul_mul_comm]; omega
 have e2 : b * (67108864 * c) = b * c * 67108864 := by rw [Nat.mul_left_comm]; omega
 have e3 : 67108864 * a * d = a * d * 67108864 := by rw [Nat.mul_assoc]; omega
 rw [e1, e2, e3, Nat.add_mul]
 omega

theorem parts_div {h m l : Nat} : (h * 4503599627370496 + m * 67108864 + l) / 4294967296 = h * 1048576 + m / 64 + (m % 64 * 67108864 + l) / 4294967296 ∧ (h * 4503599627370496 + m * 67108864 + l) % 4294967296 = (m % 64 * 67108864 + l) % 4294967296 := by
 omega
end Mnc

/- Plain: intervals; what the operations of package span answer. No program here. -/
namespace Mnc
open Go

/-- A valid interval. -/
def okS (s : Int × Int) : Prop := -4503599627370496 ≤ s.1 ∧ s.1 ≤ s.2 ∧ s.2 ≤ 4503599627370496
instance (s : Int × Int) : Decidable (okS s) := by unfold okS; exact inferInstance
theorem okS.lo {s : Int × Int} (h : okS s) : ok s.1 := by unfold okS at h; unfold ok; omega
theorem okS.hi {s : Int × Int} (h : okS s) : ok s.2 := by unfold okS at h; unfold ok; omega

def sChk (s : Int × Int) : Int := if okS s then 0 else 20
theorem sChk_ok {s : Int × Int} (h : okS s) : sChk s = 0 := if_pos h
theorem sChk_bad {s : Int × Int} (h : ¬ okS s) : sChk s = 20 := if_neg h
def sChk2 (s t : Int × Int) : Int := if okS s ∧ okS t then 0 else 20
theorem sChk2_ok {s t : Int × Int} (h : okS s) (k : okS t) : sChk2 s t = 0 := if_pos ⟨h, k⟩
theorem sChk2_bad {s t : Int × Int} (h : ¬ (okS s ∧ okS t)) : sChk2 s t = 20 := if_neg h

/-- An interval of a result. -/
def sT (lo hi : Int) : (Int × Int) × Int := if -4503599627370496 ≤ lo ∧ hi ≤ 4503599627370496 then ((lo, hi), 0) else ((0, 0), 6)
theorem sT_ok {lo hi : Int} (h : -4503599627370496 ≤ lo) (k : hi ≤ 4503599627370496) : sT lo hi = ((lo, hi), 0) := if_pos ⟨h, k⟩
theorem sT_bad {lo hi : Int} (h : ¬ (-4503599627370496 ≤ lo ∧ hi ≤ 4503599627370496)) : sT lo hi = ((0, 0), 6) := if_neg h

/-- An operation on two intervals. -/
def on2 (f : Int × Int → Int × Int → (Int × Int) × Int) (a b : Int × Int) : (Int × Int) × Int := if okS a ∧ okS b then f a b else ((0, 0), 20)
theorem on2_ok {f : Int × Int → Int × Int → (Int × Int) × Int} {a b : Int × Int} (h : okS a) (k : okS b) : on2 f a b = f a b := if_pos ⟨h, k⟩
theorem on2_bad {f : Int × Int → Int × Int → (Int × Int) × Int} {a b : Int × Int} (h : ¬ (okS a ∧ okS b)) : on2 f a b = ((0, 0), 20) := if_neg h
def on1 (f : Int × Int → (Int × Int) × Int) (a : Int × Int) : (Int × Int) × Int := if okS a then f a else ((0, 0), 20)
theorem on1_ok {f : Int × Int → (Int × Int) × Int} {a : Int × Int} (h : okS a) : on1 f a = f a := if_pos h
theorem on1_bad {f : Int × Int → (Int × Int) × Int} {a : Int × Int} (h : ¬ okS a) : on1 f a = ((0, 0), 20) := if_neg h

def sAdd : Int × Int → Int × Int → (Int × Int) × Int := on2 fun a b => sT (a.1 + b.1) (a.2 + b.2)
def sAbs : Int × Int → (Int × Int) × Int := on1 fun a => ((max (max a.1 (-a.2)) 0, max a.2 (-a.1)), 0)
def sOf (lo hi : Int) : (Int × Int) × Int := if okS (lo, hi) then ((lo, hi), 0) else ((0, 0), 20)
theorem sOf_ok {lo hi : Int} (h : okS (lo, hi)) : sOf lo hi = ((lo, hi), 0) := if_pos h
theorem sOf_bad {lo hi : Int} (h : ¬ okS (lo, hi)) : sOf lo hi = ((0, 0), 20) := if_neg h
/-- Rounded to units of 1 / One. -/
def fl (x : Int) : Int := rnd false x 4294967296
def cl (x : Int) : Int := rnd true x 4294967296
theorem fl_def (x : Int) : fl x = x / 4294967296 := rfl
theorem cl_def (x : Int) : cl x = -((-x) / 4294967296) := rfl
def min4 (a b c d : Int) : Int := min (min a b) (min c d)
def max4 (a b c d : Int) : Int := max (max a b) (max c d)

def sMul : Int × Int → Int × Int → (Int × Int) × Int := on2 fun a b =>
 sT (min4 (fl (a.1 * b.1)) (fl (a.1 * b.2)) (fl (a.2 * b.1)) (fl (a.2 * b.2))) (max4 (cl (a.1 * b.1)) (cl (a.1 * b.2)) (cl (a.2 * b.1)) (cl (a.2 * b.2)))

/-- A quotient, rounded; the divisor is not 0. -/
def dv (up : Bool) (x y : Int) : Int := rnd up (if y < 0 then -(x * 4294967296) else x * 4294967296) (y.natAbs : Int)
def sDiv : Int × Int → Int × Int → (Int × Int) × Int := on2 fun a b => if b.1 ≤ 0 ∧ 0 ≤ b.2 then ((0, 0), 7) else
 sT (min4 (dv false a.1 b.1) (dv false a.1 b.2) (dv false a.2 b.1) (dv false a.2 b.2)) (max4 (dv true a.1 b.1) (dv true a.1 b.2) (dv true a.2 b.1) (dv true a.2 b.2))

/-- The power of an interval, n from 1 on. -/
def pw (a : Int × Int) (n : Nat) : (Int × Int) × Int := sT (rnd false (a.1 ^ n) (4294967296 ^ (n - 1))) (rnd true (a.2 ^ n) (4294967296 ^ (n - 1)))
def sPow (a : Int × Int) (n : Int) : (Int × Int) × Int :=
 if okS a then (if n < 0 ∨ 16 < n then ((0, 0), 2) else if n = 0 then ((4294967296, 4294967296), 0) else if n % 2 = 0 then pw (sAbs a).1 n.toNat else pw a n.toNat) else ((0, 0), 20)
end Mnc

/- Plain: products and quotients at the corners; what between answers. No program here. -/
namespace Mnc
open Go

theorem fl_le_cl (x : Int) : fl x ≤ cl x := by
 rw [fl_def, cl_def]; omega

theorem mul_pair_ok {a b : Int} (ha : ok a) (hb : ok b) (h1 : ok (fl (a * b))) (h2 : ok (cl (a * b))) : mul false a b = (fl (a * b), 0) ∧ mul true a b = (cl (a * b), 0) := by
 by_cases h : a.natAbs * b.natAbs < 39614081257132168796771975168
 ·rw [mul_fit _ ha hb h, mul_fit _ ha hb h]
  exact ⟨fit_ok h1, fit_ok h2⟩
 ·exfalso
  have e := sign_mul a b
  have := rnd_far (decide (a < 0) != decide (b < 0)) false (a.natAbs * b.natAbs) 4294967296 (by omega) (by omega)
  rw [e] at this
  exact this h1

theorem mul_pair_bad {a b : Int} (ha : ok a) (hb : ok b) (h : ¬ (ok (fl (a * b)) ∧ ok (cl (a * b)))) : ¬ ((mul false a b).2 = 0 ∧ (mul true a b).2 = 0) := by
 by_cases hn : a.natAbs * b.natAbs < 39614081257132168796771975168
 ·rw [mul_fit _ ha hb hn, mul_fit _ ha hb hn]
  rintro ⟨g1, g2⟩
  apply h
  constructor
  ·by_cases k : ok (fl (a * b))
   ·exact k
   ·have e : fit (rnd false (a * b) 4294967296) = (0, 6) := fit_bad k
    rw [e] at g1
    cases g1
  ·by_cases k : ok (cl (a * b))
   ·exact k
   ·have e : fit (rnd true (a * b) 4294967296) = (0, 6) := fit_bad k
    rw [e] at g2
    cases g2
 ·rw [mul_ok _ ha hb, mul_ok _ ha hb]
  have key : ∀ s, sgn s (quo (a.natAbs * b.natAbs) 4294967296 false) = (0, 6) := by
   intro s
   unfold quo
   split
   ·exact sgn_false _ _
   ·rw [if_neg (by simp)]
    exact sgn_far _ (by omega)
  cases hs : (decide (a < 0) != decide (b < 0))
  ·simp [key]
  ·simp [key]

theorem dv_sign (x y : Int) : (if (decide (x < 0) != decide (y < 0)) = true then -((x.natAbs * 4294967296 : Nat) : Int) else ((x.natAbs * 4294967296 : Nat) : Int)) = if y < 0 then -(x * 4294967296) else x * 4294967296 := by
 by_cases hx : x < 0 <;> by_cases hy : y < 0 <;> simp [hx, hy] <;> omega

theorem dvd_fit (up : Bool) {a b : Int} (ha : ok a) (hb : ok b) (hz : ¬ b = 0) : dvd up a b = fit (dv up a b) := by
 rw [dvd_ok up ha hb hz, sgn_quo _ _ _ _ (by omega) ?_, dv_sign]
 ·rfl
 ·by_cases hr : a.natAbs * 4294967296 % b.natAbs = 0
  ·exact Or.inr hr
  ·left
   intro hq
   have e := Nat.div_add_mod (a.natAbs * 4294967296) b.natAbs
   have hm := Nat.mod_lt (a.natAbs * 4294967296) (show 0 < b.natAbs by omega)
   rw [hq] at e
   unfold ok at ha
   omega

/-- What between answers, of two operations with errors. -/
def btw (D U : Int → Int → Int × Int) (a b : Int × Int) : (Int × Int) × Int :=
 if ((D a.1 b.1).2 = 0 ∧ (U a.1 b.1).2 = 0) ∧ ((D a.1 b.2).2 = 0 ∧ (U a.1 b.2).2 = 0) ∧ ((D a.2 b.1).2 = 0 ∧ (U a.2 b.1).2 = 0) ∧ ((D a.2 b.2).2 = 0 ∧ (U a.2 b.2).2 = 0) then
  sT (min4 (D a.1 b.1).1 (D a.1 b.2).1 (D a.2 b.1).1 (D a.2 b.2).1) (max4 (U a.1 b.1).1 (U a.1 b.2).1 (U a.2 b.1).1 (U a.2 b.2).1)
 else ((0, 0), 6)

theorem btw_of {D U : Int → Int → Int × Int} {f g : Int → Int → Int} {a b : Int × Int}
  (hle : ∀ x y, f x y ≤ g x y)
  (hok : ∀ x y, (x = a.1 ∨ x = a.2) → (y = b.1 ∨ y = b.2) → ok (f x y) → ok (g x y) → D x y = (f x y, 0) ∧ U x y = (g x y, 0))
  (hbad : ∀ x y, (x = a.1 ∨ x = a.2) → (y = b.1 ∨ y = b.2) → ¬ (ok (f x y) ∧ ok (g x y)) → ¬ ((D x y).2 = 0 ∧ (U x y).2 = 0)) :
  btw D U a b = sT (min4 (f a.1 b.1) (f a.1 b.2) (f a.2 b.1) (f a.2 b.2)) (max4 (g a.1 b.1) (g a.1 b.2) (g a.2 b.1) (g a.2 b.2)) := by
 unfold btw
 have k : ∀ x y, (x = a.1 ∨ x = a.2) → (y = b.1 ∨ y = b.2) → (((D x y).2 = 0 ∧ (U x y).2 = 0) ↔ (ok (f x y) ∧ ok (g x y))) := by
  intro x y hx hy
  constructor
  ·intro h
   by_cases hh : ok (f x y) ∧ ok (g x y)
   ·exact hh
   ·exact absurd h (hbad x y hx hy hh)
  ·intro h
   obtain ⟨e1, e2⟩ := hok x y hx hy h.1 h.2
   rw [e1, e2]
   exact ⟨rfl, rfl⟩
 have l1 := hle a.1 b.1
 have l2 := hle a.1 b.2
 have l3 := hle a.2 b.1
 have l4 := hle a.2 b.2
 have k1 := k a.1 b.1 (.inl rfl) (.inl rfl)
 have k2 := k a.1 b.2 (.inl rfl) (.inr rfl)
 have k3 := k a.2 b.1 (.inr rfl) (.inl rfl)
 have k4 := k a.2 b.2 (.inr rfl) (.inr rfl)
 split
 ·rename_i h
  obtain ⟨h1, h2, h3, h4⟩ := h
  rw [k1] at h1
  rw [k2] at h2
  rw [k3] at h3
  rw [k4] at h4
  rw [(hok a.1 b.1 (.inl rfl) (.inl rfl) h1.1 h1.2).1, (hok a.1 b.1 (.inl rfl) (.inl rfl) h1.1 h1.2).2, (hok a.1 b.2 (.inl rfl) (.inr rfl) h2.1 h2.2).1, (hok a.1 b.2 (.inl rfl) (.inr rfl) h2.1 h2.2).2, (hok a.2 b.1 (.inr rfl) (.inl rfl) h3.1 h3.2).1, (hok a.2 b.1 (.inr rfl) (.inl rfl) h3.1 h3.2).2, (hok a.2 b.2 (.inr rfl) (.inr rfl) h4.1 h4.2).1, (hok a.2 b.2 (.inr rfl) (.inr rfl) h4.1 h4.2).2]
 ·rename_i h
  rw [sT_bad]
  rw [k1, k2, k3, k4] at h
  clear k k1 k2 k3 k4 hok hbad
  unfold ok at h
  unfold min4 max4
  omega

theorem btw_mul {a b : Int × Int} (ha : okS a) (hb : okS b) : btw (mul false) (mul true) a b = sMul a b := by
 have e : sMul a b = _ := on2_ok ha hb
 rw [e]
 refine btw_of (f := fun x y => fl (x * y)) (g := fun x y => cl (x * y)) (fun _ _ => fl_le_cl _) ?_ ?_
 ·intro x y hx hy h1 h2
  have hx' : ok x := by rcases hx with rfl | rfl <;> first | exact ha.lo | exact ha.hi
  have hy' : ok y := by rcases hy with rfl | rfl <;> first | exact hb.lo | exact hb.hi
  exact mul_pair_ok hx' hy' h1 h2
 ·intro x y hx hy h
  have hx' : ok x := by rcases hx with rfl | rfl <;> first | exact ha.lo | exact ha.hi
  have hy' : ok y := by rcases hy with rfl | rfl <;> first | exact hb.lo | exact hb.hi
  exact mul_pair_bad hx' hy' h

theorem rnd_le {x d : Int} (hd : 0 < d) : rnd false x d ≤ rnd true x d := by
 unfold rnd
 simp only [Bool.false_eq_true, if_false, if_true]
 have h1 := Int.mul_ediv_add_emod x d
 have h2 := Int.mul_ediv_add_emod (-x) d
 have h3 := Int.emod_nonneg x (show d ≠ 0 by omega)
 have h4 := Int.emod_nonneg (-x) (show d ≠ 0 by omega)
 have h5 : d * (x / d + (-x) / d) ≤ 0 := by rw [Int.mul_add]; omega
 have h6 : x / d + (-x) / d ≤ 0 := by
  apply Int.not_lt.mp
  intro h
  have := Int.mul_pos hd h
  omega
 omega

theorem btw_div {a b : Int × Int} (ha : okS a) (hb : okS b) (hz : ¬ (b.1 ≤ 0 ∧ 0 ≤ b.2)) : btw (dvd false) (dvd true) a b = sDiv a b := by
 have e : sDiv a b = _ := on2_ok ha hb
 rw [e, if_neg hz]
 have hnz : ∀ y, (y = b.1 ∨ y = b.2) → ¬ y = 0 := by
  intro y hy
  unfold okS at hb
  omega
 have hle : ∀ x y, y = 0 ∨ dv false x y ≤ dv true x y := by
  intro x y
  by_cases h : y = 0
  ·exact .inl h
  ·exact .inr (rnd_le (by omega))
 refine btw_of (f := fun x y => if y = 0 then 0 else dv false x y) (g := fun x y => if y = 0 then 0 else dv true x y) ?_ ?_ ?_ |>.trans ?_
 ·intro x y
  rcases hle x y with h | h
  ·simp [h]
  ·show (if y = 0 then 0 else dv false x y) ≤ (if y = 0 then 0 else dv true x y)
   split <;> omega
 ·intro x y hx hy h1 h2
  have hx' : ok x := by rcases hx with rfl | rfl <;> first | exact ha.lo | exact ha.hi
  have hy' : ok y := by rcases hy with rfl | rfl <;> first | exact hb.lo | exact hb.hi
  simp only [if_neg (hnz y hy)] at h1 h2 ⊢
  rw [dvd_fit _ hx' hy' (hnz y hy), dvd_fit _ hx' hy' (hnz y hy)]
  exact ⟨fit_ok h1, fit_ok h2⟩
 ·intro x y hx hy h
  have hx' : ok x := by rcases hx with rfl | rfl <;> first | exact ha.lo | exact ha.hi
  have hy' : ok y := by rcases hy with rfl | rfl <;> first | exact hb.lo | exact hb.hi
  simp only [if_neg (hnz y hy)] at h
  rw [dvd_fit _ hx' hy' (hnz y hy), dvd_fit _ hx' hy' (hnz y hy)]
  rintro ⟨g1, g2⟩
  apply h
  constructor
  ·by_cases k : ok (dv false x y)
   ·exact k
   ·rw [fit_bad k] at g1
    cases g1
  ·by_cases k : ok (dv true x y)
   ·exact k
   ·rw [fit_bad k] at g2
    cases g2
 ·simp only [if_neg (hnz b.1 (.inl rfl)), if_neg (hnz b.2 (.inr rfl))]
end Mnc

/- Plain: intervals times a fraction. No program here. -/
namespace Mnc
open Go

end Mnc

/- Plain: polynomials with interval coefficients; what the operations of package poly answer. No program here. -/
namespace Mnc
open Go

end Mnc

/- Plain: the coefficients of the derivative; what Slope answers. No program here. -/
namespace Mnc
open Go
end Mnc

/- Plain: intervals within intervals. No program here. -/
namespace Mnc
open Go

/-- An interval within another one. -/
def sIn (s t : Int × Int) : Prop := t.1 ≤ s.1 ∧ s.2 ≤ t.2
instance (s t : Int × Int) : Decidable (sIn s t) := by unfold sIn; exact inferInstance
end Mnc

/- Plain: polynomials within polynomials; what Eval and Slope answer at 0, and with one coefficient 0 more. No program here. -/
namespace Mnc
open Go

/-- A list of intervals within those of another list. -/
inductive AllIn : List (Int × Int) → List (Int × Int) → Prop
 | nil : AllIn [] []
 | cons {a b : Int × Int} {l m : List (Int × Int)} (ha : okS a) (hb : okS b) (h : sIn a b) (t : AllIn l m) : AllIn (a :: l) (b :: m)

theorem AllIn.len {l' l : List (Int × Int)} (h : AllIn l' l) : l'.length = l.length := by
 induction h with
 | nil => rfl
 | cons _ _ _ _ ih => simp [ih]

end Mnc
