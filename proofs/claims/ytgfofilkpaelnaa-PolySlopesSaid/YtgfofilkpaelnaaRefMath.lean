/- Plain: the reference's long division and its root, digit by digit; its product in parts. No program here. -/
import Derived.Test.YtgfofilkpaelnaaFixMath
namespace Mnc
open Go

/-- The long division of the reference, before bit i is taken. -/
def OvAt (a n d i q r : Nat) : Prop := q * d + r = a / 2 ^ i * n ∧ r < d ∧ q ≤ 4503599627370496
/-- Inside the round of bit i. -/
def OvIn (a n d i q r : Nat) : Prop := q * d + r = a / 2 ^ i * n ∧ r < 3 * d ∧ q + r / d ≤ 9223372036854775808 + 9007199254740992 + 2

theorem ovAt_start {a n d : Nat} (ha : a < 18446744073709551616) (hd : 0 < d) : OvAt a n d 64 0 0 := by
  refine ⟨?_, hd, by omega⟩
  rw [show a / 2 ^ 64 = 0 from Nat.div_eq_of_lt ha]
  simp

theorem half_step (a i : Nat) : a / 2 ^ i = 2 * (a / 2 ^ (i + 1)) + a / 2 ^ i % 2 := by
  rw [Nat.pow_succ, ← Nat.div_div_eq_div_mul]
  omega

theorem ovIn_zero {a n d i q r : Nat} (h : OvAt a n d (i + 1) q r) (hb : a / 2 ^ i % 2 = 0) : OvIn a n d i (2 * q) (2 * r) := by
  obtain ⟨h1, h2, h3⟩ := h
  have hr : 2 * r / d < 3 := by rw [Nat.div_lt_iff_lt_mul (by omega)]; omega
  refine ⟨?_, by omega, by omega⟩
  rw [half_step a i, hb, Nat.add_zero, Nat.mul_assoc, Nat.mul_assoc, ← h1, Nat.mul_add]

theorem ovIn_one {a n d i q r : Nat} (h : OvAt a n d (i + 1) q r) (hn : n ≤ 9223372036854775808) (hb : a / 2 ^ i % 2 = 1) : OvIn a n d i (2 * q + n / d) (2 * r + n % d) := by
  obtain ⟨h1, h2, h3⟩ := h
  have hm := Nat.mod_lt n (show 0 < d by omega)
  have hdl := Nat.div_le_self n d
  have hr : (2 * r + n % d) / d < 3 := by rw [Nat.div_lt_iff_lt_mul (by omega)]; omega
  refine ⟨?_, by omega, by omega⟩
  rw [half_step a i, hb, Nat.add_mul, Nat.add_mul, Nat.mul_assoc 2, Nat.mul_assoc 2, ← h1, Nat.one_mul]
  have := Nat.div_add_mod' n d
  rw [Nat.mul_add]
  omega

theorem ovIn_down {a n d i q r : Nat} (h : OvIn a n d i q r) (hr : d ≤ r) (hd : 0 < d) : OvIn a n d i (q + 1) (r - d) := by
  obtain ⟨h1, h2, h3⟩ := h
  have e : r / d = (r - d) / d + 1 := by
    have := Nat.add_div_right (r - d) hd
    rw [Nat.sub_add_cancel hr] at this
    exact this
  refine ⟨?_, by omega, by omega⟩
  rw [← h1, Nat.add_mul]
  omega

theorem ovIn_end {a n d i q r : Nat} (h : OvIn a n d i q r) (hr : r < d) (hq : q ≤ 4503599627370496) : OvAt a n d i q r := ⟨h.1, hr, hq⟩

theorem ovIn_far {a n d i q r : Nat} (h : OvIn a n d i q r) (hd : 0 < d) (hq : 4503599627370496 < q) : 4503599627370496 < a * n / d := by
  obtain ⟨h1, _, _⟩ := h
  have h2 : a / 2 ^ i * n ≤ a * n := Nat.mul_le_mul_right _ (Nat.div_le_self _ _)
  have h3 : q ≤ a * n / d := by rw [Nat.le_div_iff_mul_le hd]; omega
  omega

theorem ovAt_end {a n d q r : Nat} (h : OvAt a n d 0 q r) : a * n / d = q ∧ a * n % d = r := by
  obtain ⟨h1, h2, _⟩ := h
  rw [Nat.pow_zero, Nat.div_one] at h1
  have hd : 0 < d := by omega
  rw [← h1, Nat.mul_comm q d]
  constructor
  · rw [Nat.mul_add_div hd, Nat.div_eq_of_lt h2]; rfl
  · rw [Nat.mul_add_mod, Nat.mod_eq_of_lt h2]

/-- What over answers. -/
def ovr (a n d : Nat) : Nat × Bool × Bool := if a * n / d ≤ 4503599627370496 then (a * n / d, decide (0 < a * n % d), true) else (0, false, false)
theorem ovr_far {a n d : Nat} (h : 4503599627370496 < a * n / d) : ovr a n d = (0, false, false) := if_neg (by omega)
theorem ovr_near {a n d q r : Nat} (h : OvAt a n d 0 q r) : ovr a n d = (q, decide (0 < r), true) := by
  obtain ⟨h1, h2⟩ := ovAt_end h
  unfold ovr
  rw [h1, h2, if_pos h.2.2]

/-- What put answers. -/
def putOf (neg : Bool) (n : Nat) (rest up : Bool) : Int × Bool :=
  if 4503599627370496 < (if (rest && (up != neg)) = true then n + 1 else n) then (0, false)
  else (if neg then -(((if (rest && (up != neg)) = true then n + 1 else n) : Nat) : Int) else (((if (rest && (up != neg)) = true then n + 1 else n) : Nat) : Int), true)

theorem put_ok (neg : Bool) (n : Nat) (rest up : Bool) : ok (putOf neg n rest up).1 := by
  unfold putOf ok
  generalize (if (rest && (up != neg)) = true then n + 1 else n) = m
  split
  · simp
  · cases neg <;> simp <;> omega

/-- A number, if it is a fixed-point number. -/
def fitB (v : Int) : Int × Bool := if ok v then (v, true) else (0, false)
theorem fitB_ok {v : Int} (h : ok v) : fitB v = (v, true) := if_pos h
theorem fitB_bad {v : Int} (h : ¬ ok v) : fitB v = (0, false) := if_neg h

theorem put_rnd (neg up : Bool) (n d : Nat) (hd : 0 < d) : putOf neg (n / d) (decide (0 < n % d)) up = fitB (rnd up (if neg then -(n : Int) else (n : Int)) d) := by
  rw [rnd_size neg up n d hd]
  have e : (if (decide (0 < n % d) && (up != neg)) = true then n / d + 1 else n / d) = rsz (up != neg) n d := by
    unfold rsz
    have : ((decide (0 < n % d) && (up != neg)) = true) ↔ ((up != neg) = true ∧ n % d ≠ 0) := by
      rw [Bool.and_eq_true, decide_eq_true_iff]
      constructor
      · rintro ⟨h1, h2⟩; exact ⟨h2, by omega⟩
      · rintro ⟨h1, h2⟩; exact ⟨by omega, h1⟩
    simp only [this]
  unfold putOf
  rw [e]
  generalize rsz (up != neg) n d = m
  by_cases h : 4503599627370496 < m
  · rw [if_pos h, fitB_bad (fun g => by have := (ok_sign neg m).mp g; omega)]
  · rw [if_neg h, fitB_ok ((ok_sign neg m).mpr (by omega))]

theorem rnd_far (neg up : Bool) (n d : Nat) (hd : 0 < d) (h : 4503599627370496 < n / d) : ¬ ok (rnd up (if neg then -(n : Int) else (n : Int)) d) := by
  rw [rnd_size neg up n d hd, ok_sign]
  have := rsz_ge (up != neg) n d
  omega

/-- The reference's rounded quotient. -/
def putOvr (neg up : Bool) (a n d : Nat) : Int × Bool := if (ovr a n d).2.2 = true then putOf neg (ovr a n d).1 (ovr a n d).2.1 up else (0, false)
theorem putOvr_far {a n d : Nat} (neg up : Bool) (h : ovr a n d = (0, false, false)) : putOvr neg up a n d = (0, false) := by rw [putOvr, h]; rfl
theorem putOvr_near {a n d q : Nat} {rest : Bool} (neg up : Bool) (h : ovr a n d = (q, rest, true)) : putOvr neg up a n d = putOf neg q rest up := by rw [putOvr, h]; rfl

theorem putOvr_rnd (neg up : Bool) (a n d : Nat) (hd : 0 < d) : putOvr neg up a n d = fitB (rnd up (if neg then -((a * n : Nat) : Int) else ((a * n : Nat) : Int)) d) := by
  by_cases h : a * n / d ≤ 4503599627370496
  · have e : ovr a n d = (a * n / d, decide (0 < a * n % d), true) := if_pos h
    rw [putOvr_near _ _ e, put_rnd _ _ _ _ hd]
  · rw [putOvr_far _ _ (ovr_far (by omega)), fitB_bad (rnd_far _ _ _ _ hd (by omega))]

/-- The root of the reference, before its bits i are taken. -/
def RtAt (N i root rest : Nat) : Prop := root * root + rest = N / 4 ^ i ∧ rest ≤ 2 * root

theorem rtAt_start {N : Nat} (h : N < 4 ^ 43) : RtAt N 43 0 0 := ⟨by rw [Nat.div_eq_of_lt h], by omega⟩

theorem quarter_step (a i : Nat) : a / 4 ^ i = 4 * (a / 4 ^ (i + 1)) + a / 4 ^ i % 4 := by
  rw [Nat.pow_succ, ← Nat.div_div_eq_div_mul]
  omega

theorem rtAt_take {N i root rest two : Nat} (h : RtAt N (i + 1) root rest) (ht : N / 4 ^ i % 4 = two) (hc : 4 * root + 1 ≤ 4 * rest + two) : RtAt N i (2 * root + 1) (4 * rest + two - (4 * root + 1)) := by
  obtain ⟨h1, h2⟩ := h
  have : two < 4 := by rw [← ht]; exact Nat.mod_lt _ (by omega)
  refine ⟨?_, by omega⟩
  rw [quarter_step, ht, ← h1]
  have e : (2 * root + 1) * (2 * root + 1) = 4 * (root * root) + 4 * root + 1 := by
    rw [Nat.mul_add, Nat.add_mul, Nat.mul_mul_mul_comm]; omega
  rw [e]
  omega

theorem rtAt_leave {N i root rest two : Nat} (h : RtAt N (i + 1) root rest) (ht : N / 4 ^ i % 4 = two) (hc : ¬ 4 * root + 1 ≤ 4 * rest + two) : RtAt N i (2 * root) (4 * rest + two) := by
  obtain ⟨h1, h2⟩ := h
  refine ⟨?_, by omega⟩
  rw [quarter_step, ht, ← h1]
  have e : (2 * root) * (2 * root) = 4 * (root * root) := by rw [Nat.mul_mul_mul_comm]
  rw [e]
  omega

theorem rtAt_end {N root rest : Nat} (h : RtAt N 0 root rest) (up : Bool) : rtOf up N = if up = true ∧ 0 < rest then root + 1 else root := by
  obtain ⟨h1, h2⟩ := h
  rw [Nat.pow_zero, Nat.div_one] at h1
  have e : isq N = root := isq_eq (by omega) (by rw [Nat.mul_add, Nat.add_mul]; omega)
  unfold rtOf
  rw [e]
  have : (¬ root * root = N) ↔ 0 < rest := by omega
  simp only [this]

theorem rtAt_bd {N i root rest : Nat} (h : RtAt N i root rest) (hN : N ≤ 19342813113834066795298816) : root ≤ 4398046511104 ∧ rest ≤ 8796093022208 := by
  obtain ⟨h1, h2⟩ := h
  have h3 : root * root ≤ 4398046511104 * 4398046511104 := by
    have := Nat.div_le_self N (4 ^ i)
    omega
  have : root ≤ 4398046511104 := Nat.mul_self_le_mul_self_iff.mp h3
  omega

theorem two_hi (a : Nat) {i : Nat} (h : 16 ≤ i) : a * 4294967296 / 4 ^ i = a / 2 ^ (2 * i - 32) := by
  have e : (4 : Nat) ^ i = 4294967296 * 2 ^ (2 * i - 32) := by
    rw [show (4 : Nat) = 2 ^ 2 by rfl, ← Nat.pow_mul, show (4294967296 : Nat) = 2 ^ 32 by rfl, ← Nat.pow_add]
    congr 1
    omega
  rw [e, Nat.mul_comm a, Nat.mul_div_mul_left _ _ (by omega)]

theorem two_lo (a : Nat) {i : Nat} (h : i < 16) : a * 4294967296 / 4 ^ i % 4 = 0 := by
  have e : 4294967296 = 4 ^ i * (4 ^ (15 - i) * 4) := by
    rw [← Nat.pow_succ, ← Nat.pow_add, show i + (15 - i).succ = 16 by omega]
  rw [e, Nat.mul_left_comm, Nat.mul_div_cancel_left _ (Nat.pow_pos (by omega)), ← Nat.mul_assoc, Nat.mul_mod_left]

/-- The product in parts. -/
theorem parts_mul (x y : Nat) : x * y = x / 67108864 * (y / 67108864) * 4503599627370496 + (x / 67108864 * (y % 67108864) + x % 67108864 * (y / 67108864)) * 67108864 + x % 67108864 * (y % 67108864) := by
  have hx := Nat.div_add_mod x 67108864
  have hy := Nat.div_add_mod y 67108864
  generalize x / 67108864 = a at *
  generalize x % 67108864 = b at *
  generalize y / 67108864 = c at *
  generalize y % 67108864 = d at *
  rw [← hx, ← hy, Nat.mul_add, Nat.add_mul, Nat.add_mul]
  have e1 : 67108864 * a * (67108864 * c) = a * c * 4503599627370496 := by rw [Nat.mul_mul_mul_comm]; omega
  have e2 : b * (67108864 * c) = b * c * 67108864 := by rw [Nat.mul_left_comm]; omega
  have e3 : 67108864 * a * d = a * d * 67108864 := by rw [Nat.mul_assoc]; omega
  rw [e1, e2, e3, Nat.add_mul]
  omega

theorem parts_div {h m l : Nat} : (h * 4503599627370496 + m * 67108864 + l) / 4294967296 = h * 1048576 + m / 64 + (m % 64 * 67108864 + l) / 4294967296 ∧ (h * 4503599627370496 + m * 67108864 + l) % 4294967296 = (m % 64 * 67108864 + l) % 4294967296 := by
  omega
end Mnc
