/- The school division with two digits (Knuth's algorithm D), in plain numbers. -/
namespace Mnc
/-- One step of the school division: `q` is at least the true digit, `r` what is left of the high part. -/
def Dig (u u1 y1 y0 q r : Nat) : Prop := q * y1 + r = u ∧ (u * 4294967296 + u1) / (y1 * 4294967296 + y0) ≤ q ∧ q ≤ 4294967297

theorem dig_mul (q y1 y0 : Nat) : q * (y1 * 4294967296 + y0) = q * y1 * 4294967296 + q * y0 := by
  rw [Nat.mul_add, Nat.mul_assoc]

theorem dig_start {u u1 y1 y0 : Nat} (h1 : 2147483648 ≤ y1) (h0 : y0 < 4294967296) (hu1 : u1 < 4294967296) (hu : u < y1 * 4294967296 + y0) : Dig u u1 y1 y0 (u / y1) (u % y1) := by
  refine ⟨Nat.div_add_mod' u y1, ?_, ?_⟩
  · have hy : 0 < y1 := by omega
    have e : u * 4294967296 + u1 < (u / y1 + 1) * (y1 * 4294967296) := by
      have := Nat.lt_div_mul_add (a := u) hy
      rw [← Nat.mul_assoc, Nat.add_mul]
      have : u + 1 ≤ u / y1 * y1 + y1 := this
      have := Nat.mul_le_mul_right 4294967296 this
      omega
    have : (u * 4294967296 + u1) / (y1 * 4294967296 + y0) < u / y1 + 1 := by
      rw [Nat.div_lt_iff_lt_mul (by omega), Nat.mul_comm]
      rw [Nat.mul_comm, Nat.mul_add]
      omega
    omega
  · have hy : 0 < y1 := by omega
    have : u / y1 < 4294967298 := by
      rw [Nat.div_lt_iff_lt_mul hy]
      omega
    omega

theorem dig_gt {u u1 y1 y0 q r : Nat} (_h1 : 2147483648 ≤ y1) (hu1 : u1 < 4294967296) (hu : u < y1 * 4294967296 + y0) (h : Dig u u1 y1 y0 q r)
    (hc : 4294967296 ≤ q ∨ 4294967296 * r + u1 < q * y0) : 1 ≤ q ∧ (u * 4294967296 + u1) / (y1 * 4294967296 + y0) ≤ q - 1 := by
  obtain ⟨e, hq, _⟩ := h
  have hlt : (u * 4294967296 + u1) / (y1 * 4294967296 + y0) < q := by
    rcases hc with hc | hc
    · refine Nat.lt_of_lt_of_le ?_ hc
      rw [Nat.div_lt_iff_lt_mul (by omega)]
      have : u + 1 ≤ y1 * 4294967296 + y0 := hu
      have := Nat.mul_le_mul_right 4294967296 this
      omega
    · rw [Nat.div_lt_iff_lt_mul (by omega), dig_mul]
      have : (q * y1 + r) * 4294967296 = u * 4294967296 := by rw [e]
      rw [Nat.add_mul] at this
      omega
  generalize (u * 4294967296 + u1) / (y1 * 4294967296 + y0) = t at *
  omega

theorem dig_down {u u1 y1 y0 q r : Nat} (h1 : 2147483648 ≤ y1) (hu1 : u1 < 4294967296) (hu : u < y1 * 4294967296 + y0) (h : Dig u u1 y1 y0 q r)
    (hc : 4294967296 ≤ q ∨ 4294967296 * r + u1 < q * y0) : 1 ≤ q ∧ Dig u u1 y1 y0 (q - 1) (r + y1) := by
  have ⟨hq1, hq2⟩ := dig_gt h1 hu1 hu h hc
  obtain ⟨e, hq, hb⟩ := h
  refine ⟨hq1, ?_, hq2, by omega⟩
  obtain ⟨p, rfl⟩ : ∃ p, q = p + 1 := ⟨q - 1, by omega⟩
  rw [Nat.add_mul] at e
  simp only [Nat.add_sub_cancel]
  omega

theorem dig_le {u u1 y1 y0 q r : Nat} (h1 : 2147483648 ≤ y1) (h : Dig u u1 y1 y0 q r) (hc : q * y0 ≤ 4294967296 * r + u1) : q = (u * 4294967296 + u1) / (y1 * 4294967296 + y0) := by
  obtain ⟨e, hq, _⟩ := h
  refine Nat.le_antisymm ?_ hq
  rw [Nat.le_div_iff_mul_le (by omega), dig_mul]
  have : (q * y1 + r) * 4294967296 = u * 4294967296 := by rw [e]
  rw [Nat.add_mul] at this
  omega

/-- Out of the loop by its break. -/
theorem dig_break {u u1 y1 y0 q r : Nat} (h1 : 2147483648 ≤ y1) (h0 : y0 < 4294967296) (h : Dig u u1 y1 y0 q r) (hb : q ≤ 4294967296) (hr : 4294967296 ≤ r) : q = (u * 4294967296 + u1) / (y1 * 4294967296 + y0) := by
  refine dig_le h1 h ?_
  have := Nat.mul_le_mul hb (show y0 ≤ 4294967296 by omega)
  omega

theorem dig_rem {u u1 y1 y0 q : Nat} (hq : q = (u * 4294967296 + u1) / (y1 * 4294967296 + y0)) (hy : 0 < y1) :
    u * 4294967296 + u1 = q * (y1 * 4294967296 + y0) + (u * 4294967296 + u1) % (y1 * 4294967296 + y0) ∧ (u * 4294967296 + u1) % (y1 * 4294967296 + y0) < y1 * 4294967296 + y0 := by
  rw [hq]
  exact ⟨(Nat.div_add_mod' _ _).symm, Nat.mod_lt _ (by omega)⟩

/-- Two digits make the quotient. -/
theorem two_digits {u u1 u0 y q1 q0 r1 : Nat} (hq1 : q1 = (u * 4294967296 + u1) / y) (hr : r1 = (u * 4294967296 + u1) % y) (hq0 : q0 = (r1 * 4294967296 + u0) / y) (hy : 0 < y) :
    q1 * 4294967296 + q0 = (u * 18446744073709551616 + u1 * 4294967296 + u0) / y ∧ (r1 * 4294967296 + u0) % y = (u * 18446744073709551616 + u1 * 4294967296 + u0) % y := by
  have e : u * 18446744073709551616 + u1 * 4294967296 + u0 = (r1 * 4294967296 + u0) + y * (q1 * 4294967296) := by
    have h := Nat.div_add_mod (u * 4294967296 + u1) y
    rw [← hq1, ← hr] at h
    have e2 : y * (q1 * 4294967296) = y * q1 * 4294967296 := (Nat.mul_assoc _ _ _).symm
    rw [e2]
    clear hq0 hr hq1 e2
    omega
  rw [e, Nat.add_mul_div_left _ _ hy, Nat.add_mul_mod_self_left, ← hq0]
  exact ⟨Nat.add_comm _ _, rfl⟩

/-- A number of two words, moved to the left: the high word and the low word of what comes out. -/
theorem shift_split (hi lo s : Nat) (hs : s ≤ 63) :
    (hi * 18446744073709551616 + lo) * 2 ^ s = (hi * 2 ^ s + lo / 2 ^ (64 - s)) * 18446744073709551616 + lo * 2 ^ s % 18446744073709551616 := by
  have e : lo * 2 ^ s / 18446744073709551616 = lo / 2 ^ (64 - s) := by
    have h := Nat.mul_div_mul_right lo (2 ^ (64 - s)) (Nat.two_pow_pos s)
    rw [← Nat.pow_add, show 64 - s + s = 64 by omega] at h
    exact h
  have h2 := Nat.div_add_mod' (lo * 2 ^ s) 18446744073709551616
  rw [e] at h2
  have e3 : hi * 18446744073709551616 * 2 ^ s = hi * 2 ^ s * 18446744073709551616 := Nat.mul_right_comm _ _ _
  rw [Nat.add_mul, Nat.add_mul, e3, Nat.add_assoc, h2]

theorem shift_lt {hi lo s y : Nat} (hs : s ≤ 63) (hl : lo < 18446744073709551616) (h : hi < y) : hi * 2 ^ s + lo / 2 ^ (64 - s) < y * 2 ^ s := by
  have e := shift_split hi lo s hs
  have h1 : hi * 18446744073709551616 + lo < y * 18446744073709551616 := by omega
  have h2 := Nat.mul_lt_mul_of_pos_right h1 (Nat.two_pow_pos s)
  have e3 : y * 18446744073709551616 * 2 ^ s = y * 2 ^ s * 18446744073709551616 := Nat.mul_right_comm _ _ _
  rw [e, e3] at h2
  clear e e3 h1
  generalize hi * 2 ^ s + lo / 2 ^ (64 - s) = u at *
  generalize y * 2 ^ s = z at *
  omega

theorem low_lt {lo s : Nat} (hs : s ≤ 63) (hl : lo < 18446744073709551616) : lo / 2 ^ (64 - s) < 2 ^ s := by
  rw [Nat.div_lt_iff_lt_mul (Nat.two_pow_pos _), ← Nat.pow_add, show s + (64 - s) = 64 by omega]
  exact hl

/-- Back from the moved numbers to those that were asked for. -/
theorem div_back {hi lo s y Y u t u1 u0 Q1 R1 Q0 : Nat} (hY : Y = y * 2 ^ s) (hs : (hi * 18446744073709551616 + lo) * 2 ^ s = u * 18446744073709551616 + t)
    (ht : u1 * 4294967296 + u0 = t) (hQ1 : Q1 = (u * 4294967296 + u1) / Y) (hR1 : R1 = (u * 4294967296 + u1) % Y) (hQ0 : Q0 = (R1 * 4294967296 + u0) / Y) (hY0 : 0 < Y) (hlt : hi < y) (hl : lo < 18446744073709551616) :
    Q1 * 4294967296 + Q0 = (hi * 18446744073709551616 + lo) / y ∧ (R1 * 4294967296 + u0) % Y = (hi * 18446744073709551616 + lo) % y * 2 ^ s ∧ (hi * 18446744073709551616 + lo) / y < 18446744073709551616 := by
  have hN : u * 18446744073709551616 + u1 * 4294967296 + u0 = (hi * 18446744073709551616 + lo) * 2 ^ s := by rw [hs, ← ht, Nat.add_assoc]
  obtain ⟨a, b⟩ := two_digits (u0 := u0) hQ1 hR1 hQ0 hY0
  rw [hN, hY, Nat.mul_div_mul_right _ _ (Nat.two_pow_pos s)] at a
  rw [hN] at b
  refine ⟨a, ?_, ?_⟩
  · rw [b, hY, Nat.mul_mod_mul_right]
  · rw [Nat.div_lt_iff_lt_mul (by omega)]; omega
end Mnc
