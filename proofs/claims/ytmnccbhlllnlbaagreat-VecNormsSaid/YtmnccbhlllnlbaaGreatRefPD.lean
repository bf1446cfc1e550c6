/- Contracts of the reference of layer 2: raised, Pow. -/
import Derived.Test.YtmnccbhlllnlbaaGreatRefPC
import Derived.Test.YtmnccbhlllnlbaaGreatSpanLawB
namespace Mnc
open Go
/-- A power, rounded. -/
def rwr (up : Bool) (v : Int) (n : Nat) : Int := rnd up (v ^ n) (4294967296 ^ (n - 1))
theorem one_pos' (n : Nat) : (0 : Int) < 4294967296 ^ n := Int.pow_pos (by decide)
theorem rwr_mono (up : Bool) {x y : Int} {n : Nat} (h : x ^ n ≤ y ^ n) : rwr up x n ≤ rwr up y n := rnd_up_mono up (one_pos' _) h
theorem rwr_le (x : Int) (n : Nat) : rwr false x n ≤ rwr true x n := rnd_le (one_pos' _)
theorem rwr_nat (up : Bool) (V n : Nat) : rwr up (V : Int) n = (pwX V n up : Int) := by
  have h := rnd_size false up (V ^ n) (4294967296 ^ (n - 1)) (Nat.pow_pos (by decide))
  simp only [Bool.false_eq_true, if_false, Bool.bne_false] at h
  unfold rwr pwX
  rw [← h, Int.natCast_pow, Int.natCast_pow]
  rfl
theorem neg_pow_even (x : Int) (k : Nat) : (-x) ^ (2 * k) = x ^ (2 * k) := by
  rw [Int.pow_mul, Int.pow_mul]
  congr 1
  rw [Int.pow_succ, Int.pow_succ, Int.pow_succ, Int.pow_succ, Int.pow_zero, Int.pow_zero, Int.one_mul, Int.one_mul]
  exact Int.neg_mul_neg x x
theorem rwr_even (up : Bool) (x : Int) {n : Nat} (h : n % 2 = 0) : rwr up (-x) n = rwr up x n := by
  unfold rwr
  rw [show n = 2 * (n / 2) by omega, neg_pow_even]
theorem rwr_odd (up : Bool) (V n : Nat) (h : n % 2 = 1) : rwr up (-(V : Int)) n = -(pwX V n (!up) : Int) := by
  have h2 := rnd_size true up (V ^ n) (4294967296 ^ (n - 1)) (Nat.pow_pos (by decide))
  simp only [if_true, Bool.bne_true] at h2
  unfold rwr pwX
  have e : (-(V : Int)) ^ n = -((V : Int) ^ n) := by
    rw [show n = 2 * (n / 2) + 1 by omega]
    exact neg_pow_odd _ _
  rw [← h2, e, Int.natCast_pow, Int.natCast_pow]
  rfl
theorem sPow_pw {s : Int × Int} {n : Nat} (h : okS s) (h1 : 1 ≤ n) (hn : n ≤ 16) : sPow s (n : Int) = if n % 2 = 0 then sT (rwr false (max (max s.1 (-s.2)) 0) n) (rwr true (max s.2 (-s.1)) n) else sT (rwr false s.1 n) (rwr true s.2 n) := by
  unfold sPow
  rw [if_pos h, if_neg (by omega), if_neg (by omega), sAbs_val h]
  by_cases e : n % 2 = 0
  · rw [if_pos e, if_pos (by omega)]
    rfl
  · rw [if_neg e, if_neg (by omega)]
    rfl
/-- What Pow of the reference makes of the four powers. -/
def pLo (s : Int × Int) (n : Nat) : Int := if n % 2 = 0 ∧ s.1 < 0 ∧ 0 < s.2 then 0 else min (rwr false s.1 n) (rwr false s.2 n)
def pHi (s : Int × Int) (n : Nat) : Int := max (rwr true s.1 n) (rwr true s.2 n)
def pAll (s : Int × Int) (n : Nat) : Prop := ok (rwr false s.1 n) ∧ ok (rwr false s.2 n) ∧ ok (rwr true s.1 n) ∧ ok (rwr true s.2 n)
theorem rwr_zero (n : Nat) (h1 : 1 ≤ n) : rwr false 0 n = 0 := by
  unfold rwr
  rw [Int.zero_pow (by omega)]
  exact Int.zero_ediv _
theorem rwr_nn {x : Int} {n : Nat} (h : 0 ≤ x ^ n) : 0 ≤ rwr false x n := Int.ediv_nonneg h (Int.le_of_lt (one_pos' _))
theorem even_nn (x : Int) {n : Nat} (h : n % 2 = 0) : 0 ≤ x ^ n := by
  by_cases hx : 0 ≤ x
  · exact pow_nn hx n
  · rw [show n = 2 * (n / 2) by omega, ← neg_pow_even]
    exact pow_nn (by omega) _
theorem even_le {x y : Int} {n : Nat} (h : n % 2 = 0) (h1 : x ≤ y) (h2 : -x ≤ y) : x ^ n ≤ y ^ n := by
  by_cases hx : 0 ≤ x
  · exact pow_le_pos hx h1 n
  · have := pow_le_pos (x := -x) (y := y) (by omega) h2 n
    rw [show n = 2 * (n / 2) by omega, neg_pow_even, ← show n = 2 * (n / 2) by omega] at this
    exact this
theorem pow_laws {s : Int × Int} {n : Nat} (h : okS s) (h1 : 1 ≤ n) (hn : n ≤ 16) : (pAll s n → pLo s n ≤ pHi s n ∧ sPow s (n : Int) = sT (pLo s n) (pHi s n)) ∧ (¬ pAll s n → sPow s (n : Int) = ((0, 0), 6)) := by
  rw [sPow_pw h h1 hn]
  obtain ⟨g1, g2, g3⟩ := h
  have a1 := rwr_le s.1 n
  have a2 := rwr_le s.2 n
  -- one form for all: the answer's ends are the least and the greatest
  have key : ∀ lo hi : Int, lo = pLo s n → hi = pHi s n → (lo ≤ hi) → ((-4503599627370496 ≤ lo ∧ hi ≤ 4503599627370496) → pAll s n) → (pAll s n → pLo s n ≤ pHi s n ∧ sT lo hi = sT (pLo s n) (pHi s n)) ∧ (¬ pAll s n → sT lo hi = ((0, 0), 6)) := by
    rintro lo hi rfl rfl hle hk
    exact ⟨fun _ => ⟨hle, rfl⟩, fun hno => sT_bad (fun g => hno (hk g))⟩
  by_cases e : n % 2 = 0
  · rw [if_pos e]
    have n1 := rwr_nn (even_nn s.1 e)
    have n2 := rwr_nn (even_nn s.2 e)
    by_cases p1 : 0 ≤ s.1
    · have m1 := rwr_mono false (even_le e (x := s.1) (y := s.2) g2 (by omega))
      have m2 := rwr_mono true (even_le e (x := s.1) (y := s.2) g2 (by omega))
      rw [show max (max s.1 (-s.2)) 0 = s.1 by omega, show max s.2 (-s.1) = s.2 by omega]
      exact key _ _ (by unfold pLo; rw [if_neg (by omega)]; omega) (by unfold pHi; omega) (by omega) (fun g => by unfold pAll ok; omega)
    · by_cases p2 : s.2 ≤ 0
      · have m1 := rwr_mono false (even_le e (x := s.2) (y := -s.1) (by omega) (by omega))
        have m2 := rwr_mono true (even_le e (x := s.2) (y := -s.1) (by omega) (by omega))
        rw [rwr_even _ _ e] at m1 m2
        rw [show max (max s.1 (-s.2)) 0 = -s.2 by omega, show max s.2 (-s.1) = -s.1 by omega, rwr_even _ _ e, rwr_even _ _ e]
        exact key _ _ (by unfold pLo; rw [if_neg (by omega)]; omega) (by unfold pHi; omega) (by omega) (fun g => by unfold pAll ok; omega)
      · rw [show max (max s.1 (-s.2)) 0 = 0 by omega, rwr_zero n h1]
        have hh : rwr true (max s.2 (-s.1)) n = pHi s n := by
          unfold pHi
          by_cases p3 : -s.1 ≤ s.2
          · have m2 := rwr_mono true (even_le e (x := s.1) (y := s.2) g2 p3)
            rw [show max s.2 (-s.1) = s.2 by omega]
            omega
          · have m2 := rwr_mono true (even_le e (x := s.2) (y := -s.1) (by omega) (by omega))
            rw [rwr_even _ _ e] at m2
            rw [show max s.2 (-s.1) = -s.1 by omega, rwr_even _ _ e]
            omega
        rw [hh]
        exact key _ _ (by unfold pLo; rw [if_pos (by omega)]) rfl (by unfold pHi; omega) (fun g => by unfold pHi at g; unfold pAll ok; omega)
  · rw [if_neg e]
    have hm : s.1 ^ n ≤ s.2 ^ n := by
      rw [show n = 2 * (n / 2) + 1 by omega]
      exact pow_le_odd g2 _
    have m1 := rwr_mono false hm
    have m2 := rwr_mono true hm
    exact key _ _ (by unfold pLo; rw [if_neg (by omega)]; omega) (by unfold pHi; omega) (by omega) (fun g => by unfold pAll ok; omega)
end Mnc
namespace Go.Proofs.YtmnccbhlllnlbaaGreat
open Go.RowKit Mnc

/-- How raised answers. -/
def RsEnd (v : Int) (n : Nat) (up : Bool) (e : Ending) : Prop := ∃ (X : Int) (F : Bool), e = .returned (.tuple #[.int .i64 X, .bool F]) ∧ (F = true → X = rwr up v n ∧ ok X) ∧ (F = false → ¬ ok (rwr up v n)) ∧ -4503599627436032 ≤ X ∧ X ≤ 4503599627436032

set_option maxRecDepth 100000 in
set_option maxHeartbeats 2000000 in
theorem ref2_raised (v : Int) (hv : ok v) (n : Nat) (h1 : 1 ≤ n) (hn : n ≤ 16) (up : Bool) (w : World) :
    Calls Tryz.prog 93 #[.int .i64 v, .int .i64 (n : Int), .bool up] w fun e w' => RsEnd v n up e ∧ Below w.heap.size w w' := by
  obtain ⟨hv1, hv2⟩ := hv
  by_cases hp : 0 ≤ v
  · obtain ⟨V, rfl⟩ := Int.eq_ofNat_of_zero_le hp
    have HW := Lib.hid (rwr_nat up V n)
    have HC := Lib.hid (fun W => ref2_power V n (by omega) h1 hn up W)
    go_enter Tryz.func93, Tryz.ntmps93
    go_wp2_with fail
    refine (HC.out _).mono ?_; rintro e w2 ⟨⟨X, F, rfl, h2, h3, h4⟩, hb⟩
    have H2 := Lib.hid h2
    have H3 := Lib.hid h3
    have H4 := Lib.hid h4
    clear h2 h3 h4
    go_wp2_with fail
    go_ret2
    exact ⟨⟨X, F, rfl, (fun h => ⟨by rw [HW.out, (H2.out h).1], by have := (H2.out h).2; unfold ok; omega⟩), (fun h => by rw [HW.out]; have := H3.out h; unfold ok; omega), by omega, by have := H4.out; omega⟩, hb⟩
  · obtain ⟨V, hV⟩ := Int.eq_ofNat_of_zero_le (show 0 ≤ -v by omega)
    have d0 : decide (0 ≤ v) = false := decide_eq_false hp
    by_cases ev : n % 2 = 0
    · have HW := Lib.hid (show rwr up v n = (pwX V n up : Int) by rw [← rwr_even up v ev, hV]; exact rwr_nat up V n)
      have HC := Lib.hid (fun W => ref2_power V n (by omega) h1 hn up W)
      have d1 : ((n : Int) % 2 == 0) = true := by simp; omega
      go_enter Tryz.func93, Tryz.ntmps93
      go_wp2_with fail
      refine (HC.out _).mono ?_; rintro e w2 ⟨⟨X, F, rfl, h2, h3, h4⟩, hb⟩
      have H2 := Lib.hid h2
      have H3 := Lib.hid h3
      have H4 := Lib.hid h4
      clear h2 h3 h4
      go_wp2_with fail
      go_ret2
      exact ⟨⟨X, F, rfl, (fun h => ⟨by rw [HW.out, (H2.out h).1], by have := (H2.out h).2; unfold ok; omega⟩), (fun h => by rw [HW.out]; have := H3.out h; unfold ok; omega), by omega, by have := H4.out; omega⟩, hb⟩
    · have HW := Lib.hid (show rwr up v n = -(pwX V n (!up) : Int) by rw [show v = -(V : Int) by omega]; exact rwr_odd up V n (by omega))
      have HC := Lib.hid (fun W => ref2_power V n (by omega) h1 hn (!up) W)
      have d1 : ((n : Int) % 2 == 0) = false := by simp; omega
      go_enter Tryz.func93, Tryz.ntmps93
      go_wp2_with fail
      refine (HC.out _).mono ?_; rintro e w2 ⟨⟨X, F, rfl, h2, h3, h4⟩, hb⟩
      have H2 := Lib.hid h2
      have H3 := Lib.hid h3
      have H4 := Lib.hid h4
      have h5 : (X : Int) ≤ 4503599627436032 := by omega
      clear h2 h3 h4
      go_wp2_with fail
      go_ret2
      exact ⟨⟨-(X : Int), F, rfl, (fun h => ⟨by rw [HW.out, (H2.out h).1], by have := (H2.out h).2; unfold ok; omega⟩), (fun h => by rw [HW.out]; have := H3.out h; unfold ok; omega), by omega, by omega⟩, hb⟩
end Go.Proofs.YtmnccbhlllnlbaaGreat
