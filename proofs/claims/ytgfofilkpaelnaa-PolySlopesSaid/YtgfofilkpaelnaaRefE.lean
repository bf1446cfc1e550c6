/- Contracts of the reference of layer 1: Mul, Scale, scaled, ScaleDown, ScaleUp. -/
import Derived.Test.YtgfofilkpaelnaaRefC
namespace Mnc
open Go
/-- What the reference's scaled operation answers. -/
def rScl (up : Bool) (a n d : Int) : Int × Int := if sclOk a n d then fit (rnd up (a * n) d) else (0, 2)
theorem rScl_ok (up : Bool) {a n d : Int} (h : sclOk a n d) : rScl up a n d = fit (rnd up (a * n) d) := if_pos h
theorem rScl_bad (up : Bool) {a n d : Int} (h : ¬ sclOk a n d) : rScl up a n d = (0, 2) := if_neg h
theorem mul_parts (x y : Nat) : x * y / 4294967296 = x / 67108864 * (y / 67108864) * 1048576 + (x / 67108864 * (y % 67108864) + x % 67108864 * (y / 67108864)) / 64 + ((x / 67108864 * (y % 67108864) + x % 67108864 * (y / 67108864)) % 64 * 67108864 + x % 67108864 * (y % 67108864)) / 4294967296 ∧
    x * y % 4294967296 = ((x / 67108864 * (y % 67108864) + x % 67108864 * (y / 67108864)) % 64 * 67108864 + x % 67108864 * (y % 67108864)) % 4294967296 := by
  rw [parts_mul x y]
  exact parts_div
theorem natAbs_sign (a b : Int) : (if (decide (a < 0) != decide (b < 0)) = true then -((a.natAbs * b.natAbs : Nat) : Int) else ((a.natAbs * b.natAbs : Nat) : Int)) = a * b := sign_mul a b
end Mnc
namespace Go.Proofs.Ytgfofilkpaelnaa
open Go.RowKit Mnc

theorem ref1_putI (ng : Bool) (N : Int) (rest up : Bool) (w : World) (h0 : 0 ≤ N) (hn : N ≤ 9223372036854775807) :
    Calls Try.prog 181 #[.bool ng, .int .u64 N, .bool rest, .bool up] w fun e w' => e = .returned (.tuple #[.int .i64 (putOf ng N.toNat rest up).1, .bool (putOf ng N.toNat rest up).2]) ∧ w = w' := by
  obtain ⟨n, rfl⟩ := Int.eq_ofNat_of_zero_le h0
  exact ref1_put ng n rest up w (by omega)

set_option maxRecDepth 100000 in
set_option maxHeartbeats 2000000 in
theorem ref1_Mul (a b : Int) (up : Bool) (ha : ok a) (hb : ok b) (w : World) :
    Calls Try.prog 152 #[.int .i64 a, .int .i64 b, .bool up] w fun e w' => e = .returned (.tuple #[.int .i64 (fitB (rnd up (a * b) 4294967296)).1, .bool (fitB (rnd up (a * b) 4294967296)).2]) ∧ w = w' := by
  have HsA := Lib.hid (fun W => ref1_size a W (by have := ha.1; omega) (by have := ha.2; omega))
  have HsB := Lib.hid (fun W => ref1_size b W (by have := hb.1; omega) (by have := hb.2; omega))
  have hP := put_rnd (decide (a < 0) != decide (b < 0)) up (a.natAbs * b.natAbs) 4294967296 (by decide)
  have hF : 4503599627370496 < a.natAbs * b.natAbs / 4294967296 → fitB (rnd up (a * b) 4294967296) = (0, false) := fun h => by
    have := rnd_far (decide (a < 0) != decide (b < 0)) up (a.natAbs * b.natAbs) 4294967296 (by decide) h
    rw [natAbs_sign] at this
    exact fitB_bad this
  rw [natAbs_sign] at hP
  obtain ⟨e1, e2⟩ := mul_parts a.natAbs b.natAbs
  have hx : a.natAbs ≤ 4503599627370496 := by have := ha.1; have := ha.2; omega
  have hy : b.natAbs ≤ 4503599627370496 := by have := hb.1; have := hb.2; omega
  obtain ⟨x, hX⟩ : ∃ x, x = a.natAbs := ⟨_, rfl⟩
  obtain ⟨y, hY⟩ : ∃ y, y = b.natAbs := ⟨_, rfl⟩
  rw [← hX] at HsA hP hF e1 e2 hx
  rw [← hY] at HsB hP hF e1 e2 hy
  clear hX hY ha hb
  obtain ⟨xh, hxh⟩ : ∃ xh, x / 67108864 = xh := ⟨_, rfl⟩
  obtain ⟨xl, hxl⟩ : ∃ xl, x % 67108864 = xl := ⟨_, rfl⟩
  obtain ⟨yh, hyh⟩ : ∃ yh, y / 67108864 = yh := ⟨_, rfl⟩
  obtain ⟨yl, hyl⟩ : ∃ yl, y % 67108864 = yl := ⟨_, rfl⟩
  rw [hxh, hxl, hyh, hyl] at e1 e2
  have bxh : xh ≤ 67108864 := by omega
  have bxl : xl ≤ 67108864 := by omega
  have byh : yh ≤ 67108864 := by omega
  have byl : yl ≤ 67108864 := by omega
  obtain ⟨p, hp⟩ : ∃ p, xh * yh = p := ⟨_, rfl⟩
  obtain ⟨q, hq⟩ : ∃ q, xh * yl = q := ⟨_, rfl⟩
  obtain ⟨r, hr⟩ : ∃ r, xl * yh = r := ⟨_, rfl⟩
  obtain ⟨s, hs⟩ : ∃ s, xl * yl = s := ⟨_, rfl⟩
  have bp : p ≤ 4503599627370496 := by have := Nat.mul_le_mul bxh byh; omega
  have bq : q ≤ 4503599627370496 := by have := Nat.mul_le_mul bxh byl; omega
  have br : r ≤ 4503599627370496 := by have := Nat.mul_le_mul bxl byh; omega
  have bs : s ≤ 4503599627370496 := by have := Nat.mul_le_mul bxl byl; omega
  rw [hp, hq, hr, hs] at e1
  rw [hq, hr, hs] at e2
  have hxh' : (x : Int) / 67108864 = (xh : Int) := by omega
  have hxl' : (x : Int) % 67108864 = (xl : Int) := by omega
  have hyh' : (y : Int) / 67108864 = (yh : Int) := by omega
  have hyl' : (y : Int) % 67108864 = (yl : Int) := by omega
  have hp' : (xh : Int) * (yh : Int) = (p : Int) := by rw [← hp]; push_cast; rfl
  have hq' : (xh : Int) * (yl : Int) = (q : Int) := by rw [← hq]; push_cast; rfl
  have hr' : (xl : Int) * (yh : Int) = (r : Int) := by rw [← hr]; push_cast; rfl
  have hs' : (xl : Int) * (yl : Int) = (s : Int) := by rw [← hs]; push_cast; rfl
  clear hxh hxl hyh hyl hp hq hr hs
  by_cases hh : p < 8589934592
  · have HV : Hid (fitB (rnd up (a * b) 4294967296) = putOf (decide (a < 0) != decide (b < 0)) (p * 1048576 + (q + r) / 64 + ((q + r) % 64 * 67108864 + s) / 4294967296) (decide (0 < (((q : Int) + (r : Int)) % 64 * 67108864 + (s : Int)) % 4294967296)) up) := Lib.hid (by
      have hP' : _ = fitB (rnd up (a * b) 4294967296) := hP
      rw [← hP', e1, e2]
      congr 1
      apply decide_eq_decide.mpr
      omega)
    have hd : decide ((8589934592 : Int) ≤ (p : Int)) = false := by simp; omega
    clear hP hF e1 e2
    go_enter Try.func152, Try.ntmps152
    go_wp2_with (first | (go_at_call_of 180 a; refine (HsA.out _).mono ?_; rintro e w' ⟨rfl, rfl⟩) | (go_at_call_of 180 b; refine (HsB.out _).mono ?_; rintro e w' ⟨rfl, rfl⟩) | (go_at_call 181; refine (ref1_putI _ _ _ _ _ (by omega) (by omega)).mono ?_; rintro e w' ⟨rfl, rfl⟩))
    go_ret2
    exact ⟨by rw [HV.out]; rfl, rfl⟩
  · have HV : Hid (fitB (rnd up (a * b) 4294967296) = (0, false)) := Lib.hid (hF (by rw [e1]; omega))
    have hd : decide ((8589934592 : Int) ≤ (p : Int)) = true := by simp; omega
    clear hP hF e1 e2
    go_enter Try.func152, Try.ntmps152
    go_wp2_with (first | (go_at_call_of 180 a; refine (HsA.out _).mono ?_; rintro e w' ⟨rfl, rfl⟩) | (go_at_call_of 180 b; refine (HsB.out _).mono ?_; rintro e w' ⟨rfl, rfl⟩))
    go_ret2
    exact ⟨ret_ib HV.out, rfl⟩

set_option maxHeartbeats 1000000 in
theorem ref1_Scale (a n : Int) (d : Nat) (up : Bool) (h : sclOk a n d) (w : World) :
    Calls Try.prog 199 #[.int .i64 a, .int .i64 n, .int .i64 d, .bool up] w fun e w' => e = .returned (.tuple #[.int .i64 (fitB (rnd up (a * n) d)).1, .bool (fitB (rnd up (a * n) d)).2]) ∧ Below w.heap.size w w' := by
  obtain ⟨ha, hn1, hn2, hd1, hd2⟩ := h
  have HsA := Lib.hid (fun W => ref1_size a W (by have := ha.1; omega) (by have := ha.2; omega))
  have HsB := Lib.hid (fun W => ref1_size n W (by omega) (by omega))
  have HO := Lib.hid (fun W => ref1_over a.natAbs n.natAbs d (by have := ha.1; have := ha.2; omega) (by omega) (by omega) (by omega) W)
  have HV := Lib.hid (putOvr_rnd (decide (a < 0) != decide (n < 0)) up a.natAbs n.natAbs d (by omega))
  rw [natAbs_sign] at HV
  obtain ⟨x, hx⟩ : ∃ x, x = a.natAbs := ⟨_, rfl⟩
  obtain ⟨y, hy⟩ : ∃ y, y = n.natAbs := ⟨_, rfl⟩
  rw [← hx] at HsA HO HV
  rw [← hy] at HsB HO HV
  clear hx hy ha hn1 hn2
  have HL := Lib.hid (ovr_le x y d)
  obtain ⟨res, hres⟩ : ∃ res, res = ovr x y d := ⟨_, rfl⟩
  rw [← hres] at HO HL
  have HRES := Lib.hid hres
  clear hres
  obtain ⟨q, rest, fits⟩ := res
  have hq : q ≤ 4503599627370496 := HL.out
  have hd3 : (d : Int) < 18446744073709551616 := by omega
  cases fits
  · have HF : Hid (fitB (rnd up (a * n) d) = (0, false)) := Lib.hid (by
      rw [← HV.out, putOvr, ← HRES.out]; rfl)
    go_enter Try.func199, Try.ntmps199
    go_wp2_with (first | (go_at_call_of 180 a; refine (HsA.out _).mono ?_; rintro e w' ⟨rfl, rfl⟩) | (go_at_call_of 180 n; refine (HsB.out _).mono ?_; rintro e w' ⟨rfl, rfl⟩) | (go_at_call 208; refine (HO.out _).mono ?_; rintro e w' ⟨rfl, hbel⟩))
    go_ret2
    exact ⟨ret_ib HF.out, hbel⟩
  · have HF : Hid (fitB (rnd up (a * n) d) = putOf (decide (a < 0) != decide (n < 0)) q rest up) := Lib.hid (by
      rw [← HV.out, putOvr, ← HRES.out]; rfl)
    go_enter Try.func199, Try.ntmps199
    go_wp2_with (first | (go_at_call_of 180 a; refine (HsA.out _).mono ?_; rintro e w' ⟨rfl, rfl⟩) | (go_at_call_of 180 n; refine (HsB.out _).mono ?_; rintro e w' ⟨rfl, rfl⟩) | (go_at_call 208; refine (HO.out _).mono ?_; rintro e w' ⟨rfl, hbel⟩) | (go_at_call 181; refine (ref1_put _ q _ _ _ (by omega)).mono ?_; rintro e w' ⟨rfl, rfl⟩))
    go_ret2
    exact ⟨by rw [HF.out]; rfl, hbel⟩

/-- For the fractions that the laws of this part ask for. -/
theorem ref1_scaled (a n : Int) (d : Nat) (up : Bool) (h : sclOk a n d) (w : World) :
    Calls Try.prog 183 #[.int .i64 a, .int .i64 n, .int .i64 d, .bool up] w fun e w' => e = .returned (.tuple #[.int .i64 (rScl up a n d).1, .int .i64 (rScl up a n d).2]) ∧ Below w.heap.size w w' := by
  have HS := Lib.hid (fun W => ref1_Scale a n d up h W)
  have HT := Lib.hid (fun W => ref1_told_fit (rnd up (a * n) d) W)
  have HV := Lib.hid (rScl_ok up h)
  obtain ⟨ha, hn1, hn2, hd1, hd2⟩ := h
  have HA := Lib.hid ha
  clear ha
  obtain ⟨r, hr⟩ : ∃ r, r = rnd up (a * n) d := ⟨_, rfl⟩
  rw [← hr] at HS HT HV
  clear hr
  go_enter Try.func183, Try.ntmps183
  go_wp2_with fail
  refine (ref1_Right_ok HA.out _).mono ?_; rintro e w' ⟨rfl, rfl⟩
  go_wp2_with fail
  refine (HS.out _).mono ?_; rintro e w1 ⟨rfl, hbel⟩
  go_wp2_with fail
  refine (HT.out _).mono ?_; rintro e w2 ⟨rfl, rfl⟩
  go_wp2_with fail
  go_ret2
  exact ⟨ret2 (by rw [HV.out]), hbel⟩
theorem ref1_ScaleDown (a n : Int) (d : Nat) (h : sclOk a n d) (w : World) :
    Calls Try.prog 157 #[.int .i64 a, .int .i64 n, .int .i64 d] w fun e w' => e = .returned (.tuple #[.int .i64 (rScl false a n d).1, .int .i64 (rScl false a n d).2]) ∧ Below w.heap.size w w' := by
  have HS := Lib.hid (fun W => ref1_scaled a n d false h W)
  clear h
  go_enter Try.func157, Try.ntmps157
  go_wp2_with fail
  refine (HS.out _).mono ?_; rintro e w1 ⟨rfl, hbel⟩
  go_wp2_with fail
  go_ret2
  exact ⟨rfl, hbel⟩
theorem ref1_ScaleUp (a n : Int) (d : Nat) (h : sclOk a n d) (w : World) :
    Calls Try.prog 158 #[.int .i64 a, .int .i64 n, .int .i64 d] w fun e w' => e = .returned (.tuple #[.int .i64 (rScl true a n d).1, .int .i64 (rScl true a n d).2]) ∧ Below w.heap.size w w' := by
  have HS := Lib.hid (fun W => ref1_scaled a n d true h W)
  clear h
  go_enter Try.func158, Try.ntmps158
  go_wp2_with fail
  refine (HS.out _).mono ?_; rintro e w1 ⟨rfl, hbel⟩
  go_wp2_with fail
  go_ret2
  exact ⟨rfl, hbel⟩
end Go.Proofs.Ytgfofilkpaelnaa
