/- Contracts of the reference of layer 1: Right, Check, told, Add, Sub, Neg, size, put, over, Div, quotient, DivDown, DivUp. -/
import Derived.Test.YthhkcfpljgdnhaaGreatFixI
import Derived.Test.YthhkcfpljgdnhaaGreatPl
namespace Go.Proofs.YthhkcfpljgdnhaaGreat
open Go.RowKit Mnc

theorem ref1_Right (a : Int) (w : World) :
  Calls Tryz.prog 105 #[.int .i64 a] w fun e w' => e = .returned (.bool (decide (ok a))) ∧ w = w' := by
 by_cases h1 : -4503599627370496 ≤ a
 ·by_cases h2 : a ≤ 4503599627370496
  ·rw [decide_eq_true (show ok a by unfold ok; omega)]
   go_enter Tryz.func105, Tryz.ntmps105
   go_wp2
   go_ret
   exact ⟨rfl, rfl⟩
  ·rw [decide_eq_false (show ¬ ok a by unfold ok; omega)]
   go_enter Tryz.func105, Tryz.ntmps105
   go_wp2
   go_ret
   exact ⟨rfl, rfl⟩
 ·rw [decide_eq_false (show ¬ ok a by unfold ok; omega)]
  go_enter Tryz.func105, Tryz.ntmps105
  go_wp2
  go_ret
  exact ⟨rfl, rfl⟩

theorem ref1_Right_ok {a : Int} (h : ok a) (w : World) :
  Calls Tryz.prog 105 #[.int .i64 a] w fun e w' => e = .returned (.bool true) ∧ w = w' := by
 have := ref1_Right a w
 rw [decide_eq_true h] at this
 exact this
theorem ref1_Right_bad {a : Int} (h : ¬ ok a) (w : World) :
  Calls Tryz.prog 105 #[.int .i64 a] w fun e w' => e = .returned (.bool false) ∧ w = w' := by
 have := ref1_Right a w
 rw [decide_eq_false h] at this
 exact this

theorem ref1_size (a : Int) (w : World) (h1 : -9223372036854775808 ≤ a) (h2 : a ≤ 9223372036854775807) :
  Calls Tryz.prog 119 #[.int .i64 a] w fun e w' => e = .returned (.int .u64 (a.natAbs : Int)) ∧ w = w' := by
 by_cases h : a < 0
 ·go_enter Tryz.func119, Tryz.ntmps119
  go_wp2
  go_ret
  exact ⟨ret_int (by omega), rfl⟩
 ·go_enter Tryz.func119, Tryz.ntmps119
  go_wp2
  go_ret
  exact ⟨ret_int (by omega), rfl⟩

theorem ret_ib {k : IntKind} {a : Int} {b : Bool} {p : Int × Bool} (h : p = (a, b)) : Ending.returned (.tuple #[.int k a, .bool b]) = .returned (.tuple #[.int k p.1, .bool p.2]) := by rw [h]

theorem ref1_put (ng : Bool) (n : Nat) (rest up : Bool) (w : World) (hn : n ≤ 9223372036854775807) :
  Calls Tryz.prog 120 #[.bool ng, .int .u64 n, .bool rest, .bool up] w fun e w' => e = .returned (.tuple #[.int .i64 (putOf ng n rest up).1, .bool (putOf ng n rest up).2]) ∧ w = w' := by
 by_cases h0 : (rest && (up != ng)) = true
 ·by_cases h : 4503599627370496 < n + 1
  ·have hb : decide ((4503599627370496 : Int) < (n : Int) + 1) = true := by simp; omega
   have HR := Lib.hid (show putOf ng n rest up = (0, false) by unfold putOf; rw [if_pos h0, if_pos h])
   clear h
   cases rest <;> cases up <;> cases ng <;> first | (exfalso; revert h0; decide) | skip
   all_goals
    clear h0
    go_enter Tryz.func120, Tryz.ntmps120
    go_wp2
    go_ret2
    exact ⟨ret_ib HR.out, rfl⟩
  ·have hb : decide ((4503599627370496 : Int) < (n : Int) + 1) = false := by simp; omega
   have HR := Lib.hid (show putOf ng n rest up = (if ng then -((n : Int) + 1) else ((n : Int) + 1), true) by unfold putOf; rw [if_pos h0, if_neg h]; push_cast; rfl)
   have hn2 : n ≤ 4503599627370495 := by omega
   clear h
   cases rest <;> cases up <;> cases ng <;> first | (exfalso; revert h0; decide) | skip
   all_goals
    clear h0
    go_enter Tryz.func120, Tryz.ntmps120
    go_wp2
    go_ret2
    exact ⟨ret_ib HR.out, rfl⟩
 ·by_cases h : 4503599627370496 < n
  ·have hb : decide ((4503599627370496 : Int) < (n : Int)) = true := by simp; omega
   have HR := Lib.hid (show putOf ng n rest up = (0, false) by unfold putOf; rw [if_neg h0, if_pos h])
   clear h
   cases rest <;> cases up <;> cases ng <;> first | (exfalso; revert h0; decide) | skip
   all_goals
    clear h0
    go_enter Tryz.func120, Tryz.ntmps120
    go_wp2
    go_ret2
    exact ⟨ret_ib HR.out, rfl⟩
  ·have hb : decide ((4503599627370496 : Int) < (n : Int)) = false := by simp; omega
   have HR := Lib.hid (show putOf ng n rest up = (if ng then -(n : Int) else (n : Int), true) by unfold putOf; rw [if_neg h0, if_neg h])
   clear h
   cases rest <;> cases up <;> cases ng <;> first | (exfalso; revert h0; decide) | skip
   all_goals
    clear h0
    go_enter Tryz.func120, Tryz.ntmps120
    go_wp2
    go_ret2
    exact ⟨ret_ib HR.out, rfl⟩
end Go.Proofs.YthhkcfpljgdnhaaGreat

/- Contracts of the reference of layer 1: over, Div, quotient, DivDown, DivUp. -/
namespace Go.Proofs.YthhkcfpljgdnhaaGreat
open Go.RowKit Mnc

end Go.Proofs.YthhkcfpljgdnhaaGreat

/- Contracts of the reference of layer 1: Div, quotient, DivDown, DivUp, Sqrt, SqrtDown, SqrtUp. -/
namespace Go.Proofs.YthhkcfpljgdnhaaGreat
open Go.RowKit Mnc

end Go.Proofs.YthhkcfpljgdnhaaGreat

/- Contracts of the reference of layer 1: Sqrt, SqrtDown, SqrtUp. -/
namespace Go.Proofs.YthhkcfpljgdnhaaGreat
open Go.RowKit Mnc

end Go.Proofs.YthhkcfpljgdnhaaGreat

/- Contracts of the reference of layer 1: Mul, Scale, scaled, ScaleDown, ScaleUp. -/
namespace Mnc
open Go
theorem mul_parts (x y : Nat) : x * y / 4294967296 = x / 67108864 * (y / 67108864) * 1048576 + (x / 67108864 * (y % 67108864) + x % 67108864 * (y / 67108864)) / 64 + ((x / 67108864 * (y % 67108864) + x % 67108864 * (y / 67108864)) % 64 * 67108864 + x % 67108864 * (y % 67108864)) / 4294967296 ∧
  x * y % 4294967296 = ((x / 67108864 * (y % 67108864) + x % 67108864 * (y / 67108864)) % 64 * 67108864 + x % 67108864 * (y % 67108864)) % 4294967296 := by
 rw [parts_mul x y]
 exact parts_div
theorem natAbs_sign (a b : Int) : (if (decide (a < 0) != decide (b < 0)) = true then -((a.natAbs * b.natAbs : Nat) : Int) else ((a.natAbs * b.natAbs : Nat) : Int)) = a * b := sign_mul a b
end Mnc
namespace Go.Proofs.YthhkcfpljgdnhaaGreat
open Go.RowKit Mnc

theorem ref1_putI (ng : Bool) (N : Int) (rest up : Bool) (w : World) (h0 : 0 ≤ N) (hn : N ≤ 9223372036854775807) :
  Calls Tryz.prog 120 #[.bool ng, .int .u64 N, .bool rest, .bool up] w fun e w' => e = .returned (.tuple #[.int .i64 (putOf ng N.toNat rest up).1, .bool (putOf ng N.toNat rest up).2]) ∧ w = w' := by
 obtain ⟨n, rfl⟩ := Int.eq_ofNat_of_zero_le h0
 exact ref1_put ng n rest up w (by omega)

set_option maxRecDepth 100000 in
set_option maxHeartbeats 2000000 in
theorem ref1_Mul (a b : Int) (up : Bool) (ha : ok a) (hb : ok b) (w : World) :
  Calls Tryz.prog 106 #[.int .i64 a, .int .i64 b, .bool up] w fun e w' => e = .returned (.tuple #[.int .i64 (fitB (rnd up (a * b) 4294967296)).1, .bool (fitB (rnd up (a * b) 4294967296)).2]) ∧ w = w' := by
 have HsA := Lib.hid (fun W => ref1_size a W (by have := ha.1; omega) (by have := ha.2; omega))
 have HsB := Lib.hid (fun W => ref1_size b W (by have := hb.1; omega) (by have := hb.2; omega))
 have hP := put_rnd (decide (a < 0) != decide (b < 0)) up (a.natAbs * b.natAbs) 4294967296 (by decide)
 have hF : 4503599627370496 < a.natAbs * b.natAbs / 4294967296 → fitB (rnd up (a * b) 4294967296) = (0, false) := fun h => by
  have := rnd_far (decide (a < 0) != decide (b < 0)) up (a.natAbs * b.natAbs) 4294967296 (by decide) h
  rw [natAbs_sign] at this
  exact fitB_bad this
 rw [natAbs_sign] at hP
 obtain ⟨e1, e2⟩ := mul_parts a.natAbs b.natAbs
 have hx : a.natAbs ≤ 4503599627370496 := by have := ha.1; have := ha.2; omega
 have hy : b.natAbs ≤ 4503599627370496 := by have := hb.1; have := hb.2; omega
 obtain ⟨x, hX⟩ : ∃ x, x = a.natAbs := ⟨_, rfl⟩
 obtain ⟨y, hY⟩ : ∃ y, y = b.natAbs := ⟨_, rfl⟩
 rw [← hX] at HsA hP hF e1 e2 hx
 rw [← hY] at HsB hP hF e1 e2 hy
 clear hX hY ha hb
 obtain ⟨xh, hxh⟩ : ∃ xh, x / 67108864 = xh := ⟨_, rfl⟩
 obtain ⟨xl, hxl⟩ : ∃ xl, x % 67108864 = xl := ⟨_, rfl⟩
 obtain ⟨yh, hyh⟩ : ∃ yh, y / 67108864 = yh := ⟨_, rfl⟩
 obtain ⟨yl, hyl⟩ : ∃ yl, y % 67108864 = yl := ⟨_, rfl⟩
 rw [hxh, hxl, hyh, hyl] at e1 e2
 have bxh : xh ≤ 67108864 := by omega
 have bxl : xl ≤ 67108864 := by omega
 have byh : yh ≤ 67108864 := by omega
 have byl : yl ≤ 67108864 := by omega
 obtain ⟨p, hp⟩ : ∃ p, xh * yh = p := ⟨_, rfl⟩
 obtain ⟨q, hq⟩ : ∃ q, xh * yl = q := ⟨_, rfl⟩
 obtain ⟨r, hr⟩ : ∃ r, xl * yh = r := ⟨_, rfl⟩
 obtain ⟨s, hs⟩ : ∃ s, xl * yl = s := ⟨_, rfl⟩
 have bp : p ≤ 4503599627370496 := by have := Nat.mul_le_mul bxh byh; omega
 have bq : q ≤ 4503599627370496 := by have := Nat.mul_le_mul bxh byl; omega
 have br : r ≤ 4503599627370496 := by have := Nat.mul_le_mul bxl byh; omega
 have bs : s ≤ 4503599627370496 := by have := Nat.mul_le_mul bxl byl; omega
 rw [hp, hq, hr, hs] at e1
 rw [hq, hr, hs] at e2
 have hxh' : (x : Int) / 67108864 = (xh : Int) := by omega
 have hxl' : (x : Int) % 67108864 = (xl : Int) := by omega
 have hyh' : (y : Int) / 67108864 = (yh : Int) := by omega
 have hyl' : (y : Int) % 67108864 = (yl : Int) := by omega
 have hp' : (xh : Int) * (yh : Int) = (p : Int) := by rw [← hp]; push_cast; rfl
 have hq' : (xh : Int) * (yl : Int) = (q : Int) := by rw [← hq]; push_cast; rfl
 have hr' : (xl : Int) * (yh : Int) = (r : Int) := by rw [← hr]; push_cast; rfl
 have hs' : (xl : Int) * (yl : Int) = (s : Int) := by rw [← hs]; push_cast; rfl
 clear hxh hxl hyh hyl hp hq hr hs
 by_cases hh : p < 8589934592
 ·have HV : Hid (fitB (rnd up (a * b) 4294967296) = putOf (decide (a < 0) != decide (b < 0)) (p * 1048576 + (q + r) / 64 + ((q + r) % 64 * 67108864 + s) / 4294967296) (decide (0 < (((q : Int) + (r : Int)) % 64 * 67108864 + (s : Int)) % 4294967296)) up) := Lib.hid (by
   have hP' : _ = fitB (rnd up (a * b) 4294967296) := hP
   rw [← hP', e1, e2]
   congr 1
   apply decide_eq_decide.mpr
   omega)
  have hd : decide ((8589934592 : Int) ≤ (p : Int)) = false := by simp; omega
  clear hP hF e1 e2
  go_enter Tryz.func106, Tryz.ntmps106
  go_wp2_with (first | (go_at_call_of 119 a; refine (HsA.out _).mono ?_; rintro e w' ⟨rfl, rfl⟩) | (go_at_call_of 119 b; refine (HsB.out _).mono ?_; rintro e w' ⟨rfl, rfl⟩) | (go_at_call 120; refine (ref1_putI _ _ _ _ _ (by omega) (by omega)).mono ?_; rintro e w' ⟨rfl, rfl⟩))
  go_ret2
  exact ⟨by rw [HV.out]; rfl, rfl⟩
 ·have HV : Hid (fitB (rnd up (a * b) 4294967296) = (0, false)) := Lib.hid (hF (by rw [e1]; omega))
  have hd : decide ((8589934592 : Int) ≤ (p : Int)) = true := by simp; omega
  clear hP hF e1 e2
  go_enter Tryz.func106, Tryz.ntmps106
  go_wp2_with (first | (go_at_call_of 119 a; refine (HsA.out _).mono ?_; rintro e w' ⟨rfl, rfl⟩) | (go_at_call_of 119 b; refine (HsB.out _).mono ?_; rintro e w' ⟨rfl, rfl⟩))
  go_ret2
  exact ⟨ret_ib HV.out, rfl⟩

end Go.Proofs.YthhkcfpljgdnhaaGreat
