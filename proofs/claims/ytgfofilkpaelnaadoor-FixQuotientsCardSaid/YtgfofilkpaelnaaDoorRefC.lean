/- Contracts of the reference of layer 1: Div, quotient, DivDown, DivUp, Sqrt, SqrtDown, SqrtUp. -/
import Derived.Test.YtgfofilkpaelnaaDoorRefB
import Derived.Test.YtgfofilkpaelnaaDoorSpanMath
namespace Go.Proofs.YtgfofilkpaelnaaDoor
open Go.RowKit Mnc

theorem ovr_le (a n d : Nat) : (ovr a n d).1 ≤ 4503599627370496 := by
  unfold ovr; split
  · assumption
  · omega

theorem ref1_over_one (n d : Nat) (hn : n ≤ 9223372036854775808) (hd0 : 0 < d) (hd : d ≤ 4611686018427387904) (w : World) :
    Calls Tryd.prog 144 #[.int .u64 4294967296, .int .u64 n, .int .u64 d] w fun e w' => e = .returned (.tuple #[.int .u64 ((ovr 4294967296 n d).1 : Nat), .bool (ovr 4294967296 n d).2.1, .bool (ovr 4294967296 n d).2.2]) ∧ Below w.heap.size w w' := by
  have h := ref1_over 4294967296 n d (by omega) hn hd0 hd w
  rw [show ((4294967296 : Nat) : Int) = 4294967296 from rfl] at h
  exact h

theorem putOvr_dv (up : Bool) (a b : Int) (hz : ¬ b = 0) : putOvr (decide (a < 0) != decide (b < 0)) up 4294967296 a.natAbs b.natAbs = fitB (dv up a b) := by
  rw [putOvr_rnd _ _ _ _ _ (by omega), Nat.mul_comm, dv_sign]
  rfl

set_option maxHeartbeats 1000000 in
theorem ref1_Div (a b : Int) (up : Bool) (ha : ok a) (hb : ok b) (hz : ¬ b = 0) (w : World) :
    Calls Tryd.prog 129 #[.int .i64 a, .int .i64 b, .bool up] w fun e w' => e = .returned (.tuple #[.int .i64 (fitB (dv up a b)).1, .bool (fitB (dv up a b)).2]) ∧ Below w.heap.size w w' := by
  have HsA := Lib.hid (fun W => ref1_size a W (by have := ha.1; omega) (by have := ha.2; omega))
  have HsB := Lib.hid (fun W => ref1_size b W (by have := hb.1; omega) (by have := hb.2; omega))
  have HO := Lib.hid (fun W => ref1_over_one a.natAbs b.natAbs (by have := ha.1; have := ha.2; omega) (by omega) (by have := hb.1; have := hb.2; omega) W)
  have HV := Lib.hid (putOvr_dv up a b hz)
  obtain ⟨x, hx⟩ : ∃ x, x = a.natAbs := ⟨_, rfl⟩
  obtain ⟨y, hy⟩ : ∃ y, y = b.natAbs := ⟨_, rfl⟩
  rw [← hx] at HsA HO HV
  rw [← hy] at HsB HO HV
  clear hx hy ha hb hz
  have HL := Lib.hid (ovr_le 4294967296 x y)
  obtain ⟨res, hres⟩ : ∃ res, res = ovr 4294967296 x y := ⟨_, rfl⟩
  rw [← hres] at HO HL
  have HRES := Lib.hid hres
  clear hres
  obtain ⟨q, rest, fits⟩ := res
  have hq : q ≤ 4503599627370496 := HL.out
  cases fits
  · have HF : Hid (fitB (dv up a b) = (0, false)) := Lib.hid (by
      rw [← HV.out, putOvr, ← HRES.out]; rfl)
    go_enter Tryd.func129, Tryd.ntmps129
    go_wp2_with (first | (go_at_call_of 139 a; refine (HsA.out _).mono ?_; rintro e w' ⟨rfl, rfl⟩) | (go_at_call_of 139 b; refine (HsB.out _).mono ?_; rintro e w' ⟨rfl, rfl⟩) | (go_at_call 144; refine (HO.out _).mono ?_; rintro e w' ⟨rfl, hbel⟩))
    go_ret2
    exact ⟨ret_ib HF.out, hbel⟩
  · have HF : Hid (fitB (dv up a b) = putOf (decide (a < 0) != decide (b < 0)) q rest up) := Lib.hid (by
      rw [← HV.out, putOvr, ← HRES.out]; rfl)
    go_enter Tryd.func129, Tryd.ntmps129
    go_wp2_with (first | (go_at_call_of 139 a; refine (HsA.out _).mono ?_; rintro e w' ⟨rfl, rfl⟩) | (go_at_call_of 139 b; refine (HsB.out _).mono ?_; rintro e w' ⟨rfl, rfl⟩) | (go_at_call 144; refine (HO.out _).mono ?_; rintro e w' ⟨rfl, hbel⟩) | (go_at_call 140; refine (ref1_put _ q _ _ _ (by omega)).mono ?_; rintro e w' ⟨rfl, rfl⟩))
    go_ret2
    exact ⟨by rw [HF.out]; rfl, hbel⟩

set_option maxHeartbeats 1000000 in
theorem ref1_quotient (a b : Int) (up : Bool) (w : World) :
    Calls Tryd.prog 102 #[.int .i64 a, .int .i64 b, .bool up] w fun e w' => e = .returned (.tuple #[.int .i64 (dvd up a b).1, .int .i64 (dvd up a b).2]) ∧ Below w.heap.size w w' := by
  by_cases ha : ok a
  · have HA := Lib.hid ha
    by_cases hb : ok b
    · have HB := Lib.hid hb
      by_cases hz : b = 0
      · subst hz
        rw [dvd_zero up ha hb rfl]
        clear ha hb
        go_enter Tryd.func102, Tryd.ntmps102
        go_wp2_with fail
        refine (ref1_Right_ok HA.out _).mono ?_; rintro e w' ⟨rfl, rfl⟩
        go_wp2_with fail
        refine (ref1_Right_ok HB.out _).mono ?_; rintro e w' ⟨rfl, rfl⟩
        go_wp2_with fail
        go_ret2
        exact ⟨rfl, Below.refl _ _⟩
      · rw [dvd_fit up ha hb hz]
        have hz2 : (b == 0) = false := by simp [hz]
        have HZ := Lib.hid hz
        clear ha hb hz
        go_enter Tryd.func102, Tryd.ntmps102
        go_wp2_with fail
        refine (ref1_Right_ok HA.out _).mono ?_; rintro e w' ⟨rfl, rfl⟩
        go_wp2_with fail
        refine (ref1_Right_ok HB.out _).mono ?_; rintro e w' ⟨rfl, rfl⟩
        go_wp2_with fail
        refine (ref1_Div a b up HA.out HB.out HZ.out _).mono ?_; rintro e w' ⟨rfl, hbel⟩
        go_wp2_with fail
        refine (ref1_told_fit _ _).mono ?_; rintro e w' ⟨rfl, rfl⟩
        go_wp2_with fail
        go_ret2
        exact ⟨rfl, hbel⟩
    · have HB := Lib.hid hb
      rw [dvd_bad up (fun h => hb h.2)]
      clear ha hb
      go_enter Tryd.func102, Tryd.ntmps102
      go_wp2_with fail
      refine (ref1_Right_ok HA.out _).mono ?_; rintro e w' ⟨rfl, rfl⟩
      go_wp2_with fail
      refine (ref1_Right_bad HB.out _).mono ?_; rintro e w' ⟨rfl, rfl⟩
      go_wp2_with fail
      go_ret2
      exact ⟨rfl, Below.refl _ _⟩
  · have HA := Lib.hid ha
    rw [dvd_bad up (fun h => ha h.1)]
    clear ha
    go_enter Tryd.func102, Tryd.ntmps102
    go_wp2_with fail
    refine (ref1_Right_bad HA.out _).mono ?_; rintro e w' ⟨rfl, rfl⟩
    go_wp2_with fail
    go_ret2
    exact ⟨rfl, Below.refl _ _⟩

theorem ref1_DivDown (a b : Int) (w : World) :
    Calls Tryd.prog 30 #[.int .i64 a, .int .i64 b] w fun e w' => e = .returned (.tuple #[.int .i64 (dvd false a b).1, .int .i64 (dvd false a b).2]) ∧ Below w.heap.size w w' := by
  go_enter Tryd.func30, Tryd.ntmps30
  go_wp2_with fail
  refine (ref1_quotient _ _ _ _).mono ?_; rintro e w' ⟨rfl, hbel⟩
  go_wp2_with fail
  go_ret2
  exact ⟨rfl, hbel⟩
theorem ref1_DivUp (a b : Int) (w : World) :
    Calls Tryd.prog 31 #[.int .i64 a, .int .i64 b] w fun e w' => e = .returned (.tuple #[.int .i64 (dvd true a b).1, .int .i64 (dvd true a b).2]) ∧ Below w.heap.size w w' := by
  go_enter Tryd.func31, Tryd.ntmps31
  go_wp2_with fail
  refine (ref1_quotient _ _ _ _).mono ?_; rintro e w' ⟨rfl, hbel⟩
  go_wp2_with fail
  go_ret2
  exact ⟨rfl, hbel⟩
end Go.Proofs.YtgfofilkpaelnaaDoor
