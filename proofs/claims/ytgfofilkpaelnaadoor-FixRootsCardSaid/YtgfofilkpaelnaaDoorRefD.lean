/- Contracts of the reference of layer 1: Sqrt, SqrtDown, SqrtUp. -/
import Derived.Test.YtgfofilkpaelnaaDoorRefC
namespace Go.Proofs.YtgfofilkpaelnaaDoor
open Go.RowKit Mnc

theorem two_tmod (a j : Nat) : ((a : Int) / 2 ^ j).tmod 4 = ((a / 2 ^ j % 4 : Nat) : Int) := by
  have e : (a : Int) / 2 ^ j = ((a / 2 ^ j : Nat) : Int) := by push_cast; rfl
  rw [e, Int.tmod_eq_emod_of_nonneg (Int.natCast_nonneg _)]
  rfl

set_option maxRecDepth 100000 in
set_option maxHeartbeats 2000000 in
theorem ref1_Sqrt (a : Nat) (ha : a ≤ 4503599627370496) (up : Bool) (w : World) :
    Calls Tryd.prog 104 #[.int .i64 a, .bool up] w fun e w' => e = .returned (.int .i64 (rtOf up (a * 4294967296) : Nat)) ∧ w = w' := by
  have HA := Lib.hid ha
  obtain ⟨res, hres⟩ : ∃ res, res = rtOf up (a * 4294967296) := ⟨_, rfl⟩
  rw [← hres]
  have HRES := Lib.hid hres
  clear hres
  have h43 : a * 4294967296 < 4 ^ 43 := by
    have : (4 : Nat) ^ 43 = 77371252455336267181195264 := by decide
    omega
  have HST := Lib.hid (rtAt_start h43)
  clear h43
  go_enter Tryd.func104, Tryd.ntmps104
  go_wp2_with fail
  go_loop [5, 6, 7, 8] (fun root rest i two => ∃ k R S : Nat, k ≤ 43 ∧ i = .int .i64 ((k : Int) - 1) ∧ root = .int .i64 R ∧ rest = .int .i64 S ∧ Hid (RtAt (a * 4294967296) k R S)) (fun _ _ i _ => (intOf i + 1).toNat)
  case atStart => exact ⟨43, 0, 0, by omega, rfl, rfl, rfl, HST⟩
  case round =>
    obtain ⟨k, R, S, hk, rfl, rfl, rfl, HO⟩ := hrel
    obtain ⟨hR, hS⟩ := rtAt_bd HO.out (by have := HA.out; omega)
    rcases Nat.eq_zero_or_pos k with rfl | hk0
    · have HE := Lib.hid (rtAt_end HO.out up)
      cases up
      · go_wp2
        go_ret
        exact ⟨ret_int (by rw [HRES.out, HE.out, if_neg (by simp)]), rfl⟩
      · by_cases hs : 0 < S
        · go_wp2
          go_ret
          exact ⟨ret_int (by rw [HRES.out, HE.out, if_pos (by simp; exact hs)]; omega), rfl⟩
        · go_wp2
          go_ret
          exact ⟨ret_int (by rw [HRES.out, HE.out, if_neg (by simp; omega)]), rfl⟩
    · obtain ⟨j, rfl⟩ : ∃ j, k = j + 1 := ⟨k - 1, by omega⟩
      rw [show (((j + 1 : Nat) : Int) - 1) = (j : Int) by omega]
      by_cases hj : 16 ≤ j
      · have ht := two_tmod a (2 * j - 32)
        have HT : Hid (a * 4294967296 / 4 ^ j % 4 = a / 2 ^ (2 * j - 32) % 4) := Lib.hid (by rw [two_hi a hj])
        have hT : a / 2 ^ (2 * j - 32) % 4 < 4 := Nat.mod_lt _ (by omega)
        generalize a / 2 ^ (2 * j - 32) % 4 = T at *
        by_cases hc : 4 * R + 1 ≤ 4 * S + T
        · have HN := Lib.hid (rtAt_take HO.out HT.out hc)
          have HSUB := Lib.hid (show (4 * (S : Int) + (T : Int) - (4 * (R : Int) + 1)) = ((4 * S + T - (4 * R + 1) : Nat) : Int) by omega)
          go_wp2
          go_round
          case rel => exact ⟨j, 2 * R + 1, 4 * S + T - (4 * R + 1), by omega, rfl, by go_num, int_congr HSUB.out, HN⟩
          case measure => simp [intOf]
        · have HN := Lib.hid (rtAt_leave HO.out HT.out hc)
          go_wp2
          go_round
          case rel => exact ⟨j, 2 * R, 4 * S + T, by omega, rfl, by go_num, by go_num, HN⟩
          case measure => simp [intOf]
      · have HT : Hid (a * 4294967296 / 4 ^ j % 4 = 0) := Lib.hid (two_lo a (by omega))
        by_cases hc : 4 * R + 1 ≤ 4 * S
        · have HN := Lib.hid (rtAt_take HO.out HT.out (by omega))
          have HSUB := Lib.hid (show (4 * (S : Int) - (4 * (R : Int) + 1)) = ((4 * S - (4 * R + 1) : Nat) : Int) by omega)
          go_wp2
          go_round
          case rel => exact ⟨j, 2 * R + 1, 4 * S - (4 * R + 1), by omega, rfl, by go_num, int_congr HSUB.out, HN⟩
          case measure => simp [intOf]
        · have HN := Lib.hid (rtAt_leave HO.out HT.out (by omega))
          go_wp2
          go_round
          case rel => exact ⟨j, 2 * R, 4 * S, by omega, rfl, by go_num, by go_num, HN⟩
          case measure => simp [intOf]

set_option maxHeartbeats 1000000 in
theorem ref1_SqrtDown (a : Int) (w : World) :
    Calls Tryd.prog 34 #[.int .i64 a] w fun e w' => e = .returned (.tuple #[.int .i64 (rt false a).1, .int .i64 (rt false a).2]) ∧ w = w' := by
  by_cases ha : ok a
  · have HA := Lib.hid ha
    by_cases h0 : a < 0
    · rw [rt_bad false (a := a) (by omega)]
      clear ha
      go_enter Tryd.func34, Tryd.ntmps34
      go_wp2_with fail
      refine (ref1_Right_ok HA.out _).mono ?_; rintro e w' ⟨rfl, rfl⟩
      go_wp2_with fail
      go_ret2
      exact ⟨rfl, rfl⟩
    · obtain ⟨A, rfl⟩ : ∃ A : Nat, a = A := ⟨a.toNat, by omega⟩
      rw [rt_ok false ha (by omega), Int.toNat_natCast]
      have HL := Lib.hid (show A ≤ 4503599627370496 by have := ha.2; omega)
      have hb : decide ((A : Int) < 0) = false := by simp
      clear ha h0
      go_enter Tryd.func34, Tryd.ntmps34
      go_wp2_with fail
      refine (ref1_Right_ok HA.out _).mono ?_; rintro e w' ⟨rfl, rfl⟩
      go_wp2_with fail
      refine (ref1_Sqrt A HL.out _ _).mono ?_; rintro e w' ⟨rfl, rfl⟩
      go_wp2_with fail
      go_ret2
      exact ⟨rfl, rfl⟩
  · have HA := Lib.hid ha
    rw [rt_bad false (a := a) (fun h => ha h.1)]
    clear ha
    go_enter Tryd.func34, Tryd.ntmps34
    go_wp2_with fail
    refine (ref1_Right_bad HA.out _).mono ?_; rintro e w' ⟨rfl, rfl⟩
    go_wp2_with fail
    go_ret2
    exact ⟨rfl, rfl⟩

set_option maxHeartbeats 1000000 in
theorem ref1_SqrtUp (a : Int) (w : World) :
    Calls Tryd.prog 35 #[.int .i64 a] w fun e w' => e = .returned (.tuple #[.int .i64 (rt true a).1, .int .i64 (rt true a).2]) ∧ w = w' := by
  by_cases ha : ok a
  · have HA := Lib.hid ha
    by_cases h0 : a < 0
    · rw [rt_bad true (a := a) (by omega)]
      clear ha
      go_enter Tryd.func35, Tryd.ntmps35
      go_wp2_with fail
      refine (ref1_Right_ok HA.out _).mono ?_; rintro e w' ⟨rfl, rfl⟩
      go_wp2_with fail
      go_ret2
      exact ⟨rfl, rfl⟩
    · obtain ⟨A, rfl⟩ : ∃ A : Nat, a = A := ⟨a.toNat, by omega⟩
      rw [rt_ok true ha (by omega), Int.toNat_natCast]
      have HL := Lib.hid (show A ≤ 4503599627370496 by have := ha.2; omega)
      have hb : decide ((A : Int) < 0) = false := by simp
      clear ha h0
      go_enter Tryd.func35, Tryd.ntmps35
      go_wp2_with fail
      refine (ref1_Right_ok HA.out _).mono ?_; rintro e w' ⟨rfl, rfl⟩
      go_wp2_with fail
      refine (ref1_Sqrt A HL.out _ _).mono ?_; rintro e w' ⟨rfl, rfl⟩
      go_wp2_with fail
      go_ret2
      exact ⟨rfl, rfl⟩
  · have HA := Lib.hid ha
    rw [rt_bad true (a := a) (fun h => ha h.1)]
    clear ha
    go_enter Tryd.func35, Tryd.ntmps35
    go_wp2_with fail
    refine (ref1_Right_bad HA.out _).mono ?_; rintro e w' ⟨rfl, rfl⟩
    go_wp2_with fail
    go_ret2
    exact ⟨rfl, rfl⟩

end Go.Proofs.YtgfofilkpaelnaaDoor
