/- The contract of math/bits.Div64. -/
import Derived.Test.YthhkcfpljgdnhaaFixB
import Derived.Test.YthhkcfpljgdnhaaKnuth
import Derived.Deep.QuietTactic
import Derived.BigQuiet
import Derived.Deep.DeepCutAuto
import Derived.Deep.CutBlock
import Derived.BigGuardPart
import Derived.Deep.LoopGhost
namespace Go.Proofs.Ythhkcfpljgdnhaa
open Go.RowKit Mnc

theorem int_congr {k : IntKind} {a b : Int} (h : a = b) : Value.int k a = .int k b := by rw [h]

theorem ret_two {k k' : IntKind} {a b a' b' : Int} (h : a = a') (h' : b = b') : Ending.returned (.tuple #[.int k a, .int k' b]) = .returned (.tuple #[.int k a', .int k' b']) := by rw [h, h']

theorem fin_a (Q1 Q0 n : Nat) (h : Q1 * 4294967296 + Q0 = n) (hn : n < 18446744073709551616) : IntKind.u64.wrap (IntKind.u64.wrap ((Q1 : Int) * 4294967296) + (Q0 : Int)) = (n : Int) := by
  simp only [IntKind.wrap_u64]; omega
theorem fin_b (R1 u0 Q0 Y z : Nat) (h : Q0 * Y + z = R1 * 4294967296 + u0) (hz : z < 18446744073709551616) :
    IntKind.u64.wrap (IntKind.u64.wrap (IntKind.u64.wrap ((R1 : Int) * 4294967296) + (u0 : Int)) - IntKind.u64.wrap ((Q0 : Int) * (Y : Int))) = (z : Int) := by
  have hc : ((Q0 * Y : Nat) : Int) = (Q0 : Int) * (Y : Int) := Int.natCast_mul _ _
  rw [← hc]
  generalize Q0 * Y = m at *
  simp only [IntKind.wrap_u64]; omega
theorem fin_c (n s : Nat) : ((n * 2 ^ s : Nat) : Int) / 2 ^ s = (n : Int) := by
  push_cast
  rw [Int.mul_ediv_cancel _ (Int.ne_of_gt (Int.pow_pos (by omega)))]

theorem small_quo (lo y : Nat) (hl : lo < 18446744073709551616) : IntKind.u64.wrap ((lo : Int) / (y : Int)) = ((lo / y : Nat) : Int) := by
  rw [← Int.natCast_ediv]; exact M64.wrapN _ (Nat.lt_of_le_of_lt (Nat.div_le_self _ _) hl)

theorem or_shift (hi lo s : Nat) (hs : s ≤ 63) (hl : lo < 18446744073709551616) (hb : hi * 2 ^ s < 18446744073709551616) :
    bits .or .u64 (IntKind.u64.wrap ((hi : Int) * 2 ^ s)) ((lo : Int) / 2 ^ (64 - s)) = ((hi * 2 ^ s + lo / 2 ^ (64 - s) : Nat) : Int) := by
  have e1 : IntKind.u64.wrap ((hi : Int) * 2 ^ s) = ((hi * 2 ^ s : Nat) : Int) := by
    rw [← M64.wrapN _ hb]; push_cast; rfl
  have e2 : (lo : Int) / 2 ^ (64 - s) = ((lo / 2 ^ (64 - s) : Nat) : Int) := by push_cast; rfl
  have h3 : lo / 2 ^ (64 - s) < 18446744073709551616 := Nat.lt_of_le_of_lt (Nat.div_le_self _ _) hl
  rw [e1, e2, bits_or_u64_nat _ _ hb h3]
  have h := Nat.shiftLeft_add_eq_or_of_lt (low_lt hs hl) hi
  rw [Nat.shiftLeft_eq] at h
  rw [← h]

set_option maxHeartbeats 1000000 in
theorem bits_Div64_small (lo y : Nat) (hl : lo < 18446744073709551616) (hy : y < 18446744073709551616) (hlt : 0 < y) (w : World) :
    Calls Try.prog 111 #[.int .u64 0, .int .u64 lo, .int .u64 y] w fun e w' => e = .returned (.tuple #[.int .u64 ((lo / y : Nat) : Int), .int .u64 ((lo % y : Nat) : Int)]) ∧ ∃ n, w' = w.drewN n := by
  have h0 : ((y : Int) == 0) = false := by simp; omega
  have h1 : ¬ (y : Int) = 0 := by omega
  have h2 : ¬ (y : Int) ≤ 0 := by omega
  have h3 : decide ((y : Int) ≤ 0) = false := by simp; omega
  go_enter Try.func111, Try.ntmps111
  go_wp2
  go_quiet (fail)
  go_wp2
  go_ret2
  exact ⟨ret_two (small_quo lo y hl) (Int.natCast_emod lo y).symm, _, rfl⟩

theorem bits_LZ (y : Nat) (w : World) (h0 : 0 < y) (h1 : y < 18446744073709551616) :
    Calls Try.prog 112 #[.int .u64 y] w fun e w' => ∃ s : Nat, e = .returned (.int .i64 s) ∧ s ≤ 63 ∧ Hid (9223372036854775808 ≤ y * 2 ^ s ∧ y * 2 ^ s < 18446744073709551616) ∧ w = w' := by
  refine (bits_LeadingZeros64 y w (by omega) (by omega)).mono ?_
  rintro e w' ⟨rfl, rfl⟩
  rw [Int.toNat_natCast]
  obtain ⟨a, b, c⟩ := bitLen_spec y h1
  obtain ⟨b1, b2⟩ := b (by omega)
  refine ⟨64 - Lib.bitLen y, ret_int (by omega), by omega, ⟨?_, ?_⟩, rfl⟩
  · have := Nat.mul_le_mul_right (2 ^ (64 - Lib.bitLen y)) b2
    rw [← Nat.pow_add, show Lib.bitLen y - 1 + (64 - Lib.bitLen y) = 63 by omega] at this
    exact this
  · have := Nat.mul_lt_mul_of_pos_right a (Nat.two_pow_pos (64 - Lib.bitLen y))
    rw [← Nat.pow_add, show Lib.bitLen y + (64 - Lib.bitLen y) = 64 by omega] at this
    exact this

set_option maxRecDepth 100000 in
set_option maxHeartbeats 1000000 in
theorem bits_Div64_great (hi lo y : Nat) (hl : lo < 18446744073709551616) (hy : y < 18446744073709551616) (hlt : hi < y) (hpos : 0 < hi) (w : World) :
    Calls Try.prog 111 #[.int .u64 hi, .int .u64 lo, .int .u64 y] w fun e w' => e = .returned (.tuple #[.int .u64 (((hi * 18446744073709551616 + lo) / y : Nat) : Int), .int .u64 (((hi * 18446744073709551616 + lo) % y : Nat) : Int)]) ∧ w = w' := by
  have h0 : ((y : Int) == 0) = false := by simp; omega
  have h2 : ¬ y ≤ hi := by omega
  have h4 : ((hi : Int) == 0) = false := by simp; omega
  go_enter Try.func111, Try.ntmps111
  go_upto_region 9 with (go_at_call 112; refine (bits_LZ _ _ (by omega) hy).mono ?_; rintro e w' ⟨s, rfl, hs, HS, rfl⟩)
  obtain ⟨Y, hYe⟩ : ∃ Y, Y = y * 2 ^ s := ⟨_, rfl⟩
  have hYb := HS.out
  rw [← hYe] at hYb
  obtain ⟨hY1, hY2⟩ := hYb
  have e1 : IntKind.u64.wrap ((y : Int) * 2 ^ s) = (Y : Int) := by
    rw [← M64.wrapN Y hY2, hYe]; push_cast; rfl
  rw [e1]
  have HY := Lib.hid hYe
  clear hYe e1
  go_upto_region 11 with (fail)
  rw [M64.divN Y, M64.maskN Y hY2]
  obtain ⟨y1, hy1⟩ : ∃ y1, y1 = Y / 4294967296 := ⟨_, rfl⟩
  obtain ⟨y0, hy0⟩ : ∃ y0, y0 = Y % 4294967296 := ⟨_, rfl⟩
  rw [← hy1, ← hy0]
  have hYd : y1 * 4294967296 + y0 = Y := by omega
  have hy1a : 2147483648 ≤ y1 := by omega
  have hy1b : y1 < 4294967296 := by omega
  have hy0b : y0 < 4294967296 := by omega
  have HYd := Lib.hid hYd
  clear hYd hy1 hy0
  go_upto_region 13 with (fail)
  have hult := shift_lt hs hl hlt
  rw [← HY.out] at hult
  rw [or_shift hi lo s hs hl (Nat.lt_of_le_of_lt (Nat.le_add_right _ _) (Nat.lt_trans hult hY2))]
  have e2 : IntKind.u64.wrap ((lo : Int) * 2 ^ s) = ((lo * 2 ^ s % 18446744073709551616 : Nat) : Int) := by
    rw [← M64.wrapM]; push_cast; rfl
  rw [e2]
  clear e2
  have hsplit := Lib.hid (shift_split hi lo s hs)
  have ht : lo * 2 ^ s % 18446744073709551616 < 18446744073709551616 := Nat.mod_lt _ (by omega)
  generalize hi * 2 ^ s + lo / 2 ^ (64 - s) = u at *
  generalize lo * 2 ^ s % 18446744073709551616 = t at *
  go_upto_region 15 with (fail)
  rw [M64.divN t, M64.maskN t ht]
  obtain ⟨u1, hu1⟩ : ∃ u1, u1 = t / 4294967296 := ⟨_, rfl⟩
  obtain ⟨u0, hu0⟩ : ∃ u0, u0 = t % 4294967296 := ⟨_, rfl⟩
  rw [← hu1, ← hu0]
  have Ht := Lib.hid (show u1 * 4294967296 + u0 = t by omega)
  have hu1b : u1 < 4294967296 := by omega
  have hu0b : u0 < 4294967296 := by omega
  clear hu1 hu0
  have hy1z : ¬ (y1 : Int) = 0 := by omega
  go_upto_region 16 with (fail)
  have hd0 := dig_start hy1a hy0b hu1b (by rw [HYd.out]; exact hult)
  have e3 : IntKind.u64.wrap ((u : Int) / (y1 : Int)) = ((u / y1 : Nat) : Int) := by
    rw [← Int.natCast_ediv]; exact M64.wrapN _ (Nat.lt_of_le_of_lt (Nat.div_le_self _ _) (by omega))
  rw [e3]
  clear e3
  have hr0 : u % y1 < y1 := Nat.mod_lt _ (by omega)
  generalize u / y1 = q at *
  generalize u % y1 = r at *
  go_upto_block 0 with (fail)
  have e4 : IntKind.u64.wrap ((u : Int) - IntKind.u64.wrap ((q : Int) * (y1 : Int))) = (r : Int) := by
    have := hd0.1
    rw [← Int.natCast_mul, M64.wrapN _ (by omega), ← M64.wrapN r (by omega)]
    congr 1; omega
  rw [e4]
  clear e4
  have HD := Lib.hid hd0
  clear hd0
  have Hlt := Lib.hid (show u < y1 * 4294967296 + y0 by rw [HYd.out]; exact hult)
  go_cut [15, 16] (fun a b wx => wx = w ∧ a = .int .u64 (((u * 4294967296 + u1) / (y1 * 4294967296 + y0) : Nat) : Int))
  case first =>
    go_wp2_with fail
    go_loop [15, 16] (fun a b => ∃ q r : Nat, a = .int .u64 q ∧ b = .int .u64 r ∧ Hid (Dig u u1 y1 y0 q r) ∧ r < 4294967296) (fun a _ => (intOf a).toNat)
    case atStart => exact ⟨q, r, rfl, rfl, HD, by omega⟩
    case round =>
      clear HD hr0
      obtain ⟨q, r, rfl, rfl, HD, hr⟩ := hrel
      have hqb : q ≤ 4294967297 := HD.out.2.2
      have hm0 := Nat.mul_le_mul hqb (show y0 ≤ 4294967295 by omega)
      obtain ⟨m, hm⟩ : ∃ m, m = q * y0 := ⟨_, rfl⟩
      obtain ⟨g, hg⟩ : ∃ g, g = 4294967296 * r + u1 := ⟨_, rfl⟩
      have em : IntKind.u64.wrap ((q : Int) * (y0 : Int)) = (m : Int) := by rw [hm, ← Int.natCast_mul]; exact M64.wrapN _ (by omega)
      have eg : IntKind.u64.wrap (IntKind.u64.wrap (4294967296 * (r : Int)) + (u1 : Int)) = (g : Int) := by
        rw [IntWalk.u64_in (4294967296 * (r : Int)) (by omega), IntWalk.u64_in _ (by omega)]; omega
      obtain ⟨r', hr'⟩ : ∃ r', r' = r + y1 := ⟨_, rfl⟩
      obtain ⟨q', hq'⟩ : ∃ q', q' = q - 1 := ⟨_, rfl⟩
      have er : IntKind.u64.wrap ((r : Int) + (y1 : Int)) = (r' : Int) := by rw [IntWalk.u64_in _ (by omega)]; omega
      have er2 : (r : Int) + (y1 : Int) = (r' : Int) := by omega
      have eq : 1 ≤ q → IntKind.u64.wrap ((q : Int) - 1) = (q' : Int) := fun h => by rw [IntWalk.u64_in _ (by omega)]; omega
      have Hr := Lib.hid hr
      have Hm := Lib.hid hm
      have Hg := Lib.hid hg
      have Hr' := Lib.hid hr'
      have Hq' := Lib.hid hq'
      have Hqb := Lib.hid hqb
      have EQ := Lib.hid eq
      have ER := Lib.hid er
      have ER2 := Lib.hid er2
      clear hm0 hm hg hr hr' hq' hqb eq er er2
      by_cases hc1 : 4294967296 ≤ q
      · have hd1 := dig_down hy1a hu1b Hlt.out HD.out (Or.inl hc1)
        have hb0 : decide ((4294967296 : Int) ≤ (q : Int)) = true := by simp; omega
        clear hc1
        rw [← Hr'.out, ← Hq'.out] at hd1
        have eq := EQ.out hd1.1
        have HD1 := Lib.hid hd1
        clear hd1
        by_cases hr1 : 4294967296 ≤ r'
        · have hb1 : decide ((4294967296 : Int) ≤ (r' : Int)) = true := by simp; omega
          have Hr1 := Lib.hid hr1
          clear hr1
          go_upto_region 20 with (fail)
          first | rw [ER.out] | rw [ER2.out]
          clear em eg eq
          go_wp2
          go_meet
          case rel => exact ⟨rfl, int_congr (congrArg Int.ofNat (dig_break hy1a hy0b HD1.out.2 (by have := Hq'.out; have := Hqb.out; omega) Hr1.out))⟩
        · have hb1 : decide ((4294967296 : Int) ≤ (r' : Int)) = false := by simp; omega
          have Hr1 := Lib.hid hr1
          clear hr1
          go_upto_region 20 with (fail)
          first | rw [ER.out] | rw [ER2.out]
          clear em eg eq
          go_wp2
          go_round
          case rel => exact ⟨q', r', rfl, rfl, HD1.out.2, by have := Hr1.out; omega⟩
          case measure => have := Hq'.out; have := HD1.out.1; simp [intOf]; omega
      · have hb0 : decide ((4294967296 : Int) ≤ (q : Int)) = false := by simp; omega
        clear hc1
        by_cases hc2 : g < m
        · have hd1 := dig_down hy1a hu1b Hlt.out HD.out (Or.inr (by rw [← Hm.out, ← Hg.out]; exact hc2))
          rw [← Hr'.out, ← Hq'.out] at hd1
          have eq := EQ.out hd1.1
          have HD1 := Lib.hid hd1
          clear hd1
          by_cases hr1 : 4294967296 ≤ r'
          · have hb1 : decide ((4294967296 : Int) ≤ (r' : Int)) = true := by simp; omega
            have Hr1 := Lib.hid hr1
            clear hr1
            go_upto_region 20 with (fail)
            first | rw [ER.out] | rw [ER2.out]
            clear em eg eq
            go_wp2
            go_meet
            case rel => exact ⟨rfl, int_congr (congrArg Int.ofNat (dig_break hy1a hy0b HD1.out.2 (by have := Hq'.out; have := Hqb.out; omega) Hr1.out))⟩
          · have hb1 : decide ((4294967296 : Int) ≤ (r' : Int)) = false := by simp; omega
            have Hr1 := Lib.hid hr1
            clear hr1
            go_upto_region 20 with (fail)
            first | rw [ER.out] | rw [ER2.out]
            clear em eg eq
            go_wp2
            go_round
            case rel => exact ⟨q', r', rfl, rfl, HD1.out.2, by have := Hr1.out; omega⟩
            case measure => have := Hq'.out; have := HD1.out.1; simp [intOf]; omega
        · have HQ := Lib.hid (dig_le hy1a HD.out (by rw [← Hm.out, ← Hg.out]; omega))
          go_wp2
          go_meet
          case rel => exact ⟨rfl, int_congr (congrArg Int.ofNat HQ.out)⟩
  case rest =>
    clear HD hr0
    obtain ⟨rfl, rfl⟩ := hcut
    obtain ⟨hrm, hrl⟩ := dig_rem (u := u) (u1 := u1) (y1 := y1) (y0 := y0) rfl (by omega)
    rw [HYd.out] at hrm hrl ⊢
    obtain ⟨Q1, hQ1⟩ : ∃ Q1, Q1 = (u * 4294967296 + u1) / Y := ⟨_, rfl⟩
    obtain ⟨R1, hR1⟩ : ∃ R1, R1 = (u * 4294967296 + u1) % Y := ⟨_, rfl⟩
    rw [← hQ1, ← hR1] at hrm
    rw [← hR1] at hrl
    rw [← hQ1]
    have eu : IntKind.u64.wrap (IntKind.u64.wrap (IntKind.u64.wrap ((u : Int) * 4294967296) + (u1 : Int)) - IntKind.u64.wrap ((Q1 : Int) * (Y : Int))) = (R1 : Int) := by
      have hc : ((Q1 * Y : Nat) : Int) = (Q1 : Int) * (Y : Int) := Int.natCast_mul _ _
      rw [← hc]
      simp only [IntKind.wrap_u64]
      omega
    have HQ1 := Lib.hid hQ1
    have HR1 := Lib.hid hR1
    have EU := Lib.hid eu
    clear hQ1 hR1 eu hrm Hlt
    go_upto_region 22 with (fail)
    rw [EU.out]
    have Hlt := Lib.hid (show R1 < y1 * 4294967296 + y0 by rw [HYd.out]; exact hrl)
    clear EU
    have hd0 := dig_start hy1a hy0b hu0b Hlt.out
    go_upto_region 23 with (fail)
    have e3 : IntKind.u64.wrap ((R1 : Int) / (y1 : Int)) = ((R1 / y1 : Nat) : Int) := by
      rw [← Int.natCast_ediv]; exact M64.wrapN _ (Nat.lt_of_le_of_lt (Nat.div_le_self _ _) (by omega))
    rw [e3]
    clear e3
    have hr0 : R1 % y1 < y1 := Nat.mod_lt _ (by omega)
    generalize R1 / y1 = q at *
    generalize R1 % y1 = r at *
    go_upto_block 2 with (fail)
    have e4 : IntKind.u64.wrap ((R1 : Int) - IntKind.u64.wrap ((q : Int) * (y1 : Int))) = (r : Int) := by
      have := hd0.1
      rw [← Int.natCast_mul, M64.wrapN _ (by omega), ← M64.wrapN r (by omega)]
      congr 1; omega
    rw [e4]
    clear e4
    have HD := Lib.hid hd0
    clear hd0
    go_cut [18, 16] (fun a b wx => wx = wc ∧ a = .int .u64 (((R1 * 4294967296 + u0) / (y1 * 4294967296 + y0) : Nat) : Int))
    case first =>
      go_wp2_with fail
      go_loop [18, 16] (fun a b => ∃ q r : Nat, a = .int .u64 q ∧ b = .int .u64 r ∧ Hid (Dig R1 u0 y1 y0 q r) ∧ r < 4294967296) (fun a _ => (intOf a).toNat)
      case atStart => exact ⟨q, r, rfl, rfl, HD, by omega⟩
      case round =>
        clear HD hr0
        obtain ⟨q, r, rfl, rfl, HD, hr⟩ := hrel
        have hqb : q ≤ 4294967297 := HD.out.2.2
        have hm0 := Nat.mul_le_mul hqb (show y0 ≤ 4294967295 by omega)
        obtain ⟨m, hm⟩ : ∃ m, m = q * y0 := ⟨_, rfl⟩
        obtain ⟨g, hg⟩ : ∃ g, g = 4294967296 * r + u0 := ⟨_, rfl⟩
        have em : IntKind.u64.wrap ((q : Int) * (y0 : Int)) = (m : Int) := by rw [hm, ← Int.natCast_mul]; exact M64.wrapN _ (by omega)
        have eg : IntKind.u64.wrap (IntKind.u64.wrap (4294967296 * (r : Int)) + (u0 : Int)) = (g : Int) := by
          rw [IntWalk.u64_in (4294967296 * (r : Int)) (by omega), IntWalk.u64_in _ (by omega)]; omega
        obtain ⟨r', hr'⟩ : ∃ r', r' = r + y1 := ⟨_, rfl⟩
        obtain ⟨q', hq'⟩ : ∃ q', q' = q - 1 := ⟨_, rfl⟩
        have er : IntKind.u64.wrap ((r : Int) + (y1 : Int)) = (r' : Int) := by rw [IntWalk.u64_in _ (by omega)]; omega
        have er2 : (r : Int) + (y1 : Int) = (r' : Int) := by omega
        have eq : 1 ≤ q → IntKind.u64.wrap ((q : Int) - 1) = (q' : Int) := fun h => by rw [IntWalk.u64_in _ (by omega)]; omega
        have Hr := Lib.hid hr
        have Hm := Lib.hid hm
        have Hg := Lib.hid hg
        have Hr' := Lib.hid hr'
        have Hq' := Lib.hid hq'
        have Hqb := Lib.hid hqb
        have EQ := Lib.hid eq
        have ER := Lib.hid er
        have ER2 := Lib.hid er2
        clear hm0 hm hg hr hr' hq' hqb eq er er2
        by_cases hc1 : 4294967296 ≤ q
        · have hd1 := dig_down hy1a hu0b Hlt.out HD.out (Or.inl hc1)
          have hb0 : decide ((4294967296 : Int) ≤ (q : Int)) = true := by simp; omega
          clear hc1
          rw [← Hr'.out, ← Hq'.out] at hd1
          have eq := EQ.out hd1.1
          have HD1 := Lib.hid hd1
          clear hd1
          by_cases hr1 : 4294967296 ≤ r'
          · have hb1 : decide ((4294967296 : Int) ≤ (r' : Int)) = true := by simp; omega
            have Hr1 := Lib.hid hr1
            clear hr1
            go_upto_region 27 with (fail)
            first | rw [ER.out] | rw [ER2.out]
            clear em eg eq
            go_wp2
            go_meet
            case rel => exact ⟨rfl, int_congr (congrArg Int.ofNat (dig_break hy1a hy0b HD1.out.2 (by have := Hq'.out; have := Hqb.out; omega) Hr1.out))⟩
          · have hb1 : decide ((4294967296 : Int) ≤ (r' : Int)) = false := by simp; omega
            have Hr1 := Lib.hid hr1
            clear hr1
            go_upto_region 27 with (fail)
            first | rw [ER.out] | rw [ER2.out]
            clear em eg eq
            go_wp2
            go_round
            case rel => exact ⟨q', r', rfl, rfl, HD1.out.2, by have := Hr1.out; omega⟩
            case measure => have := Hq'.out; have := HD1.out.1; simp [intOf]; omega
        · have hb0 : decide ((4294967296 : Int) ≤ (q : Int)) = false := by simp; omega
          clear hc1
          by_cases hc2 : g < m
          · have hd1 := dig_down hy1a hu0b Hlt.out HD.out (Or.inr (by rw [← Hm.out, ← Hg.out]; exact hc2))
            rw [← Hr'.out, ← Hq'.out] at hd1
            have eq := EQ.out hd1.1
            have HD1 := Lib.hid hd1
            clear hd1
            by_cases hr1 : 4294967296 ≤ r'
            · have hb1 : decide ((4294967296 : Int) ≤ (r' : Int)) = true := by simp; omega
              have Hr1 := Lib.hid hr1
              clear hr1
              go_upto_region 27 with (fail)
              first | rw [ER.out] | rw [ER2.out]
              clear em eg eq
              go_wp2
              go_meet
              case rel => exact ⟨rfl, int_congr (congrArg Int.ofNat (dig_break hy1a hy0b HD1.out.2 (by have := Hq'.out; have := Hqb.out; omega) Hr1.out))⟩
            · have hb1 : decide ((4294967296 : Int) ≤ (r' : Int)) = false := by simp; omega
              have Hr1 := Lib.hid hr1
              clear hr1
              go_upto_region 27 with (fail)
              first | rw [ER.out] | rw [ER2.out]
              clear em eg eq
              go_wp2
              go_round
              case rel => exact ⟨q', r', rfl, rfl, HD1.out.2, by have := Hr1.out; omega⟩
              case measure => have := Hq'.out; have := HD1.out.1; simp [intOf]; omega
          · have HQ := Lib.hid (dig_le hy1a HD.out (by rw [← Hm.out, ← Hg.out]; omega))
            go_wp2
            go_meet
            case rel => exact ⟨rfl, int_congr (congrArg Int.ofNat HQ.out)⟩
    case rest =>
      clear HD hr0
      obtain ⟨rfl, rfl⟩ := hcut
      rw [HYd.out]
      obtain ⟨Q0, hQ0⟩ : ∃ Q0, Q0 = (R1 * 4294967296 + u0) / Y := ⟨_, rfl⟩
      rw [← hQ0]
      have HQ0 := Lib.hid hQ0
      clear hQ0
      have HN := Lib.hid (div_back (s := s) (HY.out) hsplit.out Ht.out HQ1.out HR1.out HQ0.out (by omega) hlt hl)
      have hR0 := Nat.mod_lt (R1 * 4294967296 + u0) (show 0 < Y by omega)
      have hQ0m := Nat.div_add_mod' (R1 * 4294967296 + u0) Y
      rw [← HQ0.out] at hQ0m
      have ea := fin_a Q1 Q0 _ HN.out.1 HN.out.2.2
      have eb := fin_b R1 u0 Q0 Y _ hQ0m (Nat.lt_trans hR0 hY2)
      rw [HN.out.2.1] at eb
      have ec : IntKind.u64.wrap (IntKind.u64.wrap (IntKind.u64.wrap ((R1 : Int) * 4294967296) + (u0 : Int)) - IntKind.u64.wrap ((Q0 : Int) * (Y : Int))) / 2 ^ s = (((hi * 18446744073709551616 + lo) % y : Nat) : Int) := by
        rw [eb, fin_c]
      have EA := Lib.hid ea
      have EB := Lib.hid ec
      clear ea eb ec hQ0m hR0
      go_wp2
      go_ret2
      exact ⟨ret_two EA.out EB.out, rfl⟩

theorem bits_Div64 (hi lo y : Nat) (hl : lo < 18446744073709551616) (hy : y < 18446744073709551616) (hlt : hi < y) (w : World) :
    Calls Try.prog 111 #[.int .u64 hi, .int .u64 lo, .int .u64 y] w fun e w' => e = .returned (.tuple #[.int .u64 (((hi * 18446744073709551616 + lo) / y : Nat) : Int), .int .u64 (((hi * 18446744073709551616 + lo) % y : Nat) : Int)]) ∧ Below w.heap.size w w' := by
  by_cases hpos : 0 < hi
  · refine (bits_Div64_great hi lo y hl hy hlt hpos w).mono ?_
    rintro e w' ⟨rfl, rfl⟩
    exact ⟨rfl, Below.refl _ _⟩
  · obtain rfl : hi = 0 := by omega
    refine (bits_Div64_small lo y hl hy hlt w).mono ?_
    rintro e w' ⟨rfl, n, rfl⟩
    rw [Nat.zero_mul, Nat.zero_add]
    exact ⟨rfl, below_drewN (Below.refl _ _) n⟩
end Go.Proofs.Ythhkcfpljgdnhaa
