/- Contracts of the reference of layer 1: Right, Check, told, Add, Sub, Neg, size, put, over, Div, quotient, DivDown, DivUp. -/
import Derived.Test.YtmnccbhlllnlbaaGreatFixI
import Derived.Test.YtmnccbhlllnlbaaGreatPl
namespace Go.Proofs.YtmnccbhlllnlbaaGreat
open Go.RowKit Mnc

theorem ref1_Right (a : Int) (w : World) :
    Calls Tryz.prog 73 #[.int .i64 a] w fun e w' => e = .returned (.bool (decide (ok a))) ∧ w = w' := by
  by_cases h1 : -4503599627370496 ≤ a
  · by_cases h2 : a ≤ 4503599627370496
    · rw [decide_eq_true (show ok a by unfold ok; omega)]
      go_enter Tryz.func73, Tryz.ntmps73
      go_wp2
      go_ret
      exact ⟨rfl, rfl⟩
    · rw [decide_eq_false (show ¬ ok a by unfold ok; omega)]
      go_enter Tryz.func73, Tryz.ntmps73
      go_wp2
      go_ret
      exact ⟨rfl, rfl⟩
  · rw [decide_eq_false (show ¬ ok a by unfold ok; omega)]
    go_enter Tryz.func73, Tryz.ntmps73
    go_wp2
    go_ret
    exact ⟨rfl, rfl⟩

theorem ref1_Right_ok {a : Int} (h : ok a) (w : World) :
    Calls Tryz.prog 73 #[.int .i64 a] w fun e w' => e = .returned (.bool true) ∧ w = w' := by
  have := ref1_Right a w
  rw [decide_eq_true h] at this
  exact this
theorem ref1_Right_bad {a : Int} (h : ¬ ok a) (w : World) :
    Calls Tryz.prog 73 #[.int .i64 a] w fun e w' => e = .returned (.bool false) ∧ w = w' := by
  have := ref1_Right a w
  rw [decide_eq_false h] at this
  exact this

theorem ref1_size (a : Int) (w : World) (h1 : -9223372036854775808 ≤ a) (h2 : a ≤ 9223372036854775807) :
    Calls Tryz.prog 88 #[.int .i64 a] w fun e w' => e = .returned (.int .u64 (a.natAbs : Int)) ∧ w = w' := by
  by_cases h : a < 0
  · go_enter Tryz.func88, Tryz.ntmps88
    go_wp2
    go_ret
    exact ⟨ret_int (by omega), rfl⟩
  · go_enter Tryz.func88, Tryz.ntmps88
    go_wp2
    go_ret
    exact ⟨ret_int (by omega), rfl⟩

theorem ret_ib {k : IntKind} {a : Int} {b : Bool} {p : Int × Bool} (h : p = (a, b)) : Ending.returned (.tuple #[.int k a, .bool b]) = .returned (.tuple #[.int k p.1, .bool p.2]) := by rw [h]

theorem ref1_put (ng : Bool) (n : Nat) (rest up : Bool) (w : World) (hn : n ≤ 9223372036854775807) :
    Calls Tryz.prog 89 #[.bool ng, .int .u64 n, .bool rest, .bool up] w fun e w' => e = .returned (.tuple #[.int .i64 (putOf ng n rest up).1, .bool (putOf ng n rest up).2]) ∧ w = w' := by
  by_cases h0 : (rest && (up != ng)) = true
  · by_cases h : 4503599627370496 < n + 1
    · have hb : decide ((4503599627370496 : Int) < (n : Int) + 1) = true := by simp; omega
      have HR := Lib.hid (show putOf ng n rest up = (0, false) by unfold putOf; rw [if_pos h0, if_pos h])
      clear h
      cases rest <;> cases up <;> cases ng <;> first | (exfalso; revert h0; decide) | skip
      all_goals
        clear h0
        go_enter Tryz.func89, Tryz.ntmps89
        go_wp2
        go_ret2
        exact ⟨ret_ib HR.out, rfl⟩
    · have hb : decide ((4503599627370496 : Int) < (n : Int) + 1) = false := by simp; omega
      have HR := Lib.hid (show putOf ng n rest up = (if ng then -((n : Int) + 1) else ((n : Int) + 1), true) by unfold putOf; rw [if_pos h0, if_neg h]; push_cast; rfl)
      have hn2 : n ≤ 4503599627370495 := by omega
      clear h
      cases rest <;> cases up <;> cases ng <;> first | (exfalso; revert h0; decide) | skip
      all_goals
        clear h0
        go_enter Tryz.func89, Tryz.ntmps89
        go_wp2
        go_ret2
        exact ⟨ret_ib HR.out, rfl⟩
  · by_cases h : 4503599627370496 < n
    · have hb : decide ((4503599627370496 : Int) < (n : Int)) = true := by simp; omega
      have HR := Lib.hid (show putOf ng n rest up = (0, false) by unfold putOf; rw [if_neg h0, if_pos h])
      clear h
      cases rest <;> cases up <;> cases ng <;> first | (exfalso; revert h0; decide) | skip
      all_goals
        clear h0
        go_enter Tryz.func89, Tryz.ntmps89
        go_wp2
        go_ret2
        exact ⟨ret_ib HR.out, rfl⟩
    · have hb : decide ((4503599627370496 : Int) < (n : Int)) = false := by simp; omega
      have HR := Lib.hid (show putOf ng n rest up = (if ng then -(n : Int) else (n : Int), true) by unfold putOf; rw [if_neg h0, if_neg h])
      clear h
      cases rest <;> cases up <;> cases ng <;> first | (exfalso; revert h0; decide) | skip
      all_goals
        clear h0
        go_enter Tryz.func89, Tryz.ntmps89
        go_wp2
        go_ret2
        exact ⟨ret_ib HR.out, rfl⟩
end Go.Proofs.YtmnccbhlllnlbaaGreat

/- Contracts of the reference of layer 1: over, Div, quotient, DivDown, DivUp. -/
namespace Go.Proofs.YtmnccbhlllnlbaaGreat
open Go.RowKit Mnc

theorem bit_tmod (a j : Nat) : ((a : Int) / 2 ^ j).tmod 2 = ((a / 2 ^ j % 2 : Nat) : Int) := by
  have e : (a : Int) / 2 ^ j = ((a / 2 ^ j : Nat) : Int) := by push_cast; rfl
  rw [e, Int.tmod_eq_emod_of_nonneg (Int.natCast_nonneg _)]
  rfl

theorem sum_u64 (x y : Nat) (h : x + y < 18446744073709551616) : IntKind.u64.wrap ((x : Int) + (y : Int)) = ((x + y : Nat) : Int) := by
  rw [M64.addN]; exact M64.wrapN _ h

theorem ret_nbb {k : IntKind} {a : Int} {b c : Bool} {p : Nat × Bool × Bool} (h1 : (p.1 : Int) = a) (h2 : p.2.1 = b) (h3 : p.2.2 = c) : Ending.returned (.tuple #[.int k a, .bool b, .bool c]) = .returned (.tuple #[.int k p.1, .bool p.2.1, .bool p.2.2]) := by rw [h1, h2, h3]

set_option maxRecDepth 100000 in
set_option maxHeartbeats 2000000 in
theorem ref1_over (a n d : Nat) (ha : a < 18446744073709551616) (hn : n ≤ 9223372036854775808) (hd0 : 0 < d) (hd : d ≤ 4611686018427387904) (w : World) :
    Calls Tryz.prog 96 #[.int .u64 a, .int .u64 n, .int .u64 d] w fun e w' => e = .returned (.tuple #[.int .u64 ((ovr a n d).1 : Nat), .bool (ovr a n d).2.1, .bool (ovr a n d).2.2]) ∧ Below w.heap.size w w' := by
  have HN := Lib.hid hn
  have HD0 := Lib.hid hd0
  have HD := Lib.hid hd
  obtain ⟨res, hres⟩ : ∃ res, res = ovr a n d := ⟨_, rfl⟩
  rw [← hres]
  have HRES := Lib.hid hres
  have HST := Lib.hid (ovAt_start (n := n) ha hd0)
  clear hres
  go_enter Tryz.func96, Tryz.ntmps96
  go_wp2_with fail
  go_loopw [9, 10, 11] (fun q r i wr => ∃ k Q R : Nat, k ≤ 64 ∧ i = .int .i64 ((k : Int) - 1) ∧ q = .int .u64 Q ∧ r = .int .u64 R ∧ Hid (OvAt a n d k Q R) ∧ Below w.heap.size w wr) (fun _ _ i _ => (intOf i + 1).toNat)
  case atStart => exact ⟨64, 0, 0, by omega, rfl, rfl, rfl, HST, Below.refl _ _⟩
  case round =>
    obtain ⟨k, Q, R, hk, rfl, rfl, rfl, HO, hbw⟩ := hrel
    have hQ : Q ≤ 4503599627370496 := HO.out.2.2
    have hR : R < d := HO.out.2.1
    rcases Nat.eq_zero_or_pos k with rfl | hk0
    · have HE := Lib.hid (ovr_near HO.out)
      go_wp2
      refine bodyPost_ret (v := .tuple #[.int .u64 (Q : Int), .bool (decide (0 < R)), .bool true]) (by simp [results, Tryz.results96, go_sem]) rfl ?_
      exact ⟨ret_nbb (by rw [HRES.out, HE.out]) (by rw [HRES.out, HE.out]) (by rw [HRES.out, HE.out]), hbw⟩
    · obtain ⟨j, rfl⟩ : ∃ j, k = j + 1 := ⟨k - 1, by omega⟩
      rw [show (((j + 1 : Nat) : Int) - 1) = (j : Int) by omega]
      have h1 : ¬ (d : Int) = 0 := by omega
      have h2 : ¬ (d : Int) ≤ 0 := by omega
      have h3 : decide ((d : Int) ≤ 0) = false := by simp; omega
      have h4 : ((d : Int) == 0) = false := by simp; omega
      by_cases hb : a / 2 ^ j % 2 = 1
      · have hb1 : (((a : Int) / 2 ^ j).tmod 2 == 1) = true := by
          rw [bit_tmod, hb]; rfl
        have HI0 := Lib.hid (ovIn_one HO.out HN.out hb)
        have hnd : n / d ≤ n := Nat.div_le_self _ _
        have hnm : n % d < d := Nat.mod_lt _ hd0
        have E1 := Lib.hid (show IntKind.u64.wrap (2 * (Q : Int) + IntKind.u64.wrap ((n : Int) / (d : Int))) = ((2 * Q + n / d : Nat) : Int) by
          rw [small_quo n d (by omega)]; exact sum_u64 (2 * Q) (n / d) (by omega))
        have E2 := Lib.hid (show IntKind.u64.wrap (2 * (R : Int) + (n : Int) % (d : Int)) = ((2 * R + n % d : Nat) : Int) by
          rw [← Int.natCast_emod]; exact sum_u64 (2 * R) (n % d) (by omega))
        clear hnd hnm
        go_wp2_with fail
        go_quiet (fail)
        go_wp2_with fail
        obtain ⟨wo, hwo⟩ : ∃ wo : World, wo = wr.drewN nq := ⟨_, rfl⟩
        rw [← hwo]
        have hbo : Below w.heap.size w wo := by rw [hwo]; exact below_drewN hbw _
        clear hwo
        go_loop [9, 10] (fun q r => ∃ q' r' : Nat, q = .int .u64 q' ∧ r = .int .u64 r' ∧ Hid (OvIn a n d j q' r')) (fun _ r => (intOf r).toNat)
        case atStart => exact ⟨2 * Q + n / d, 2 * R + n % d, int_congr E1.out, int_congr E2.out, HI0⟩
        case round =>
          obtain ⟨q', r', rfl, rfl, HI⟩ := hrel
          have hq' : q' ≤ 9223372036854775808 + 9007199254740992 + 2 := Nat.le_trans (Nat.le_add_right _ _) HI.out.2.2
          have hr' : r' < 3 * d := HI.out.2.1
          by_cases hc : d ≤ r'
          · have HI2 := Lib.hid (ovIn_down HI.out hc HD0.out)
            have hsub : (r' : Int) - (d : Int) = ((r' - d : Nat) : Int) := by omega
            have HSUB := Lib.hid hsub
            clear hsub
            go_wp2
            go_round
            case rel => exact ⟨q' + 1, r' - d, by go_num, by rw [← HSUB.out], HI2⟩
            case measure => have := HD0.out; simp [intOf]; omega
          · by_cases hf : 4503599627370496 < q'
            · have HF := Lib.hid (ovr_far (ovIn_far HI.out HD0.out hf))
              have hf2 : decide ((4503599627370496 : Int) < (q' : Int)) = true := by simp; omega
              clear hf
              go_wp2
              refine bodyPost_ret (v := .tuple #[.int .u64 0, .bool false, .bool false]) (by simp [results, Tryz.results96, go_sem]) rfl ?_
              exact ⟨ret_nbb (by rw [HRES.out, HF.out]; rfl) (by rw [HRES.out, HF.out]) (by rw [HRES.out, HF.out]), hbo⟩
            · have HE := Lib.hid (ovIn_end HI.out (by omega) (by omega))
              have hf2 : decide ((4503599627370496 : Int) < (q' : Int)) = false := by simp; omega
              clear hf
              go_wp2
              go_roundw
              case rel => exact ⟨j, q', r', by omega, rfl, rfl, rfl, HE, hbo⟩
              case measure => simp [intOf]
      · have hb1 : (((a : Int) / 2 ^ j).tmod 2 == 1) = false := by
          rw [bit_tmod, show a / 2 ^ j % 2 = 0 by omega]; rfl
        have HI0 := Lib.hid (ovIn_zero HO.out (show a / 2 ^ j % 2 = 0 by omega))
        go_wp2_with fail
        obtain ⟨wo, hwo⟩ : ∃ wo : World, wo = wr := ⟨_, rfl⟩
        rw [← hwo]
        have hbo : Below w.heap.size w wo := by rw [hwo]; exact hbw
        clear hwo
        go_loop [9, 10] (fun q r => ∃ q' r' : Nat, q = .int .u64 q' ∧ r = .int .u64 r' ∧ Hid (OvIn a n d j q' r')) (fun _ r => (intOf r).toNat)
        case atStart => exact ⟨2 * Q, 2 * R, by go_num, by go_num, HI0⟩
        case round =>
          obtain ⟨q', r', rfl, rfl, HI⟩ := hrel
          have hq' : q' ≤ 9223372036854775808 + 9007199254740992 + 2 := Nat.le_trans (Nat.le_add_right _ _) HI.out.2.2
          have hr' : r' < 3 * d := HI.out.2.1
          by_cases hc : d ≤ r'
          · have HI2 := Lib.hid (ovIn_down HI.out hc HD0.out)
            have hsub : (r' : Int) - (d : Int) = ((r' - d : Nat) : Int) := by omega
            have HSUB := Lib.hid hsub
            clear hsub
            go_wp2
            go_round
            case rel => exact ⟨q' + 1, r' - d, by go_num, by rw [← HSUB.out], HI2⟩
            case measure => have := HD0.out; simp [intOf]; omega
          · by_cases hf : 4503599627370496 < q'
            · have HF := Lib.hid (ovr_far (ovIn_far HI.out HD0.out hf))
              have hf2 : decide ((4503599627370496 : Int) < (q' : Int)) = true := by simp; omega
              clear hf
              go_wp2
              refine bodyPost_ret (v := .tuple #[.int .u64 0, .bool false, .bool false]) (by simp [results, Tryz.results96, go_sem]) rfl ?_
              exact ⟨ret_nbb (by rw [HRES.out, HF.out]; rfl) (by rw [HRES.out, HF.out]) (by rw [HRES.out, HF.out]), hbo⟩
            · have HE := Lib.hid (ovIn_end HI.out (by omega) (by omega))
              have hf2 : decide ((4503599627370496 : Int) < (q' : Int)) = false := by simp; omega
              clear hf
              go_wp2
              go_roundw
              case rel => exact ⟨j, q', r', by omega, rfl, rfl, rfl, HE, hbo⟩
              case measure => simp [intOf]

end Go.Proofs.YtmnccbhlllnlbaaGreat

/- Contracts of the reference of layer 1: Div, quotient, DivDown, DivUp, Sqrt, SqrtDown, SqrtUp. -/
namespace Go.Proofs.YtmnccbhlllnlbaaGreat
open Go.RowKit Mnc

theorem ovr_le (a n d : Nat) : (ovr a n d).1 ≤ 4503599627370496 := by
  unfold ovr; split
  · assumption
  · omega

theorem ref1_over_one (n d : Nat) (hn : n ≤ 9223372036854775808) (hd0 : 0 < d) (hd : d ≤ 4611686018427387904) (w : World) :
    Calls Tryz.prog 96 #[.int .u64 4294967296, .int .u64 n, .int .u64 d] w fun e w' => e = .returned (.tuple #[.int .u64 ((ovr 4294967296 n d).1 : Nat), .bool (ovr 4294967296 n d).2.1, .bool (ovr 4294967296 n d).2.2]) ∧ Below w.heap.size w w' := by
  have h := ref1_over 4294967296 n d (by omega) hn hd0 hd w
  rw [show ((4294967296 : Nat) : Int) = 4294967296 from rfl] at h
  exact h

theorem putOvr_dv (up : Bool) (a b : Int) (hz : ¬ b = 0) : putOvr (decide (a < 0) != decide (b < 0)) up 4294967296 a.natAbs b.natAbs = fitB (dv up a b) := by
  rw [putOvr_rnd _ _ _ _ _ (by omega), Nat.mul_comm, dv_sign]
  rfl

set_option maxHeartbeats 1000000 in
theorem ref1_Div (a b : Int) (up : Bool) (ha : ok a) (hb : ok b) (hz : ¬ b = 0) (w : World) :
    Calls Tryz.prog 82 #[.int .i64 a, .int .i64 b, .bool up] w fun e w' => e = .returned (.tuple #[.int .i64 (fitB (dv up a b)).1, .bool (fitB (dv up a b)).2]) ∧ Below w.heap.size w w' := by
  have HsA := Lib.hid (fun W => ref1_size a W (by have := ha.1; omega) (by have := ha.2; omega))
  have HsB := Lib.hid (fun W => ref1_size b W (by have := hb.1; omega) (by have := hb.2; omega))
  have HO := Lib.hid (fun W => ref1_over_one a.natAbs b.natAbs (by have := ha.1; have := ha.2; omega) (by omega) (by have := hb.1; have := hb.2; omega) W)
  have HV := Lib.hid (putOvr_dv up a b hz)
  obtain ⟨x, hx⟩ : ∃ x, x = a.natAbs := ⟨_, rfl⟩
  obtain ⟨y, hy⟩ : ∃ y, y = b.natAbs := ⟨_, rfl⟩
  rw [← hx] at HsA HO HV
  rw [← hy] at HsB HO HV
  clear hx hy ha hb hz
  have HL := Lib.hid (ovr_le 4294967296 x y)
  obtain ⟨res, hres⟩ : ∃ res, res = ovr 4294967296 x y := ⟨_, rfl⟩
  rw [← hres] at HO HL
  have HRES := Lib.hid hres
  clear hres
  obtain ⟨q, rest, fits⟩ := res
  have hq : q ≤ 4503599627370496 := HL.out
  cases fits
  · have HF : Hid (fitB (dv up a b) = (0, false)) := Lib.hid (by
      rw [← HV.out, putOvr, ← HRES.out]; rfl)
    go_enter Tryz.func82, Tryz.ntmps82
    go_wp2_with (first | (go_at_call_of 88 a; refine (HsA.out _).mono ?_; rintro e w' ⟨rfl, rfl⟩) | (go_at_call_of 88 b; refine (HsB.out _).mono ?_; rintro e w' ⟨rfl, rfl⟩) | (go_at_call 96; refine (HO.out _).mono ?_; rintro e w' ⟨rfl, hbel⟩))
    go_ret2
    exact ⟨ret_ib HF.out, hbel⟩
  · have HF : Hid (fitB (dv up a b) = putOf (decide (a < 0) != decide (b < 0)) q rest up) := Lib.hid (by
      rw [← HV.out, putOvr, ← HRES.out]; rfl)
    go_enter Tryz.func82, Tryz.ntmps82
    go_wp2_with (first | (go_at_call_of 88 a; refine (HsA.out _).mono ?_; rintro e w' ⟨rfl, rfl⟩) | (go_at_call_of 88 b; refine (HsB.out _).mono ?_; rintro e w' ⟨rfl, rfl⟩) | (go_at_call 96; refine (HO.out _).mono ?_; rintro e w' ⟨rfl, hbel⟩) | (go_at_call 89; refine (ref1_put _ q _ _ _ (by omega)).mono ?_; rintro e w' ⟨rfl, rfl⟩))
    go_ret2
    exact ⟨by rw [HF.out]; rfl, hbel⟩

end Go.Proofs.YtmnccbhlllnlbaaGreat

/- Contracts of the reference of layer 1: Sqrt, SqrtDown, SqrtUp. -/
namespace Go.Proofs.YtmnccbhlllnlbaaGreat
open Go.RowKit Mnc

theorem two_tmod (a j : Nat) : ((a : Int) / 2 ^ j).tmod 4 = ((a / 2 ^ j % 4 : Nat) : Int) := by
  have e : (a : Int) / 2 ^ j = ((a / 2 ^ j : Nat) : Int) := by push_cast; rfl
  rw [e, Int.tmod_eq_emod_of_nonneg (Int.natCast_nonneg _)]
  rfl

set_option maxRecDepth 100000 in
set_option maxHeartbeats 2000000 in
theorem ref1_Sqrt (a : Nat) (ha : a ≤ 4503599627370496) (up : Bool) (w : World) :
    Calls Tryz.prog 80 #[.int .i64 a, .bool up] w fun e w' => e = .returned (.int .i64 (rtOf up (a * 4294967296) : Nat)) ∧ w = w' := by
  have HA := Lib.hid ha
  obtain ⟨res, hres⟩ : ∃ res, res = rtOf up (a * 4294967296) := ⟨_, rfl⟩
  rw [← hres]
  have HRES := Lib.hid hres
  clear hres
  have h43 : a * 4294967296 < 4 ^ 43 := by
    have : (4 : Nat) ^ 43 = 77371252455336267181195264 := by decide
    omega
  have HST := Lib.hid (rtAt_start h43)
  clear h43
  go_enter Tryz.func80, Tryz.ntmps80
  go_wp2_with fail
  go_loop [5, 6, 7, 8] (fun root rest i two => ∃ k R S : Nat, k ≤ 43 ∧ i = .int .i64 ((k : Int) - 1) ∧ root = .int .i64 R ∧ rest = .int .i64 S ∧ Hid (RtAt (a * 4294967296) k R S)) (fun _ _ i _ => (intOf i + 1).toNat)
  case atStart => exact ⟨43, 0, 0, by omega, rfl, rfl, rfl, HST⟩
  case round =>
    obtain ⟨k, R, S, hk, rfl, rfl, rfl, HO⟩ := hrel
    obtain ⟨hR, hS⟩ := rtAt_bd HO.out (by have := HA.out; omega)
    rcases Nat.eq_zero_or_pos k with rfl | hk0
    · have HE := Lib.hid (rtAt_end HO.out up)
      cases up
      · go_wp2
        go_ret
        exact ⟨ret_int (by rw [HRES.out, HE.out, if_neg (by simp)]), rfl⟩
      · by_cases hs : 0 < S
        · go_wp2
          go_ret
          exact ⟨ret_int (by rw [HRES.out, HE.out, if_pos (by simp; exact hs)]; omega), rfl⟩
        · go_wp2
          go_ret
          exact ⟨ret_int (by rw [HRES.out, HE.out, if_neg (by simp; omega)]), rfl⟩
    · obtain ⟨j, rfl⟩ : ∃ j, k = j + 1 := ⟨k - 1, by omega⟩
      rw [show (((j + 1 : Nat) : Int) - 1) = (j : Int) by omega]
      by_cases hj : 16 ≤ j
      · have ht := two_tmod a (2 * j - 32)
        have HT : Hid (a * 4294967296 / 4 ^ j % 4 = a / 2 ^ (2 * j - 32) % 4) := Lib.hid (by rw [two_hi a hj])
        have hT : a / 2 ^ (2 * j - 32) % 4 < 4 := Nat.mod_lt _ (by omega)
        generalize a / 2 ^ (2 * j - 32) % 4 = T at *
        by_cases hc : 4 * R + 1 ≤ 4 * S + T
        · have HN := Lib.hid (rtAt_take HO.out HT.out hc)
          have HSUB := Lib.hid (show (4 * (S : Int) + (T : Int) - (4 * (R : Int) + 1)) = ((4 * S + T - (4 * R + 1) : Nat) : Int) by omega)
          go_wp2
          go_round
          case rel => exact ⟨j, 2 * R + 1, 4 * S + T - (4 * R + 1), by omega, rfl, by go_num, int_congr HSUB.out, HN⟩
          case measure => simp [intOf]
        · have HN := Lib.hid (rtAt_leave HO.out HT.out hc)
          go_wp2
          go_round
          case rel => exact ⟨j, 2 * R, 4 * S + T, by omega, rfl, by go_num, by go_num, HN⟩
          case measure => simp [intOf]
      · have HT : Hid (a * 4294967296 / 4 ^ j % 4 = 0) := Lib.hid (two_lo a (by omega))
        by_cases hc : 4 * R + 1 ≤ 4 * S
        · have HN := Lib.hid (rtAt_take HO.out HT.out (by omega))
          have HSUB := Lib.hid (show (4 * (S : Int) - (4 * (R : Int) + 1)) = ((4 * S - (4 * R + 1) : Nat) : Int) by omega)
          go_wp2
          go_round
          case rel => exact ⟨j, 2 * R + 1, 4 * S - (4 * R + 1), by omega, rfl, by go_num, int_congr HSUB.out, HN⟩
          case measure => simp [intOf]
        · have HN := Lib.hid (rtAt_leave HO.out HT.out (by omega))
          go_wp2
          go_round
          case rel => exact ⟨j, 2 * R, 4 * S, by omega, rfl, by go_num, by go_num, HN⟩
          case measure => simp [intOf]

end Go.Proofs.YtmnccbhlllnlbaaGreat

/- Contracts of the reference of layer 1: Mul, Scale, scaled, ScaleDown, ScaleUp. -/
namespace Mnc
open Go
/-- What the reference's scaled operation answers. -/
def rScl (up : Bool) (a n d : Int) : Int × Int := if sclOk a n d then fit (rnd up (a * n) d) else (0, 2)
theorem rScl_ok (up : Bool) {a n d : Int} (h : sclOk a n d) : rScl up a n d = fit (rnd up (a * n) d) := if_pos h
theorem rScl_bad (up : Bool) {a n d : Int} (h : ¬ sclOk a n d) : rScl up a n d = (0, 2) := if_neg h
theorem mul_parts (x y : Nat) : x * y / 4294967296 = x / 67108864 * (y / 67108864) * 1048576 + (x / 67108864 * (y % 67108864) + x % 67108864 * (y / 67108864)) / 64 + ((x / 67108864 * (y % 67108864) + x % 67108864 * (y / 67108864)) % 64 * 67108864 + x % 67108864 * (y % 67108864)) / 4294967296 ∧
    x * y % 4294967296 = ((x / 67108864 * (y % 67108864) + x % 67108864 * (y / 67108864)) % 64 * 67108864 + x % 67108864 * (y % 67108864)) % 4294967296 := by
  rw [parts_mul x y]
  exact parts_div
theorem natAbs_sign (a b : Int) : (if (decide (a < 0) != decide (b < 0)) = true then -((a.natAbs * b.natAbs : Nat) : Int) else ((a.natAbs * b.natAbs : Nat) : Int)) = a * b := sign_mul a b
end Mnc
namespace Go.Proofs.YtmnccbhlllnlbaaGreat
open Go.RowKit Mnc

theorem ref1_putI (ng : Bool) (N : Int) (rest up : Bool) (w : World) (h0 : 0 ≤ N) (hn : N ≤ 9223372036854775807) :
    Calls Tryz.prog 89 #[.bool ng, .int .u64 N, .bool rest, .bool up] w fun e w' => e = .returned (.tuple #[.int .i64 (putOf ng N.toNat rest up).1, .bool (putOf ng N.toNat rest up).2]) ∧ w = w' := by
  obtain ⟨n, rfl⟩ := Int.eq_ofNat_of_zero_le h0
  exact ref1_put ng n rest up w (by omega)

set_option maxRecDepth 100000 in
set_option maxHeartbeats 2000000 in
theorem ref1_Mul (a b : Int) (up : Bool) (ha : ok a) (hb : ok b) (w : World) :
    Calls Tryz.prog 74 #[.int .i64 a, .int .i64 b, .bool up] w fun e w' => e = .returned (.tuple #[.int .i64 (fitB (rnd up (a * b) 4294967296)).1, .bool (fitB (rnd up (a * b) 4294967296)).2]) ∧ w = w' := by
  have HsA := Lib.hid (fun W => ref1_size a W (by have := ha.1; omega) (by have := ha.2; omega))
  have HsB := Lib.hid (fun W => ref1_size b W (by have := hb.1; omega) (by have := hb.2; omega))
  have hP := put_rnd (decide (a < 0) != decide (b < 0)) up (a.natAbs * b.natAbs) 4294967296 (by decide)
  have hF : 4503599627370496 < a.natAbs * b.natAbs / 4294967296 → fitB (rnd up (a * b) 4294967296) = (0, false) := fun h => by
    have := rnd_far (decide (a < 0) != decide (b < 0)) up (a.natAbs * b.natAbs) 4294967296 (by decide) h
    rw [natAbs_sign] at this
    exact fitB_bad this
  rw [natAbs_sign] at hP
  obtain ⟨e1, e2⟩ := mul_parts a.natAbs b.natAbs
  have hx : a.natAbs ≤ 4503599627370496 := by have := ha.1; have := ha.2; omega
  have hy : b.natAbs ≤ 4503599627370496 := by have := hb.1; have := hb.2; omega
  obtain ⟨x, hX⟩ : ∃ x, x = a.natAbs := ⟨_, rfl⟩
  obtain ⟨y, hY⟩ : ∃ y, y = b.natAbs := ⟨_, rfl⟩
  rw [← hX] at HsA hP hF e1 e2 hx
  rw [← hY] at HsB hP hF e1 e2 hy
  clear hX hY ha hb
  obtain ⟨xh, hxh⟩ : ∃ xh, x / 67108864 = xh := ⟨_, rfl⟩
  obtain ⟨xl, hxl⟩ : ∃ xl, x % 67108864 = xl := ⟨_, rfl⟩
  obtain ⟨yh, hyh⟩ : ∃ yh, y / 67108864 = yh := ⟨_, rfl⟩
  obtain ⟨yl, hyl⟩ : ∃ yl, y % 67108864 = yl := ⟨_, rfl⟩
  rw [hxh, hxl, hyh, hyl] at e1 e2
  have bxh : xh ≤ 67108864 := by omega
  have bxl : xl ≤ 67108864 := by omega
  have byh : yh ≤ 67108864 := by omega
  have byl : yl ≤ 67108864 := by omega
  obtain ⟨p, hp⟩ : ∃ p, xh * yh = p := ⟨_, rfl⟩
  obtain ⟨q, hq⟩ : ∃ q, xh * yl = q := ⟨_, rfl⟩
  obtain ⟨r, hr⟩ : ∃ r, xl * yh = r := ⟨_, rfl⟩
  obtain ⟨s, hs⟩ : ∃ s, xl * yl = s := ⟨_, rfl⟩
  have bp : p ≤ 4503599627370496 := by have := Nat.mul_le_mul bxh byh; omega
  have bq : q ≤ 4503599627370496 := by have := Nat.mul_le_mul bxh byl; omega
  have br : r ≤ 4503599627370496 := by have := Nat.mul_le_mul bxl byh; omega
  have bs : s ≤ 4503599627370496 := by have := Nat.mul_le_mul bxl byl; omega
  rw [hp, hq, hr, hs] at e1
  rw [hq, hr, hs] at e2
  have hxh' : (x : Int) / 67108864 = (xh : Int) := by omega
  have hxl' : (x : Int) % 67108864 = (xl : Int) := by omega
  have hyh' : (y : Int) / 67108864 = (yh : Int) := by omega
  have hyl' : (y : Int) % 67108864 = (yl : Int) := by omega
  have hp' : (xh : Int) * (yh : Int) = (p : Int) := by rw [← hp]; push_cast; rfl
  have hq' : (xh : Int) * (yl : Int) = (q : Int) := by rw [← hq]; push_cast; rfl
  have hr' : (xl : Int) * (yh : Int) = (r : Int) := by rw [← hr]; push_cast; rfl
  have hs' : (xl : Int) * (yl : Int) = (s : Int) := by rw [← hs]; push_cast; rfl
  clear hxh hxl hyh hyl hp hq hr hs
  by_cases hh : p < 8589934592
  · have HV : Hid (fitB (rnd up (a * b) 4294967296) = putOf (decide (a < 0) != decide (b < 0)) (p * 1048576 + (q + r) / 64 + ((q + r) % 64 * 67108864 + s) / 4294967296) (decide (0 < (((q : Int) + (r : Int)) % 64 * 67108864 + (s : Int)) % 4294967296)) up) := Lib.hid (by
      have hP' : _ = fitB (rnd up (a * b) 4294967296) := hP
      rw [← hP', e1, e2]
      congr 1
      apply decide_eq_decide.mpr
      omega)
    have hd : decide ((8589934592 : Int) ≤ (p : Int)) = false := by simp; omega
    clear hP hF e1 e2
    go_enter Tryz.func74, Tryz.ntmps74
    go_wp2_with (first | (go_at_call_of 88 a; refine (HsA.out _).mono ?_; rintro e w' ⟨rfl, rfl⟩) | (go_at_call_of 88 b; refine (HsB.out _).mono ?_; rintro e w' ⟨rfl, rfl⟩) | (go_at_call 89; refine (ref1_putI _ _ _ _ _ (by omega) (by omega)).mono ?_; rintro e w' ⟨rfl, rfl⟩))
    go_ret2
    exact ⟨by rw [HV.out]; rfl, rfl⟩
  · have HV : Hid (fitB (rnd up (a * b) 4294967296) = (0, false)) := Lib.hid (hF (by rw [e1]; omega))
    have hd : decide ((8589934592 : Int) ≤ (p : Int)) = true := by simp; omega
    clear hP hF e1 e2
    go_enter Tryz.func74, Tryz.ntmps74
    go_wp2_with (first | (go_at_call_of 88 a; refine (HsA.out _).mono ?_; rintro e w' ⟨rfl, rfl⟩) | (go_at_call_of 88 b; refine (HsB.out _).mono ?_; rintro e w' ⟨rfl, rfl⟩))
    go_ret2
    exact ⟨ret_ib HV.out, rfl⟩

end Go.Proofs.YtmnccbhlllnlbaaGreat
