/- Contracts of the reference of layer 1: over, Div, quotient, DivDown, DivUp. -/
import Derived.Test.YtgfofilkpaelnaaRefA
namespace Go.Proofs.Ytgfofilkpaelnaa
open Go.RowKit Mnc

theorem bit_tmod (a j : Nat) : ((a : Int) / 2 ^ j).tmod 2 = ((a / 2 ^ j % 2 : Nat) : Int) := by
  have e : (a : Int) / 2 ^ j = ((a / 2 ^ j : Nat) : Int) := by push_cast; rfl
  rw [e, Int.tmod_eq_emod_of_nonneg (Int.natCast_nonneg _)]
  rfl

theorem sum_u64 (x y : Nat) (h : x + y < 18446744073709551616) : IntKind.u64.wrap ((x : Int) + (y : Int)) = ((x + y : Nat) : Int) := by
  rw [M64.addN]; exact M64.wrapN _ h

theorem ret_nbb {k : IntKind} {a : Int} {b c : Bool} {p : Nat × Bool × Bool} (h1 : (p.1 : Int) = a) (h2 : p.2.1 = b) (h3 : p.2.2 = c) : Ending.returned (.tuple #[.int k a, .bool b, .bool c]) = .returned (.tuple #[.int k p.1, .bool p.2.1, .bool p.2.2]) := by rw [h1, h2, h3]

set_option maxRecDepth 100000 in
set_option maxHeartbeats 2000000 in
theorem ref1_over (a n d : Nat) (ha : a < 18446744073709551616) (hn : n ≤ 9223372036854775808) (hd0 : 0 < d) (hd : d ≤ 4611686018427387904) (w : World) :
    Calls Try.prog 208 #[.int .u64 a, .int .u64 n, .int .u64 d] w fun e w' => e = .returned (.tuple #[.int .u64 ((ovr a n d).1 : Nat), .bool (ovr a n d).2.1, .bool (ovr a n d).2.2]) ∧ Below w.heap.size w w' := by
  have HN := Lib.hid hn
  have HD0 := Lib.hid hd0
  have HD := Lib.hid hd
  obtain ⟨res, hres⟩ : ∃ res, res = ovr a n d := ⟨_, rfl⟩
  rw [← hres]
  have HRES := Lib.hid hres
  have HST := Lib.hid (ovAt_start (n := n) ha hd0)
  clear hres
  go_enter Try.func208, Try.ntmps208
  go_wp2_with fail
  go_loopw [9, 10, 11] (fun q r i wr => ∃ k Q R : Nat, k ≤ 64 ∧ i = .int .i64 ((k : Int) - 1) ∧ q = .int .u64 Q ∧ r = .int .u64 R ∧ Hid (OvAt a n d k Q R) ∧ Below w.heap.size w wr) (fun _ _ i _ => (intOf i + 1).toNat)
  case atStart => exact ⟨64, 0, 0, by omega, rfl, rfl, rfl, HST, Below.refl _ _⟩
  case round =>
    obtain ⟨k, Q, R, hk, rfl, rfl, rfl, HO, hbw⟩ := hrel
    have hQ : Q ≤ 4503599627370496 := HO.out.2.2
    have hR : R < d := HO.out.2.1
    rcases Nat.eq_zero_or_pos k with rfl | hk0
    · have HE := Lib.hid (ovr_near HO.out)
      go_wp2
      refine bodyPost_ret (v := .tuple #[.int .u64 (Q : Int), .bool (decide (0 < R)), .bool true]) (by simp [results, Try.results208, go_sem]) rfl ?_
      exact ⟨ret_nbb (by rw [HRES.out, HE.out]) (by rw [HRES.out, HE.out]) (by rw [HRES.out, HE.out]), hbw⟩
    · obtain ⟨j, rfl⟩ : ∃ j, k = j + 1 := ⟨k - 1, by omega⟩
      rw [show (((j + 1 : Nat) : Int) - 1) = (j : Int) by omega]
      have h1 : ¬ (d : Int) = 0 := by omega
      have h2 : ¬ (d : Int) ≤ 0 := by omega
      have h3 : decide ((d : Int) ≤ 0) = false := by simp; omega
      have h4 : ((d : Int) == 0) = false := by simp; omega
      by_cases hb : a / 2 ^ j % 2 = 1
      · have hb1 : (((a : Int) / 2 ^ j).tmod 2 == 1) = true := by
          rw [bit_tmod, hb]; rfl
        have HI0 := Lib.hid (ovIn_one HO.out HN.out hb)
        have hnd : n / d ≤ n := Nat.div_le_self _ _
        have hnm : n % d < d := Nat.mod_lt _ hd0
        have E1 := Lib.hid (show IntKind.u64.wrap (2 * (Q : Int) + IntKind.u64.wrap ((n : Int) / (d : Int))) = ((2 * Q + n / d : Nat) : Int) by
          rw [small_quo n d (by omega)]; exact sum_u64 (2 * Q) (n / d) (by omega))
        have E2 := Lib.hid (show IntKind.u64.wrap (2 * (R : Int) + (n : Int) % (d : Int)) = ((2 * R + n % d : Nat) : Int) by
          rw [← Int.natCast_emod]; exact sum_u64 (2 * R) (n % d) (by omega))
        clear hnd hnm
        go_wp2_with fail
        go_quiet (fail)
        go_wp2_with fail
        obtain ⟨wo, hwo⟩ : ∃ wo : World, wo = wr.drewN nq := ⟨_, rfl⟩
        rw [← hwo]
        have hbo : Below w.heap.size w wo := by rw [hwo]; exact below_drewN hbw _
        clear hwo
        go_loop [9, 10] (fun q r => ∃ q' r' : Nat, q = .int .u64 q' ∧ r = .int .u64 r' ∧ Hid (OvIn a n d j q' r')) (fun _ r => (intOf r).toNat)
        case atStart => exact ⟨2 * Q + n / d, 2 * R + n % d, int_congr E1.out, int_congr E2.out, HI0⟩
        case round =>
          obtain ⟨q', r', rfl, rfl, HI⟩ := hrel
          have hq' : q' ≤ 9223372036854775808 + 9007199254740992 + 2 := Nat.le_trans (Nat.le_add_right _ _) HI.out.2.2
          have hr' : r' < 3 * d := HI.out.2.1
          by_cases hc : d ≤ r'
          · have HI2 := Lib.hid (ovIn_down HI.out hc HD0.out)
            have hsub : (r' : Int) - (d : Int) = ((r' - d : Nat) : Int) := by omega
            have HSUB := Lib.hid hsub
            clear hsub
            go_wp2
            go_round
            case rel => exact ⟨q' + 1, r' - d, by go_num, by rw [← HSUB.out], HI2⟩
            case measure => have := HD0.out; simp [intOf]; omega
          · by_cases hf : 4503599627370496 < q'
            · have HF := Lib.hid (ovr_far (ovIn_far HI.out HD0.out hf))
              have hf2 : decide ((4503599627370496 : Int) < (q' : Int)) = true := by simp; omega
              clear hf
              go_wp2
              refine bodyPost_ret (v := .tuple #[.int .u64 0, .bool false, .bool false]) (by simp [results, Try.results208, go_sem]) rfl ?_
              exact ⟨ret_nbb (by rw [HRES.out, HF.out]; rfl) (by rw [HRES.out, HF.out]) (by rw [HRES.out, HF.out]), hbo⟩
            · have HE := Lib.hid (ovIn_end HI.out (by omega) (by omega))
              have hf2 : decide ((4503599627370496 : Int) < (q' : Int)) = false := by simp; omega
              clear hf
              go_wp2
              go_roundw
              case rel => exact ⟨j, q', r', by omega, rfl, rfl, rfl, HE, hbo⟩
              case measure => simp [intOf]
      · have hb1 : (((a : Int) / 2 ^ j).tmod 2 == 1) = false := by
          rw [bit_tmod, show a / 2 ^ j % 2 = 0 by omega]; rfl
        have HI0 := Lib.hid (ovIn_zero HO.out (show a / 2 ^ j % 2 = 0 by omega))
        go_wp2_with fail
        obtain ⟨wo, hwo⟩ : ∃ wo : World, wo = wr := ⟨_, rfl⟩
        rw [← hwo]
        have hbo : Below w.heap.size w wo := by rw [hwo]; exact hbw
        clear hwo
        go_loop [9, 10] (fun q r => ∃ q' r' : Nat, q = .int .u64 q' ∧ r = .int .u64 r' ∧ Hid (OvIn a n d j q' r')) (fun _ r => (intOf r).toNat)
        case atStart => exact ⟨2 * Q, 2 * R, by go_num, by go_num, HI0⟩
        case round =>
          obtain ⟨q', r', rfl, rfl, HI⟩ := hrel
          have hq' : q' ≤ 9223372036854775808 + 9007199254740992 + 2 := Nat.le_trans (Nat.le_add_right _ _) HI.out.2.2
          have hr' : r' < 3 * d := HI.out.2.1
          by_cases hc : d ≤ r'
          · have HI2 := Lib.hid (ovIn_down HI.out hc HD0.out)
            have hsub : (r' : Int) - (d : Int) = ((r' - d : Nat) : Int) := by omega
            have HSUB := Lib.hid hsub
            clear hsub
            go_wp2
            go_round
            case rel => exact ⟨q' + 1, r' - d, by go_num, by rw [← HSUB.out], HI2⟩
            case measure => have := HD0.out; simp [intOf]; omega
          · by_cases hf : 4503599627370496 < q'
            · have HF := Lib.hid (ovr_far (ovIn_far HI.out HD0.out hf))
              have hf2 : decide ((4503599627370496 : Int) < (q' : Int)) = true := by simp; omega
              clear hf
              go_wp2
              refine bodyPost_ret (v := .tuple #[.int .u64 0, .bool false, .bool false]) (by simp [results, Try.results208, go_sem]) rfl ?_
              exact ⟨ret_nbb (by rw [HRES.out, HF.out]; rfl) (by rw [HRES.out, HF.out]) (by rw [HRES.out, HF.out]), hbo⟩
            · have HE := Lib.hid (ovIn_end HI.out (by omega) (by omega))
              have hf2 : decide ((4503599627370496 : Int) < (q' : Int)) = false := by simp; omega
              clear hf
              go_wp2
              go_roundw
              case rel => exact ⟨j, q', r', by omega, rfl, rfl, rfl, HE, hbo⟩
              case measure => simp [intOf]

end Go.Proofs.Ytgfofilkpaelnaa
