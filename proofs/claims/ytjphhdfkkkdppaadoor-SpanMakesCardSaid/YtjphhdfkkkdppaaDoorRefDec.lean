/- Contracts of the references: Dec, FromDec of layer 1; Dec of layer 2. -/
import Derived.Test.YtjphhdfkkkdppaaDoorRefSE
namespace Mnc
open Go
theorem dec_hw (a : Int) (ha : -9223372036854775808 ≤ a ∧ a ≤ 9223372036854775807) (k : Nat) (hk : k < 13) : a.natAbs * 4294967296 / 10 ^ k ≠ 18446744073709551615 ∨ a.natAbs * 4294967296 % 10 ^ k = 0 := by
  have h : a.natAbs ≤ 9223372036854775808 := by omega
  generalize a.natAbs = n at h
  rcases (by omega : k = 0 ∨ k = 1 ∨ k = 2 ∨ k = 3 ∨ k = 4 ∨ k = 5 ∨ k = 6 ∨ k = 7 ∨ k = 8 ∨ k = 9 ∨ k = 10 ∨ k = 11 ∨ k = 12) with rfl | rfl | rfl | rfl | rfl | rfl | rfl | rfl | rfl | rfl | rfl | rfl | rfl <;> (simp only [Nat.reducePow]; omega)
/-- The reference's rounding of a decimal number. -/
def dRef (up : Bool) (a : Int) (k : Nat) : Int × Bool := putOvr (decide (a < 0)) up 4294967296 a.natAbs (10 ^ k)
theorem dRef_of (up : Bool) (a : Int) (ha : -9223372036854775808 ≤ a ∧ a ≤ 9223372036854775807) (k : Nat) (hk : k < 13) : ((dRef up a k).2 = true → decOf up a k = ((dRef up a k).1, 0)) ∧ ((dRef up a k).2 = false → decOf up a k = (0, 6)) := by
  have hp : 0 < 10 ^ k := Nat.pow_pos (by decide)
  unfold dRef decOf
  rw [putOvr_rnd _ _ _ _ _ hp, sgn_quo _ _ _ _ hp (dec_hw a ha k hk), Nat.mul_comm 4294967296]
  generalize rnd up _ _ = v
  unfold fitB fit
  by_cases h : ok v
  · simp [h]
  · simp [h]
end Mnc
namespace Go.Proofs.YtjphhdfkkkdppaaDoor
open Go.RowKit Mnc

theorem pow10_u64 {j : Nat} (h : j < 13) : ((10 ^ j : Nat) : Int) ≤ 1000000000000 := by
  have := Nat.pow_le_pow_right (show 0 < 10 by decide) (show j ≤ 12 by omega)
  have e : (10 ^ 12 : Nat) = 1000000000000 := by decide
  omega
set_option maxRecDepth 100000 in
set_option maxHeartbeats 1000000 in
theorem ref1_Dec (a : Int) (ha : -9223372036854775808 ≤ a ∧ a ≤ 9223372036854775807) (k : Nat) (hk : k < 13) (up : Bool) (w : World) :
    Calls Tryd.prog 94 #[.int .i64 a, .int .i64 k, .bool up] w fun e w' => e = .returned (.tuple #[.int .i64 (dRef up a k).1, .bool (dRef up a k).2]) ∧ Below w.heap.size w w' := by
  have hp : 0 < 10 ^ k := Nat.pow_pos (by decide)
  have hp2 := pow10_u64 hk
  have HsA := Lib.hid (fun W => ref1_size a W ha.1 ha.2)
  have HO := Lib.hid (fun W => ref1_over_one a.natAbs (10 ^ k) (by omega) (by omega) (by omega) W)
  have HV := Lib.hid (show dRef up a k = putOvr (decide (a < 0)) up 4294967296 a.natAbs (10 ^ k) from rfl)
  obtain ⟨x, hx⟩ : ∃ x, x = a.natAbs := ⟨_, rfl⟩
  rw [← hx] at HsA HO HV
  clear hx ha hp
  have HL := Lib.hid (ovr_le 4294967296 x (10 ^ k))
  have HM := Lib.hid (show ∀ j, j < 13 → ((10 ^ j : Nat) : Int) ≤ 1000000000000 from fun j h => pow10_u64 h)
  obtain ⟨res, hres⟩ : ∃ res, res = ovr 4294967296 x (10 ^ k) := ⟨_, rfl⟩
  rw [← hres] at HO HL
  have HRES := Lib.hid hres
  clear hres hp2
  obtain ⟨q, rest, fits⟩ := res
  have hq : q ≤ 4503599627370496 := HL.out
  go_enter Tryd.func94, Tryd.ntmps94
  go_wp2_with fail
  go_loop [8, 9] (fun d i => ∃ j D : Nat, j ≤ k ∧ i = .int .i64 j ∧ d = .int .u64 D ∧ Hid (D = 10 ^ j)) (fun _ i => k - (intOf i).toNat)
  case atStart => exact ⟨0, 1, by omega, rfl, rfl, Lib.hid rfl⟩
  case round =>
    obtain ⟨j, D, hj, rfl, rfl, HD⟩ := hrel
    have hD : (D : Int) ≤ 1000000000000 := by rw [HD.out]; exact HM.out j (by omega)
    rcases Nat.lt_or_ge j k with hj' | hj'
    · go_wp2_with fail
      go_roundw
      case rel => exact ⟨j + 1, 10 * D, by omega, by go_num, by go_num, Lib.hid (by rw [HD.out, Nat.pow_succ, Nat.mul_comm])⟩
      case measure => simp [intOf]; omega
    · obtain rfl : j = k := by omega
      have hd := HD.out
      rw [← hd] at HO HRES HV
      clear hd HD HM
      have hd3 : (D : Int) < 18446744073709551616 := by omega
      cases fits
      · have HF : Hid (dRef up a j = (0, false)) := Lib.hid (by rw [HV.out, putOvr, ← HRES.out]; rfl)
        go_wp2_with (first | (go_at_call 98; refine (HsA.out _).mono ?_; rintro e w' ⟨rfl, rfl⟩) | (go_at_call 108; refine (HO.out _).mono ?_; rintro e w' ⟨rfl, hbel⟩))
        go_ret2
        exact ⟨by rw [HF.out]; rfl, hbel⟩
      · have HF : Hid (dRef up a j = putOf (decide (a < 0)) q rest up) := Lib.hid (by rw [HV.out, putOvr, ← HRES.out]; rfl)
        go_wp2_with (first | (go_at_call 98; refine (HsA.out _).mono ?_; rintro e w' ⟨rfl, rfl⟩) | (go_at_call 108; refine (HO.out _).mono ?_; rintro e w' ⟨rfl, hbel⟩) | (go_at_call 99; refine (ref1_put (decide (a < 0)) q rest up _ (by omega)).mono ?_; rintro e w' ⟨rfl, rfl⟩))
        go_ret2
        exact ⟨by rw [HF.out]; rfl, hbel⟩

theorem ret_dec {a : Int} {k : Nat} (ha : -9223372036854775808 ≤ a ∧ a ≤ 9223372036854775807) (hk : k < 13) {x y : Int} (h1 : dRef false a k = (x, true)) (h2 : dRef true a k = (y, true)) : dec a k = (x, y, 0) := by
  have e1 := (dRef_of false a ha k hk).1 (by rw [h1])
  have e2 := (dRef_of true a ha k hk).1 (by rw [h2])
  rw [dec_in a hk, e1, e2, if_pos rfl, if_pos rfl, h1, h2]
theorem ret_dec_no {a : Int} {k : Nat} (ha : -9223372036854775808 ≤ a ∧ a ≤ 9223372036854775807) (hk : k < 13) (h : (dRef false a k).2 = false ∨ (dRef true a k).2 = false) : dec a k = (0, 0, 6) := by
  rw [dec_in a hk]
  cases h1 : (dRef false a k).2
  · rw [(dRef_of false a ha k hk).2 h1, if_neg (by decide)]
  · rw [(dRef_of false a ha k hk).1 h1, if_pos rfl]
    rcases h with h | h
    · rw [h1] at h
      cases h
    · rw [(dRef_of true a ha k hk).2 h, if_neg (by decide)]
set_option maxRecDepth 100000 in
set_option maxHeartbeats 1000000 in
theorem ref1_FromDec (a d : Int) (ha : -9223372036854775808 ≤ a ∧ a ≤ 9223372036854775807) (w : World) :
    Calls Tryd.prog 67 #[.int .i64 a, .int .i64 d] w fun e w' => e = .returned (.tuple #[.int .i64 (dec a d).1, .int .i64 (dec a d).2.1, .int .i64 (dec a d).2.2]) ∧ Below w.heap.size w w' := by
  by_cases h1 : d < 0
  · have HR := Lib.hid (dec_bad (a := a) (show ¬ (0 ≤ d ∧ d < 13) by omega))
    clear ha
    go_enter Tryd.func67, Tryd.ntmps67
    go_wp2_with fail
    go_ret3
    exact ⟨ret3 HR.out, Below.refl _ _⟩
  · by_cases h2 : 12 < d
    · have HR := Lib.hid (dec_bad (a := a) (show ¬ (0 ≤ d ∧ d < 13) by omega))
      clear ha
      go_enter Tryd.func67, Tryd.ntmps67
      go_wp2_with fail
      go_ret3
      exact ⟨ret3 HR.out, Below.refl _ _⟩
    · obtain ⟨k, rfl⟩ := Int.eq_ofNat_of_zero_le (show 0 ≤ d by omega)
      have hk : k < 13 := by omega
      have HA := Lib.hid ha
      have HK := Lib.hid hk
      have HD := Lib.hid (fun W => ref1_Dec a ha k hk false W)
      have HU := Lib.hid (fun W => ref1_Dec a ha k hk true W)
      clear ha
      obtain ⟨p, hp⟩ : ∃ p, p = dRef false a k := ⟨_, rfl⟩
      obtain ⟨q, hq⟩ : ∃ q, q = dRef true a k := ⟨_, rfl⟩
      rw [← hp] at HD
      rw [← hq] at HU
      have HPe := Lib.hid hp
      have HQe := Lib.hid hq
      clear hp hq
      obtain ⟨x, f⟩ := p
      obtain ⟨y, g⟩ := q
      cases f
      · have HR := Lib.hid (ret_dec_no HA.out HK.out (.inl (by rw [← HPe.out])))
        go_enter Tryd.func67, Tryd.ntmps67
        go_wp2_with fail
        refine (HD.out _).mono ?_; rintro e w1 ⟨rfl, hb⟩
        go_wp2_with fail
        refine (HU.out _).mono ?_; rintro e w2 ⟨rfl, hb2⟩
        have hb := below_step hb hb2
        clear hb2
        go_wp2_with fail
        go_ret3
        exact ⟨ret3 HR.out, hb⟩
      · cases g
        · have HR := Lib.hid (ret_dec_no HA.out HK.out (.inr (by rw [← HQe.out])))
          go_enter Tryd.func67, Tryd.ntmps67
          go_wp2_with fail
          refine (HD.out _).mono ?_; rintro e w1 ⟨rfl, hb⟩
          go_wp2_with fail
          refine (HU.out _).mono ?_; rintro e w2 ⟨rfl, hb2⟩
          have hb := below_step hb hb2
          clear hb2
          go_wp2_with fail
          go_ret3
          exact ⟨ret3 HR.out, hb⟩
        · have HR := Lib.hid (ret_dec HA.out HK.out HPe.out.symm HQe.out.symm)
          go_enter Tryd.func67, Tryd.ntmps67
          go_wp2_with fail
          refine (HD.out _).mono ?_; rintro e w1 ⟨rfl, hb⟩
          go_wp2_with fail
          refine (HU.out _).mono ?_; rintro e w2 ⟨rfl, hb2⟩
          have hb := below_step hb hb2
          clear hb2
          go_wp2_with fail
          go_ret3
          exact ⟨ret3 HR.out, hb⟩

set_option maxRecDepth 100000 in
set_option maxHeartbeats 1000000 in
theorem ref2_Dec (n d : Int) (hn : -9223372036854775808 ≤ n ∧ n ≤ 9223372036854775807) (w : World) :
    Calls Tryd.prog 22 #[.int .i64 n, .int .i64 d] w fun e w' => e = .returned (.tuple #[.agg #[.int .i64 (sDec n d).1.1, .int .i64 (sDec n d).1.2], .int .i64 (sDec n d).2]) ∧ Below w.heap.size w w' := by
  have hB := Bx1.start w (0, 0)
  have H := Lib.hid hn
  clear hn
  go_enter Tryd.func22, Tryd.ntmps22
  go_wp2_with fail
  refine (ref1_FromDec n d H.out _).mono ?_; rintro e w2 ⟨rfl, hbel⟩
  have hB := hB.on hbel
  clear hbel
  have c0 := cell_two0 hB.b0
  have c1 := cell_two1 hB.b0
  have f0 := free_two (i := 0) hB.b0
  have f1 := free_two (i := 1) hB.b0
  have l2 := lt_of_block hB.b0
  go_wp2_with fail
  exact bodyPost_ret (v := .tuple #[.agg #[.int .i64 (dec n d).1, .int .i64 (dec n d).2.1], .int .i64 (dec n d).2.2]) (by simp [results, Tryd.results22, go_sem, c0, c1]) rfl ⟨rfl, below_set2 hB.bel (by omega) _ _⟩
end Go.Proofs.YtjphhdfkkkdppaaDoor
