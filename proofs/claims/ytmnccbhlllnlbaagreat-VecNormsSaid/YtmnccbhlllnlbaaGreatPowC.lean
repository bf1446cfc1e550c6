/- Contracts of package span: high by whole digits. Printed by wip/genPB.py. -/
import Derived.Test.YtmnccbhlllnlbaaGreatPowB
namespace Mnc
open Go
theorem and_lo (x : Nat) (hx : x < 18446744073709551616) : bits .and .u64 (x : Int) 0 = 0 := by
  have h := bits_and_u64_nat x 0 hx (by omega)
  rw [Nat.and_zero] at h
  exact h
theorem or_lo (x y : Nat) (hx : x < 18446744073709551616) : bits .or .u64 (x : Int) (IntKind.u64.wrap ((y : Int) * 18446744073709551616)) = ((x : Nat) : Int) := by
  have e2 : IntKind.u64.wrap ((y : Int) * 18446744073709551616) = ((0 : Nat) : Int) := by
    rw [IntKind.wrap_u64]
    omega
  rw [e2, bits_or_u64_nat _ _ hx (by omega), Nat.or_zero]
end Mnc
namespace Go.Proofs.YtmnccbhlllnlbaaGreat
open Go.RowKit Mnc
set_option maxRecDepth 100000 in
set_option maxHeartbeats 2000000 in
theorem dig_high0 (l : List Nat) (N : Int) (s : Nat) (b cap : Nat) (w : World) (h : DgAt w b cap l) (hl : l.length ≤ 100) (hs : s ≤ 100) (hq : N.tdiv 64 = (s : Int)) (hr : N.tmod 64 = 0) :
    Calls Tryz.prog 115 #[.slice (some ⟨b, 0, none⟩) l.length cap, .int .i64 N] w fun e w' => HiEnd l (64 * s) e ∧ Below w.heap.size w w' := by
  have HB := Lib.hid (HiB.start h)
  have HL := Lib.hid hl
  clear h
  obtain ⟨n, hn⟩ : ∃ n, n = l.length := ⟨_, rfl⟩
  have HN := Lib.hid hn
  rw [← hn] at hl ⊢
  have HB1 := HB
  rw [← hn] at HB1
  clear hn
  go_enter Tryz.func115, Tryz.ntmps115
  go_wp2_with fail
  go_simp
  go_loop [5, 18] (fun r i => ∃ k : Nat, k ≤ s ∧ i = .int .i64 k ∧ r = .bool (dleft l k)) (fun _ i => s - (intOf i).toNat)
  case atStart => exact ⟨0, by omega, rfl, rfl⟩
  case round =>
    obtain ⟨k, hk, rfl, rfl⟩ := hrel
    rcases Nat.lt_or_ge k s with hk' | hk'
    · have HA := Lib.hid (HB1.out.at HL.out (i := k) (by omega))
      have HX := Lib.hid (dleft_next l k)
      generalize dat l k = x at *
      cases hd : dleft l k with
      | true =>
        rw [hd] at HX
        go_wp2_with fail
        go_round
        case rel => exact ⟨k + 1, by omega, by go_num, by rw [HX.out]; simp⟩
        case measure => simp [intOf]; omega
      | false =>
        rw [hd] at HX
        go_wp2_with (go_at_call 126; refine HA.out.mono ?_; rintro e w' ⟨rfl, rfl⟩)
        go_round
        case rel => exact ⟨k + 1, by omega, by go_num, by rw [HX.out]; simp⟩
        case measure => simp [intOf]; omega
    · obtain rfl : k = s := by omega
      have HA0 := Lib.hid (fun m => HB1.out.atq HL.out (i := k) (by omega) m)
      have HA1 := Lib.hid (fun m => HB1.out.atq HL.out (i := k + 1) (by omega) m)
      generalize w.alloc (.cells #[.slice (some ⟨b, 0, none⟩) n cap] 126) = W at *
      obtain ⟨x, hx⟩ : ∃ x, x = dat l k := ⟨_, rfl⟩
      obtain ⟨y, hy⟩ : ∃ y, y = dat l (k + 1) := ⟨_, rfl⟩
      rw [← hx] at HA0
      rw [← hy] at HA1
      have ek : (((k + 1 : Nat)) : Int) = (k : Int) + 1 := by omega
      rw [ek] at HA1
      have HX := Lib.hid hx
      have HY := Lib.hid hy
      have HDg := HB.out.dg.ok
      have hxo : x < 18446744073709551616 := by rw [hx]; exact dat_lt HDg k
      have hyo : y < 18446744073709551616 := by rw [hy]; exact dat_lt HDg (k + 1)
      obtain ⟨r, hr8⟩ : ∃ r, r = dleft l k := ⟨_, rfl⟩
      rw [← hr8]
      have HR := Lib.hid hr8
      clear hr8 hx hy HDg
      go_wp2_with fail
      cases r with
      | true =>
        go_quiet (fail)
        have HB8 : Hid (HiB w (W.drewN nq) b cap l) := Lib.hid (HB1.out.on (below_drewN (Below.refl _ _) nq))
        have HA0 := Lib.hid (fun m => HB8.out.atq HL.out (i := k) (by omega) m)
        have HA1 := Lib.hid (fun m => HB8.out.atq HL.out (i := k + 1) (by omega) m)
        rw [← HX.out] at HA0
        rw [← HY.out, ek] at HA1
        generalize W.drewN nq = W8 at *
        go_wp2_with fail
        go_quiet (first | (go_at_call 126; with_reducible refine Calls.quiet_of_same (HA0.out _)) | (go_at_call 126; with_reducible refine Calls.quiet_of_same (HA1.out _)))
        have HB9 : Hid (HiB w (W8.drewN nq) b cap l) := Lib.hid (HB8.out.on (below_drewN (Below.refl _ _) nq))
        have HA1 := Lib.hid (HB9.out.at HL.out (i := k + 1) (by omega))
        rw [← HY.out, ek] at HA1
        generalize W8.drewN nq = W9 at *
        rw [or_lo x y hxo]
        obtain ⟨R, hR⟩ : ∃ R, R = true := ⟨_, rfl⟩
        have HRR : Hid (R = dleft l k) := Lib.hid (by rw [hR, ← HR.out])
        rw [← hR]
        clear hR
        go_wp2_with fail
        go_loop [4, 5, 11] (fun a c i => ∃ j : Nat, k + 2 ≤ j ∧ j ≤ 102 + n ∧ i = .int .i64 j ∧ a = .int .u64 x ∧ c = .bool R ∧ Hid (∀ t, k + 2 ≤ t → t < j → t < l.length → dat l t = 0)) (fun _ _ i => 1000 - (intOf i).toNat)
        case atStart => exact ⟨k + 2, by omega, by omega, by go_num, rfl, rfl, Lib.hid (fun t h1 h2 => by omega)⟩
        case round =>
          obtain ⟨j, hj1, hj2, rfl, rfl, rfl, HJ⟩ := hrel
          have b0 := cell_of_one HB9.out.box
          rw [← HN.out] at b0
          rcases Nat.lt_or_ge j n with hj' | hj'
          · obtain ⟨z, hz⟩ : ∃ z, z = dat l j := ⟨_, rfl⟩
            have c0 := HB9.out.dg.cells j z (by rw [hz]; unfold dat; rw [List.getD_eq_getElem?_getD, List.getElem?_eq_getElem (by rw [← HN.out]; exact hj')]; rfl)
            have HZ := Lib.hid hz
            clear hz
            by_cases hz0 : z = 0
            · subst hz0
              go_wp2_with fail
              go_round
              case rel => exact ⟨j + 1, by omega, by omega, by go_num, rfl, rfl, Lib.hid (fun t h1 h2 h3 => by
                  rcases Nat.lt_or_ge t j with h | h
                  · exact HJ.out t h1 h h3
                  · rw [show t = j by omega]; exact HZ.out.symm)⟩
              case measure => simp [intOf]; omega
            · have d1 : decide ((0 : Int) < (z : Int)) = true := by simp; omega
              have HZ0 := Lib.hid hz0
              clear hz0
              go_wp2_with fail
              refine bodyPost_ret (v := .tuple #[.int .u64 0, .bool false, .bool false]) (by simp [results, Tryz.results115, go_sem]) rfl ?_
              exact ⟨HiEnd.mk (hi0_bad2 HB9.out.dg.ok hj1 (by rw [← HN.out]; exact hj') (by rw [← HZ.out]; exact HZ0.out)), HB9.out.bel⟩
              exfalso
              have := HZ0.out
              omega
          · by_cases hy0 : y = 0
            · have HY0 := Lib.hid hy0
              have d2 : ((y : Int) == 0) = true := by simp [hy0]
              clear hy0
              go_wp2_with (go_at_call 126; refine HA1.out.mono ?_; rintro e w' ⟨rfl, rfl⟩)
              refine bodyPost_ret (v := .tuple #[.int .u64 (x : Int), .bool R, .bool true]) (by simp [results, Tryz.results115, go_sem]) rfl ?_
              refine ⟨HiEnd.mk ?_, HB9.out.bel⟩
              rw [HRR.out, HX.out]
              exact hi0_ok HB9.out.dg.ok (fun t h1 h2 => HJ.out t h1 (by have := HN.out; omega) h2) (by rw [← HY.out]; exact HY0.out)
            · have HY0 := Lib.hid hy0
              have d2 : ((y : Int) == 0) = false := by simp; exact hy0
              clear hy0
              go_wp2_with (go_at_call 126; refine HA1.out.mono ?_; rintro e w' ⟨rfl, rfl⟩)
              refine bodyPost_ret (v := .tuple #[.int .u64 (x : Int), .bool R, .bool false]) (by simp [results, Tryz.results115, go_sem]) rfl ?_
              exact ⟨HiEnd.mk (hi0_bad1 HB9.out.dg.ok (by rw [← HY.out]; exact HY0.out) x hxo R), HB9.out.bel⟩
      | false =>
        go_quiet (first | (go_at_call 126; with_reducible refine Calls.quiet_of_same (HA0.out _)) | (go_at_call 126; with_reducible refine Calls.quiet_of_same (HA1.out _)))
        have HB8 : Hid (HiB w (W.drewN nq) b cap l) := Lib.hid (HB1.out.on (below_drewN (Below.refl _ _) nq))
        have HA0 := Lib.hid (fun m => HB8.out.atq HL.out (i := k) (by omega) m)
        have HA1 := Lib.hid (fun m => HB8.out.atq HL.out (i := k + 1) (by omega) m)
        rw [← HX.out] at HA0
        rw [← HY.out, ek] at HA1
        generalize W.drewN nq = W8 at *
        go_wp2_with fail
        go_quiet (first | (go_at_call 126; with_reducible refine Calls.quiet_of_same (HA0.out _)) | (go_at_call 126; with_reducible refine Calls.quiet_of_same (HA1.out _)))
        have HB9 : Hid (HiB w (W8.drewN nq) b cap l) := Lib.hid (HB8.out.on (below_drewN (Below.refl _ _) nq))
        have HA1 := Lib.hid (HB9.out.at HL.out (i := k + 1) (by omega))
        rw [← HY.out, ek] at HA1
        generalize W8.drewN nq = W9 at *
        rw [or_lo x y hxo]
        rw [and_lo x hxo]
        obtain ⟨R, hR⟩ : ∃ R, R = false := ⟨_, rfl⟩
        have HRR : Hid (R = dleft l k) := Lib.hid (by rw [hR, ← HR.out])
        rw [show decide ((0 : Int) < 0) = false from rfl, ← hR]
        clear hR
        go_wp2_with fail
        go_loop [4, 5, 11] (fun a c i => ∃ j : Nat, k + 2 ≤ j ∧ j ≤ 102 + n ∧ i = .int .i64 j ∧ a = .int .u64 x ∧ c = .bool R ∧ Hid (∀ t, k + 2 ≤ t → t < j → t < l.length → dat l t = 0)) (fun _ _ i => 1000 - (intOf i).toNat)
        case atStart => exact ⟨k + 2, by omega, by omega, by go_num, rfl, rfl, Lib.hid (fun t h1 h2 => by omega)⟩
        case round =>
          obtain ⟨j, hj1, hj2, rfl, rfl, rfl, HJ⟩ := hrel
          have b0 := cell_of_one HB9.out.box
          rw [← HN.out] at b0
          rcases Nat.lt_or_ge j n with hj' | hj'
          · obtain ⟨z, hz⟩ : ∃ z, z = dat l j := ⟨_, rfl⟩
            have c0 := HB9.out.dg.cells j z (by rw [hz]; unfold dat; rw [List.getD_eq_getElem?_getD, List.getElem?_eq_getElem (by rw [← HN.out]; exact hj')]; rfl)
            have HZ := Lib.hid hz
            clear hz
            by_cases hz0 : z = 0
            · subst hz0
              go_wp2_with fail
              go_round
              case rel => exact ⟨j + 1, by omega, by omega, by go_num, rfl, rfl, Lib.hid (fun t h1 h2 h3 => by
                  rcases Nat.lt_or_ge t j with h | h
                  · exact HJ.out t h1 h h3
                  · rw [show t = j by omega]; exact HZ.out.symm)⟩
              case measure => simp [intOf]; omega
            · have d1 : decide ((0 : Int) < (z : Int)) = true := by simp; omega
              have HZ0 := Lib.hid hz0
              clear hz0
              go_wp2_with fail
              refine bodyPost_ret (v := .tuple #[.int .u64 0, .bool false, .bool false]) (by simp [results, Tryz.results115, go_sem]) rfl ?_
              exact ⟨HiEnd.mk (hi0_bad2 HB9.out.dg.ok hj1 (by rw [← HN.out]; exact hj') (by rw [← HZ.out]; exact HZ0.out)), HB9.out.bel⟩
              exfalso
              have := HZ0.out
              omega
          · by_cases hy0 : y = 0
            · have HY0 := Lib.hid hy0
              have d2 : ((y : Int) == 0) = true := by simp [hy0]
              clear hy0
              go_wp2_with (go_at_call 126; refine HA1.out.mono ?_; rintro e w' ⟨rfl, rfl⟩)
              refine bodyPost_ret (v := .tuple #[.int .u64 (x : Int), .bool R, .bool true]) (by simp [results, Tryz.results115, go_sem]) rfl ?_
              refine ⟨HiEnd.mk ?_, HB9.out.bel⟩
              rw [HRR.out, HX.out]
              exact hi0_ok HB9.out.dg.ok (fun t h1 h2 => HJ.out t h1 (by have := HN.out; omega) h2) (by rw [← HY.out]; exact HY0.out)
            · have HY0 := Lib.hid hy0
              have d2 : ((y : Int) == 0) = false := by simp; exact hy0
              clear hy0
              go_wp2_with (go_at_call 126; refine HA1.out.mono ?_; rintro e w' ⟨rfl, rfl⟩)
              refine bodyPost_ret (v := .tuple #[.int .u64 (x : Int), .bool R, .bool false]) (by simp [results, Tryz.results115, go_sem]) rfl ?_
              exact ⟨HiEnd.mk (hi0_bad1 HB9.out.dg.ok (by rw [← HY.out]; exact HY0.out) x hxo R), HB9.out.bel⟩
end Go.Proofs.YtmnccbhlllnlbaaGreat
