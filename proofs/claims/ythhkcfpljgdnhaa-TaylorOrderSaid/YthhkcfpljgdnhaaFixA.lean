/- Contracts of the small functions of package fix: Check, all, told, Add, Sub, Neg, size. -/
import Derived.Test.YthhkcfpljgdnhaaProg
import Derived.WalkKit
import Derived.WalkSpells
import Derived.WalkLawsBesides
import Derived.Lib.Hide
import Derived.Test.YthhkcfpljgdnhaaPl
namespace Go.Proofs.Ythhkcfpljgdnhaa
open Go.RowKit Mnc

set_option maxHeartbeats 400000 in
theorem fix_Check (a : Int) (w : World) :
    Calls Try.prog 108 #[.int .i64 a] w fun e w' => e = .returned (.int .i64 (chk a)) ∧ w = w' := by
  by_cases h1 : a < -4503599627370496
  · go_enter Try.func108, Try.ntmps108
    go_wp2
    go_ret
    exact ⟨ret_int (by rw [chk_bad (by unfold ok; omega)]), rfl⟩
  · by_cases h2 : 4503599627370496 < a
    · go_enter Try.func108, Try.ntmps108
      go_wp2
      go_ret
      exact ⟨ret_int (by rw [chk_bad (by unfold ok; omega)]), rfl⟩
    · go_enter Try.func108, Try.ntmps108
      go_wp2
      go_ret
      exact ⟨ret_int (by rw [chk_ok (by unfold ok; omega)]), rfl⟩

set_option maxHeartbeats 400000 in
theorem fix_all2 (a b : Int) (blk : Nat) (w : World) (hc0 : w.cell? ⟨blk, 0, none⟩ = some (.int .i64 a)) (hc1 : w.cell? ⟨blk, 1, none⟩ = some (.int .i64 b)) :
    Calls Try.prog 96 #[.slice (some ⟨blk, 0, none⟩) 2 2] w fun e w' => e = .returned (.int .i64 (chk2 a b)) ∧ w = w' := by
  go_enter Try.func96, Try.ntmps96
  go_wp2
  go_loop [8] (fun i => ∃ k : Nat, k ≤ 2 ∧ i = .int .i64 k ∧ (1 ≤ k → ok a) ∧ (2 ≤ k → ok b)) (fun i => 2 - (intOf i).toNat)
  case atStart => exact ⟨0, by omega, rfl, by omega, by omega⟩
  case round =>
    obtain ⟨k, hk, rfl, ha, hb⟩ := hrel
    rcases (by omega : k = 0 ∨ k = 1 ∨ k = 2) with rfl | rfl | rfl
    · by_cases h : ok a
      · have H := Lib.hid h; clear h
        have Hc := Lib.hid (chk_ok H.out)
        go_wp2_with (go_at_call 108; refine (fix_Check _ _).mono ?_; rintro e w' ⟨rfl, rfl⟩; rw [Hc.out])
        go_round
        case rel => exact ⟨1, by omega, rfl, fun _ => H.out, by omega⟩
        case measure => simp [intOf]
      · have H := Lib.hid h; clear h
        have Hc := Lib.hid (chk_bad H.out)
        go_wp2_with (go_at_call 108; refine (fix_Check _ _).mono ?_; rintro e w' ⟨rfl, rfl⟩; rw [Hc.out])
        go_ret
        exact ⟨ret_int (chk2_l H.out).symm, rfl⟩
    · by_cases h : ok b
      · have H := Lib.hid h; clear h
        have Hc := Lib.hid (chk_ok H.out)
        go_wp2_with (go_at_call 108; refine (fix_Check _ _).mono ?_; rintro e w' ⟨rfl, rfl⟩; rw [Hc.out])
        go_round
        case rel => exact ⟨2, by omega, rfl, fun _ => ha (by omega), fun _ => H.out⟩
        case measure => simp [intOf]
      · have H := Lib.hid h; clear h
        have Hc := Lib.hid (chk_bad H.out)
        go_wp2_with (go_at_call 108; refine (fix_Check _ _).mono ?_; rintro e w' ⟨rfl, rfl⟩; rw [Hc.out])
        go_ret
        exact ⟨ret_int (chk2_r H.out).symm, rfl⟩
    · have Ha := Lib.hid ha; have Hb := Lib.hid hb; clear ha hb
      go_wp2
      go_ret
      exact ⟨ret_int (chk2_ok (Ha.out (by omega)) (Hb.out (by omega))).symm, rfl⟩

theorem fix_all2_new (a b : Int) (w : World) :
    Calls Try.prog 96 #[.slice (some ⟨w.heap.size, 0, none⟩) 2 2] (w.alloc (.cells #[.int .i64 a, .int .i64 b] 3)) fun e w' => e = .returned (.int .i64 (chk2 a b)) ∧ w.alloc (.cells #[.int .i64 a, .int .i64 b] 3) = w' :=
  fix_all2 a b _ _ (by simp) (by simp)

/-- The size of a number: what is left without its sign. -/
theorem fix_size (a : Int) (w : World) (h1 : -9223372036854775808 ≤ a) (h2 : a ≤ 9223372036854775807) :
    Calls Try.prog 101 #[.int .i64 a] w fun e w' => e = .returned (.int .u64 (a.natAbs : Int)) ∧ w = w' := by
  by_cases h : a < 0
  · go_enter Try.func101, Try.ntmps101
    go_wp2
    go_ret
    exact ⟨ret_int (by omega), rfl⟩
  · go_enter Try.func101, Try.ntmps101
    go_wp2
    go_ret
    exact ⟨ret_int (by omega), rfl⟩
end Go.Proofs.Ythhkcfpljgdnhaa
