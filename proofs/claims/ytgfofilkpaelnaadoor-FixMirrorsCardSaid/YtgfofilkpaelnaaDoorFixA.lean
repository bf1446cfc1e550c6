/- Contracts of the small functions of package fix: Check, all, told, Add, Sub, Neg, size. -/
import Derived.Test.YtgfofilkpaelnaaDoorProg
import Derived.WalkKit
import Derived.WalkSpells
import Derived.WalkLawsBesides
import Derived.Lib.Hide
import Derived.Test.YtgfofilkpaelnaaDoorPlain
namespace Go.Proofs.YtgfofilkpaelnaaDoor
open Go.RowKit Mnc

set_option maxHeartbeats 400000 in
theorem fix_Check (a : Int) (w : World) :
    Calls Tryd.prog 26 #[.int .i64 a] w fun e w' => e = .returned (.int .i64 (chk a)) ∧ w = w' := by
  by_cases h1 : a < -4503599627370496
  · go_enter Tryd.func26, Tryd.ntmps26
    go_wp2
    go_ret
    exact ⟨ret_int (by rw [chk_bad (by unfold ok; omega)]), rfl⟩
  · by_cases h2 : 4503599627370496 < a
    · go_enter Tryd.func26, Tryd.ntmps26
      go_wp2
      go_ret
      exact ⟨ret_int (by rw [chk_bad (by unfold ok; omega)]), rfl⟩
    · go_enter Tryd.func26, Tryd.ntmps26
      go_wp2
      go_ret
      exact ⟨ret_int (by rw [chk_ok (by unfold ok; omega)]), rfl⟩

set_option maxHeartbeats 400000 in
theorem fix_all2 (a b : Int) (blk : Nat) (w : World) (hc0 : w.cell? ⟨blk, 0, none⟩ = some (.int .i64 a)) (hc1 : w.cell? ⟨blk, 1, none⟩ = some (.int .i64 b)) :
    Calls Tryd.prog 97 #[.slice (some ⟨blk, 0, none⟩) 2 2] w fun e w' => e = .returned (.int .i64 (chk2 a b)) ∧ w = w' := by
  go_enter Tryd.func97, Tryd.ntmps97
  go_wp2
  go_loop [8] (fun i => ∃ k : Nat, k ≤ 2 ∧ i = .int .i64 k ∧ (1 ≤ k → ok a) ∧ (2 ≤ k → ok b)) (fun i => 2 - (intOf i).toNat)
  case atStart => exact ⟨0, by omega, rfl, by omega, by omega⟩
  case round =>
    obtain ⟨k, hk, rfl, ha, hb⟩ := hrel
    rcases (by omega : k = 0 ∨ k = 1 ∨ k = 2) with rfl | rfl | rfl
    · by_cases h : ok a
      · have H := Lib.hid h; clear h
        have Hc := Lib.hid (chk_ok H.out)
        go_wp2_with (go_at_call 26; refine (fix_Check _ _).mono ?_; rintro e w' ⟨rfl, rfl⟩; rw [Hc.out])
        go_round
        case rel => exact ⟨1, by omega, rfl, fun _ => H.out, by omega⟩
        case measure => simp [intOf]
      · have H := Lib.hid h; clear h
        have Hc := Lib.hid (chk_bad H.out)
        go_wp2_with (go_at_call 26; refine (fix_Check _ _).mono ?_; rintro e w' ⟨rfl, rfl⟩; rw [Hc.out])
        go_ret
        exact ⟨ret_int (chk2_l H.out).symm, rfl⟩
    · by_cases h : ok b
      · have H := Lib.hid h; clear h
        have Hc := Lib.hid (chk_ok H.out)
        go_wp2_with (go_at_call 26; refine (fix_Check _ _).mono ?_; rintro e w' ⟨rfl, rfl⟩; rw [Hc.out])
        go_round
        case rel => exact ⟨2, by omega, rfl, fun _ => ha (by omega), fun _ => H.out⟩
        case measure => simp [intOf]
      · have H := Lib.hid h; clear h
        have Hc := Lib.hid (chk_bad H.out)
        go_wp2_with (go_at_call 26; refine (fix_Check _ _).mono ?_; rintro e w' ⟨rfl, rfl⟩; rw [Hc.out])
        go_ret
        exact ⟨ret_int (chk2_r H.out).symm, rfl⟩
    · have Ha := Lib.hid ha; have Hb := Lib.hid hb; clear ha hb
      go_wp2
      go_ret
      exact ⟨ret_int (chk2_ok (Ha.out (by omega)) (Hb.out (by omega))).symm, rfl⟩

set_option maxHeartbeats 400000 in
theorem fix_told (a : Int) (w : World) :
    Calls Tryd.prog 98 #[.int .i64 a] w fun e w' => e = .returned (.tuple #[.int .i64 (fit a).1, .int .i64 (fit a).2]) ∧ w = w' := by
  by_cases h : ok a
  · have H := Lib.hid h; clear h
    have Hc := Lib.hid (chk_ok H.out)
    go_enter Tryd.func98, Tryd.ntmps98
    go_wp2_with (go_at_call 26; refine (fix_Check _ _).mono ?_; rintro e w' ⟨rfl, rfl⟩; rw [Hc.out])
    go_ret2
    exact ⟨ret2 (fit_ok H.out), rfl⟩
  · have H := Lib.hid h; clear h
    have Hc := Lib.hid (chk_bad H.out)
    go_enter Tryd.func98, Tryd.ntmps98
    go_wp2_with (go_at_call 26; refine (fix_Check _ _).mono ?_; rintro e w' ⟨rfl, rfl⟩; rw [Hc.out])
    go_ret2
    exact ⟨ret2 (fit_bad H.out), rfl⟩

theorem fix_all2_new (a b : Int) (w : World) :
    Calls Tryd.prog 97 #[.slice (some ⟨w.heap.size, 0, none⟩) 2 2] (w.alloc (.cells #[.int .i64 a, .int .i64 b] 3)) fun e w' => e = .returned (.int .i64 (chk2 a b)) ∧ w.alloc (.cells #[.int .i64 a, .int .i64 b] 3) = w' :=
  fix_all2 a b _ _ (by simp) (by simp)

set_option maxHeartbeats 400000 in
theorem fix_Add (a b : Int) (w : World) :
    Calls Tryd.prog 20 #[.int .i64 a, .int .i64 b] w fun e w' => e = .returned (.tuple #[.int .i64 (add a b).1, .int .i64 (add a b).2]) ∧ Below w.heap.size w w' := by
  by_cases h : ok a ∧ ok b
  · obtain ⟨ha, hb⟩ := h
    have Hc := Lib.hid (chk2_ok ha hb)
    have Hr := Lib.hid (add_ok ha hb)
    unfold ok at ha hb
    go_enter Tryd.func20, Tryd.ntmps20
    go_wp2_with (first | (go_at_call 97; refine (fix_all2_new a b _).mono ?_; rintro e w' ⟨rfl, rfl⟩; rw [Hc.out]) | (go_at_call 98; refine (fix_told _ _).mono ?_; rintro e w' ⟨rfl, rfl⟩))
    go_ret2
    exact ⟨ret2 Hr.out, (Below.refl _ _).alloc (Nat.le_refl _) _⟩
  · have Hc := Lib.hid (chk2_bad h)
    have Hr := Lib.hid (add_bad h)
    clear h
    go_enter Tryd.func20, Tryd.ntmps20
    go_wp2_with (go_at_call 97; refine (fix_all2_new a b _).mono ?_; rintro e w' ⟨rfl, rfl⟩; rw [Hc.out])
    go_ret2
    exact ⟨ret2 Hr.out, (Below.refl _ _).alloc (Nat.le_refl _) _⟩

set_option maxHeartbeats 400000 in
theorem fix_Sub (a b : Int) (w : World) :
    Calls Tryd.prog 21 #[.int .i64 a, .int .i64 b] w fun e w' => e = .returned (.tuple #[.int .i64 (sub a b).1, .int .i64 (sub a b).2]) ∧ Below w.heap.size w w' := by
  by_cases h : ok a ∧ ok b
  · obtain ⟨ha, hb⟩ := h
    have Hc := Lib.hid (chk2_ok ha hb)
    have Hr := Lib.hid (sub_ok ha hb)
    unfold ok at ha hb
    go_enter Tryd.func21, Tryd.ntmps21
    go_wp2_with (first | (go_at_call 97; refine (fix_all2_new a b _).mono ?_; rintro e w' ⟨rfl, rfl⟩; rw [Hc.out]) | (go_at_call 98; refine (fix_told _ _).mono ?_; rintro e w' ⟨rfl, rfl⟩))
    go_ret2
    exact ⟨ret2 Hr.out, (Below.refl _ _).alloc (Nat.le_refl _) _⟩
  · have Hc := Lib.hid (chk2_bad h)
    have Hr := Lib.hid (sub_bad h)
    clear h
    go_enter Tryd.func21, Tryd.ntmps21
    go_wp2_with (go_at_call 97; refine (fix_all2_new a b _).mono ?_; rintro e w' ⟨rfl, rfl⟩; rw [Hc.out])
    go_ret2
    exact ⟨ret2 Hr.out, (Below.refl _ _).alloc (Nat.le_refl _) _⟩

set_option maxHeartbeats 400000 in
theorem fix_Neg (a : Int) (w : World) :
    Calls Tryd.prog 22 #[.int .i64 a] w fun e w' => e = .returned (.tuple #[.int .i64 (neg a).1, .int .i64 (neg a).2]) ∧ w = w' := by
  by_cases h : ok a
  · have Hc := Lib.hid (chk_ok h)
    have Hr := Lib.hid (neg_ok h)
    unfold ok at h
    go_enter Tryd.func22, Tryd.ntmps22
    go_wp2_with (go_at_call 26; refine (fix_Check _ _).mono ?_; rintro e w' ⟨rfl, rfl⟩; rw [Hc.out])
    go_ret2
    exact ⟨ret2 Hr.out, rfl⟩
  · have Hc := Lib.hid (chk_bad h)
    have Hr := Lib.hid (neg_bad h)
    clear h
    go_enter Tryd.func22, Tryd.ntmps22
    go_wp2_with (go_at_call 26; refine (fix_Check _ _).mono ?_; rintro e w' ⟨rfl, rfl⟩; rw [Hc.out])
    go_ret2
    exact ⟨ret2 Hr.out, rfl⟩

/-- The size of a number: what is left without its sign. -/
theorem fix_size (a : Int) (w : World) (h1 : -9223372036854775808 ≤ a) (h2 : a ≤ 9223372036854775807) :
    Calls Tryd.prog 111 #[.int .i64 a] w fun e w' => e = .returned (.int .u64 (a.natAbs : Int)) ∧ w = w' := by
  by_cases h : a < 0
  · go_enter Tryd.func111, Tryd.ntmps111
    go_wp2
    go_ret
    exact ⟨ret_int (by omega), rfl⟩
  · go_enter Tryd.func111, Tryd.ntmps111
    go_wp2
    go_ret
    exact ⟨ret_int (by omega), rfl⟩
end Go.Proofs.YtgfofilkpaelnaaDoor
