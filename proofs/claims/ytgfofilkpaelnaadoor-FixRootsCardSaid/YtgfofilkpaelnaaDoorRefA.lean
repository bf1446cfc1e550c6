/- Contracts of the reference of layer 1: Right, Check, told, Add, Sub, Neg, size, put, over, Div, quotient, DivDown, DivUp. -/
import Derived.Test.YtgfofilkpaelnaaDoorLawA
import Derived.Test.YtgfofilkpaelnaaDoorRefMath
namespace Go.Proofs.YtgfofilkpaelnaaDoor
open Go.RowKit Mnc

theorem ref1_Right (a : Int) (w : World) :
    Calls Tryd.prog 99 #[.int .i64 a] w fun e w' => e = .returned (.bool (decide (ok a))) ∧ w = w' := by
  by_cases h1 : -4503599627370496 ≤ a
  · by_cases h2 : a ≤ 4503599627370496
    · rw [decide_eq_true (show ok a by unfold ok; omega)]
      go_enter Tryd.func99, Tryd.ntmps99
      go_wp2
      go_ret
      exact ⟨rfl, rfl⟩
    · rw [decide_eq_false (show ¬ ok a by unfold ok; omega)]
      go_enter Tryd.func99, Tryd.ntmps99
      go_wp2
      go_ret
      exact ⟨rfl, rfl⟩
  · rw [decide_eq_false (show ¬ ok a by unfold ok; omega)]
    go_enter Tryd.func99, Tryd.ntmps99
    go_wp2
    go_ret
    exact ⟨rfl, rfl⟩

theorem ref1_Right_ok {a : Int} (h : ok a) (w : World) :
    Calls Tryd.prog 99 #[.int .i64 a] w fun e w' => e = .returned (.bool true) ∧ w = w' := by
  have := ref1_Right a w
  rw [decide_eq_true h] at this
  exact this
theorem ref1_Right_bad {a : Int} (h : ¬ ok a) (w : World) :
    Calls Tryd.prog 99 #[.int .i64 a] w fun e w' => e = .returned (.bool false) ∧ w = w' := by
  have := ref1_Right a w
  rw [decide_eq_false h] at this
  exact this

theorem ref1_Check (a : Int) (w : World) :
    Calls Tryd.prog 27 #[.int .i64 a] w fun e w' => e = .returned (.int .i64 (chk a)) ∧ w = w' := by
  by_cases h : ok a
  · have H := Lib.hid h
    rw [chk_ok h]
    clear h
    go_enter Tryd.func27, Tryd.ntmps27
    go_wp2_with (go_at_call 99; refine (ref1_Right_ok H.out _).mono ?_; rintro e w' ⟨rfl, rfl⟩)
    go_ret
    exact ⟨rfl, rfl⟩
  · have H := Lib.hid h
    rw [chk_bad h]
    clear h
    go_enter Tryd.func27, Tryd.ntmps27
    go_wp2_with (go_at_call 99; refine (ref1_Right_bad H.out _).mono ?_; rintro e w' ⟨rfl, rfl⟩)
    go_ret
    exact ⟨rfl, rfl⟩

theorem ref1_told (a : Int) (w : World) :
    Calls Tryd.prog 100 #[.int .i64 a, .bool true] w fun e w' => e = .returned (.tuple #[.int .i64 (fit a).1, .int .i64 (fit a).2]) ∧ w = w' := by
  by_cases h : ok a
  · have H := Lib.hid h
    rw [fit_ok h]
    clear h
    go_enter Tryd.func100, Tryd.ntmps100
    go_wp2_with (go_at_call 99; refine (ref1_Right_ok H.out _).mono ?_; rintro e w' ⟨rfl, rfl⟩)
    go_ret2
    exact ⟨rfl, rfl⟩
  · have H := Lib.hid h
    rw [fit_bad h]
    clear h
    go_enter Tryd.func100, Tryd.ntmps100
    go_wp2_with (go_at_call 99; refine (ref1_Right_bad H.out _).mono ?_; rintro e w' ⟨rfl, rfl⟩)
    go_ret2
    exact ⟨rfl, rfl⟩

theorem ref1_told_no (a : Int) (w : World) :
    Calls Tryd.prog 100 #[.int .i64 a, .bool false] w fun e w' => e = .returned (.tuple #[.int .i64 0, .int .i64 6]) ∧ w = w' := by
  go_enter Tryd.func100, Tryd.ntmps100
  go_wp2
  go_ret2
  exact ⟨rfl, rfl⟩

theorem ref1_told_fit (v : Int) (w : World) :
    Calls Tryd.prog 100 #[.int .i64 (fitB v).1, .bool (fitB v).2] w fun e w' => e = .returned (.tuple #[.int .i64 (fit v).1, .int .i64 (fit v).2]) ∧ w = w' := by
  by_cases h : ok v
  · rw [fitB_ok h]
    exact ref1_told v w
  · rw [fitB_bad h, fit_bad h]
    exact ref1_told_no 0 w

set_option maxHeartbeats 400000 in
theorem ref1_Add (a b : Int) (w : World) :
    Calls Tryd.prog 23 #[.int .i64 a, .int .i64 b] w fun e w' => e = .returned (.tuple #[.int .i64 (add a b).1, .int .i64 (add a b).2]) ∧ w = w' := by
  by_cases ha : ok a
  · have HA := Lib.hid ha
    by_cases hb : ok b
    · have HB := Lib.hid hb
      rw [add_ok ha hb]
      unfold ok at ha hb
      go_enter Tryd.func23, Tryd.ntmps23
      go_wp2_with fail
      refine (ref1_Right_ok HA.out _).mono ?_; rintro e w' ⟨rfl, rfl⟩
      go_wp2_with fail
      refine (ref1_Right_ok HB.out _).mono ?_; rintro e w' ⟨rfl, rfl⟩
      go_wp2_with fail
      refine (ref1_told _ _).mono ?_; rintro e w' ⟨rfl, rfl⟩
      go_wp2_with fail
      go_ret2
      exact ⟨rfl, rfl⟩
    · have HB := Lib.hid hb
      rw [add_bad (fun h => hb h.2)]
      clear ha hb
      go_enter Tryd.func23, Tryd.ntmps23
      go_wp2_with fail
      refine (ref1_Right_ok HA.out _).mono ?_; rintro e w' ⟨rfl, rfl⟩
      go_wp2_with fail
      refine (ref1_Right_bad HB.out _).mono ?_; rintro e w' ⟨rfl, rfl⟩
      go_wp2_with fail
      go_ret2
      exact ⟨rfl, rfl⟩
  · have HA := Lib.hid ha
    rw [add_bad (fun h => ha h.1)]
    clear ha
    go_enter Tryd.func23, Tryd.ntmps23
    go_wp2_with fail
    refine (ref1_Right_bad HA.out _).mono ?_; rintro e w' ⟨rfl, rfl⟩
    go_wp2_with fail
    go_ret2
    exact ⟨rfl, rfl⟩

set_option maxHeartbeats 400000 in
theorem ref1_Sub (a b : Int) (w : World) :
    Calls Tryd.prog 24 #[.int .i64 a, .int .i64 b] w fun e w' => e = .returned (.tuple #[.int .i64 (sub a b).1, .int .i64 (sub a b).2]) ∧ w = w' := by
  by_cases ha : ok a
  · have HA := Lib.hid ha
    by_cases hb : ok b
    · have HB := Lib.hid hb
      rw [sub_ok ha hb]
      unfold ok at ha hb
      go_enter Tryd.func24, Tryd.ntmps24
      go_wp2_with fail
      refine (ref1_Right_ok HA.out _).mono ?_; rintro e w' ⟨rfl, rfl⟩
      go_wp2_with fail
      refine (ref1_Right_ok HB.out _).mono ?_; rintro e w' ⟨rfl, rfl⟩
      go_wp2_with fail
      refine (ref1_told _ _).mono ?_; rintro e w' ⟨rfl, rfl⟩
      go_wp2_with fail
      go_ret2
      exact ⟨rfl, rfl⟩
    · have HB := Lib.hid hb
      rw [sub_bad (fun h => hb h.2)]
      clear ha hb
      go_enter Tryd.func24, Tryd.ntmps24
      go_wp2_with fail
      refine (ref1_Right_ok HA.out _).mono ?_; rintro e w' ⟨rfl, rfl⟩
      go_wp2_with fail
      refine (ref1_Right_bad HB.out _).mono ?_; rintro e w' ⟨rfl, rfl⟩
      go_wp2_with fail
      go_ret2
      exact ⟨rfl, rfl⟩
  · have HA := Lib.hid ha
    rw [sub_bad (fun h => ha h.1)]
    clear ha
    go_enter Tryd.func24, Tryd.ntmps24
    go_wp2_with fail
    refine (ref1_Right_bad HA.out _).mono ?_; rintro e w' ⟨rfl, rfl⟩
    go_wp2_with fail
    go_ret2
    exact ⟨rfl, rfl⟩

theorem ref1_Neg (a : Int) (w : World) :
    Calls Tryd.prog 25 #[.int .i64 a] w fun e w' => e = .returned (.tuple #[.int .i64 (neg a).1, .int .i64 (neg a).2]) ∧ w = w' := by
  by_cases ha : ok a
  · have HA := Lib.hid ha
    rw [neg_ok ha]
    unfold ok at ha
    go_enter Tryd.func25, Tryd.ntmps25
    go_wp2_with fail
    refine (ref1_Right_ok HA.out _).mono ?_; rintro e w' ⟨rfl, rfl⟩
    go_wp2_with fail
    go_ret2
    exact ⟨rfl, rfl⟩
  · have HA := Lib.hid ha
    rw [neg_bad ha]
    clear ha
    go_enter Tryd.func25, Tryd.ntmps25
    go_wp2_with fail
    refine (ref1_Right_bad HA.out _).mono ?_; rintro e w' ⟨rfl, rfl⟩
    go_wp2_with fail
    go_ret2
    exact ⟨rfl, rfl⟩

theorem ref1_size (a : Int) (w : World) (h1 : -9223372036854775808 ≤ a) (h2 : a ≤ 9223372036854775807) :
    Calls Tryd.prog 139 #[.int .i64 a] w fun e w' => e = .returned (.int .u64 (a.natAbs : Int)) ∧ w = w' := by
  by_cases h : a < 0
  · go_enter Tryd.func139, Tryd.ntmps139
    go_wp2
    go_ret
    exact ⟨ret_int (by omega), rfl⟩
  · go_enter Tryd.func139, Tryd.ntmps139
    go_wp2
    go_ret
    exact ⟨ret_int (by omega), rfl⟩

theorem ret_ib {k : IntKind} {a : Int} {b : Bool} {p : Int × Bool} (h : p = (a, b)) : Ending.returned (.tuple #[.int k a, .bool b]) = .returned (.tuple #[.int k p.1, .bool p.2]) := by rw [h]

theorem ref1_put (ng : Bool) (n : Nat) (rest up : Bool) (w : World) (hn : n ≤ 9223372036854775807) :
    Calls Tryd.prog 140 #[.bool ng, .int .u64 n, .bool rest, .bool up] w fun e w' => e = .returned (.tuple #[.int .i64 (putOf ng n rest up).1, .bool (putOf ng n rest up).2]) ∧ w = w' := by
  by_cases h0 : (rest && (up != ng)) = true
  · by_cases h : 4503599627370496 < n + 1
    · have hb : decide ((4503599627370496 : Int) < (n : Int) + 1) = true := by simp; omega
      have HR := Lib.hid (show putOf ng n rest up = (0, false) by unfold putOf; rw [if_pos h0, if_pos h])
      clear h
      cases rest <;> cases up <;> cases ng <;> first | (exfalso; revert h0; decide) | skip
      all_goals
        clear h0
        go_enter Tryd.func140, Tryd.ntmps140
        go_wp2
        go_ret2
        exact ⟨ret_ib HR.out, rfl⟩
    · have hb : decide ((4503599627370496 : Int) < (n : Int) + 1) = false := by simp; omega
      have HR := Lib.hid (show putOf ng n rest up = (if ng then -((n : Int) + 1) else ((n : Int) + 1), true) by unfold putOf; rw [if_pos h0, if_neg h]; push_cast; rfl)
      have hn2 : n ≤ 4503599627370495 := by omega
      clear h
      cases rest <;> cases up <;> cases ng <;> first | (exfalso; revert h0; decide) | skip
      all_goals
        clear h0
        go_enter Tryd.func140, Tryd.ntmps140
        go_wp2
        go_ret2
        exact ⟨ret_ib HR.out, rfl⟩
  · by_cases h : 4503599627370496 < n
    · have hb : decide ((4503599627370496 : Int) < (n : Int)) = true := by simp; omega
      have HR := Lib.hid (show putOf ng n rest up = (0, false) by unfold putOf; rw [if_neg h0, if_pos h])
      clear h
      cases rest <;> cases up <;> cases ng <;> first | (exfalso; revert h0; decide) | skip
      all_goals
        clear h0
        go_enter Tryd.func140, Tryd.ntmps140
        go_wp2
        go_ret2
        exact ⟨ret_ib HR.out, rfl⟩
    · have hb : decide ((4503599627370496 : Int) < (n : Int)) = false := by simp; omega
      have HR := Lib.hid (show putOf ng n rest up = (if ng then -(n : Int) else (n : Int), true) by unfold putOf; rw [if_neg h0, if_neg h])
      clear h
      cases rest <;> cases up <;> cases ng <;> first | (exfalso; revert h0; decide) | skip
      all_goals
        clear h0
        go_enter Tryd.func140, Tryd.ntmps140
        go_wp2
        go_ret2
        exact ⟨ret_ib HR.out, rfl⟩
end Go.Proofs.YtgfofilkpaelnaaDoor
