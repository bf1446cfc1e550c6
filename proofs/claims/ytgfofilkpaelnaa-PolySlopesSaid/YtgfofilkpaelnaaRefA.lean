/- Contracts of the reference of layer 1: Right, Check, told, Add, Sub, Neg, size, put, over, Div, quotient, DivDown, DivUp. -/
import Derived.Test.YtgfofilkpaelnaaFixT
import Derived.Test.YtgfofilkpaelnaaRefMath
namespace Go.Proofs.Ytgfofilkpaelnaa
open Go.RowKit Mnc

theorem ref1_Right (a : Int) (w : World) :
    Calls Try.prog 179 #[.int .i64 a] w fun e w' => e = .returned (.bool (decide (ok a))) ∧ w = w' := by
  by_cases h1 : -4503599627370496 ≤ a
  · by_cases h2 : a ≤ 4503599627370496
    · rw [decide_eq_true (show ok a by unfold ok; omega)]
      go_enter Try.func179, Try.ntmps179
      go_wp2
      go_ret
      exact ⟨rfl, rfl⟩
    · rw [decide_eq_false (show ¬ ok a by unfold ok; omega)]
      go_enter Try.func179, Try.ntmps179
      go_wp2
      go_ret
      exact ⟨rfl, rfl⟩
  · rw [decide_eq_false (show ¬ ok a by unfold ok; omega)]
    go_enter Try.func179, Try.ntmps179
    go_wp2
    go_ret
    exact ⟨rfl, rfl⟩

theorem ref1_Right_ok {a : Int} (h : ok a) (w : World) :
    Calls Try.prog 179 #[.int .i64 a] w fun e w' => e = .returned (.bool true) ∧ w = w' := by
  have := ref1_Right a w
  rw [decide_eq_true h] at this
  exact this
theorem ref1_Right_bad {a : Int} (h : ¬ ok a) (w : World) :
    Calls Try.prog 179 #[.int .i64 a] w fun e w' => e = .returned (.bool false) ∧ w = w' := by
  have := ref1_Right a w
  rw [decide_eq_false h] at this
  exact this

theorem ref1_told (a : Int) (w : World) :
    Calls Try.prog 198 #[.int .i64 a, .bool true] w fun e w' => e = .returned (.tuple #[.int .i64 (fit a).1, .int .i64 (fit a).2]) ∧ w = w' := by
  by_cases h : ok a
  · have H := Lib.hid h
    rw [fit_ok h]
    clear h
    go_enter Try.func198, Try.ntmps198
    go_wp2_with (go_at_call 179; refine (ref1_Right_ok H.out _).mono ?_; rintro e w' ⟨rfl, rfl⟩)
    go_ret2
    exact ⟨rfl, rfl⟩
  · have H := Lib.hid h
    rw [fit_bad h]
    clear h
    go_enter Try.func198, Try.ntmps198
    go_wp2_with (go_at_call 179; refine (ref1_Right_bad H.out _).mono ?_; rintro e w' ⟨rfl, rfl⟩)
    go_ret2
    exact ⟨rfl, rfl⟩

theorem ref1_told_no (a : Int) (w : World) :
    Calls Try.prog 198 #[.int .i64 a, .bool false] w fun e w' => e = .returned (.tuple #[.int .i64 0, .int .i64 6]) ∧ w = w' := by
  go_enter Try.func198, Try.ntmps198
  go_wp2
  go_ret2
  exact ⟨rfl, rfl⟩

theorem ref1_told_fit (v : Int) (w : World) :
    Calls Try.prog 198 #[.int .i64 (fitB v).1, .bool (fitB v).2] w fun e w' => e = .returned (.tuple #[.int .i64 (fit v).1, .int .i64 (fit v).2]) ∧ w = w' := by
  by_cases h : ok v
  · rw [fitB_ok h]
    exact ref1_told v w
  · rw [fitB_bad h, fit_bad h]
    exact ref1_told_no 0 w

theorem ref1_size (a : Int) (w : World) (h1 : -9223372036854775808 ≤ a) (h2 : a ≤ 9223372036854775807) :
    Calls Try.prog 180 #[.int .i64 a] w fun e w' => e = .returned (.int .u64 (a.natAbs : Int)) ∧ w = w' := by
  by_cases h : a < 0
  · go_enter Try.func180, Try.ntmps180
    go_wp2
    go_ret
    exact ⟨ret_int (by omega), rfl⟩
  · go_enter Try.func180, Try.ntmps180
    go_wp2
    go_ret
    exact ⟨ret_int (by omega), rfl⟩

theorem ret_ib {k : IntKind} {a : Int} {b : Bool} {p : Int × Bool} (h : p = (a, b)) : Ending.returned (.tuple #[.int k a, .bool b]) = .returned (.tuple #[.int k p.1, .bool p.2]) := by rw [h]

theorem ref1_put (ng : Bool) (n : Nat) (rest up : Bool) (w : World) (hn : n ≤ 9223372036854775807) :
    Calls Try.prog 181 #[.bool ng, .int .u64 n, .bool rest, .bool up] w fun e w' => e = .returned (.tuple #[.int .i64 (putOf ng n rest up).1, .bool (putOf ng n rest up).2]) ∧ w = w' := by
  by_cases h0 : (rest && (up != ng)) = true
  · by_cases h : 4503599627370496 < n + 1
    · have hb : decide ((4503599627370496 : Int) < (n : Int) + 1) = true := by simp; omega
      have HR := Lib.hid (show putOf ng n rest up = (0, false) by unfold putOf; rw [if_pos h0, if_pos h])
      clear h
      cases rest <;> cases up <;> cases ng <;> first | (exfalso; revert h0; decide) | skip
      all_goals
        clear h0
        go_enter Try.func181, Try.ntmps181
        go_wp2
        go_ret2
        exact ⟨ret_ib HR.out, rfl⟩
    · have hb : decide ((4503599627370496 : Int) < (n : Int) + 1) = false := by simp; omega
      have HR := Lib.hid (show putOf ng n rest up = (if ng then -((n : Int) + 1) else ((n : Int) + 1), true) by unfold putOf; rw [if_pos h0, if_neg h]; push_cast; rfl)
      have hn2 : n ≤ 4503599627370495 := by omega
      clear h
      cases rest <;> cases up <;> cases ng <;> first | (exfalso; revert h0; decide) | skip
      all_goals
        clear h0
        go_enter Try.func181, Try.ntmps181
        go_wp2
        go_ret2
        exact ⟨ret_ib HR.out, rfl⟩
  · by_cases h : 4503599627370496 < n
    · have hb : decide ((4503599627370496 : Int) < (n : Int)) = true := by simp; omega
      have HR := Lib.hid (show putOf ng n rest up = (0, false) by unfold putOf; rw [if_neg h0, if_pos h])
      clear h
      cases rest <;> cases up <;> cases ng <;> first | (exfalso; revert h0; decide) | skip
      all_goals
        clear h0
        go_enter Try.func181, Try.ntmps181
        go_wp2
        go_ret2
        exact ⟨ret_ib HR.out, rfl⟩
    · have hb : decide ((4503599627370496 : Int) < (n : Int)) = false := by simp; omega
      have HR := Lib.hid (show putOf ng n rest up = (if ng then -(n : Int) else (n : Int), true) by unfold putOf; rw [if_neg h0, if_neg h])
      clear h
      cases rest <;> cases up <;> cases ng <;> first | (exfalso; revert h0; decide) | skip
      all_goals
        clear h0
        go_enter Try.func181, Try.ntmps181
        go_wp2
        go_ret2
        exact ⟨ret_ib HR.out, rfl⟩
end Go.Proofs.Ytgfofilkpaelnaa
