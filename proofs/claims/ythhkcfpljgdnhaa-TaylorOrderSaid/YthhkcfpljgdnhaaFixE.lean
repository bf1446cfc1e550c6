/- Contracts: fix.quotient, fix.signed at each closure. Printed by wip/genE.py. -/
import Derived.Test.YthhkcfpljgdnhaaFixD
import Derived.Test.YthhkcfpljgdnhaaPl
import Derived.BigGuardPart
namespace Go.Proofs.Ythhkcfpljgdnhaa
open Go.RowKit Mnc

theorem ret_nb {k : IntKind} {a : Int} {b : Bool} {p : Nat × Bool} (h1 : (p.1 : Int) = a) (h2 : p.2 = b) : Ending.returned (.tuple #[.int k a, .bool b]) = .returned (.tuple #[.int k p.1, .bool p.2]) := by
  rw [h1, h2]

set_option maxRecDepth 100000 in
set_option maxHeartbeats 1000000 in
theorem fix_quotient (hi lo d : Nat) (away : Bool) (hl : lo < 18446744073709551616) (hd : d < 18446744073709551616) (w : World) :
    Calls Try.prog 99 #[.agg #[.int .u64 hi, .int .u64 lo], .int .u64 d, .bool away] w fun e w' => e = .returned (.tuple #[.int .u64 ((quo (hi * 18446744073709551616 + lo) d away).1 : Nat), .bool (quo (hi * 18446744073709551616 + lo) d away).2]) ∧ Below w.heap.size w w' := by
  by_cases hc : d ≤ hi
  · rw [quo_far hl hc away]
    have hb : (d : Int) ≤ (hi : Int) := by omega
    obtain ⟨D, hD⟩ : ∃ D : Int, D = (d : Int) := ⟨_, rfl⟩
    obtain ⟨HI, hHI⟩ : ∃ D : Int, D = (hi : Int) := ⟨_, rfl⟩
    rw [← hD, ← hHI] at hb
    rw [← hD, ← hHI]
    clear hc hl hd hD hHI
    have hb : decide (D ≤ HI) = true := by simp; omega
    generalize (.int .u64 (lo : Int) : Value) = LO
    go_enter Try.func99, Try.ntmps99
    go_wp2
    go_ret2
    exact ⟨rfl, (Below.refl _ _).alloc (Nat.le_refl _) _⟩
  · have hb : decide ((d : Int) ≤ (hi : Int)) = false := by simp; omega
    have hlt : hi < d := by omega
    clear hc
    obtain ⟨q, hq⟩ : ∃ q, q = (hi * 18446744073709551616 + lo) / d := ⟨_, rfl⟩
    obtain ⟨r, hr⟩ : ∃ r, r = (hi * 18446744073709551616 + lo) % d := ⟨_, rfl⟩
    have HQ := Lib.hid (quo_near hl hlt away)
    rw [← hq, ← hr] at HQ
    have hC := Lib.hid (fun W => bits_Div64 hi lo d hl hd hlt W)
    rw [← hq, ← hr] at hC
    have hqb : q < 18446744073709551616 := by rw [hq]; exact Nat.div_lt_of_lt_mul (by omega)
    have hlt := Lib.hid hlt
    clear hq hr
    cases away
    · go_enter Try.func99, Try.ntmps99
      go_wp2_with (go_at_call 111; refine (hC.out _).mono ?_; rintro e w' ⟨rfl, hbel⟩)
      go_ret2
      exact ⟨ret_nb (by rw [HQ.out]; rfl) (by rw [HQ.out]; rfl), ((Below.refl _ _).alloc (Nat.le_refl _) _).trans (hbel.mono (by simp))⟩
    · by_cases hz : r = 0
      · subst hz
        go_enter Try.func99, Try.ntmps99
        go_wp2_with (go_at_call 111; refine (hC.out _).mono ?_; rintro e w' ⟨rfl, hbel⟩)
        go_ret2
        exact ⟨ret_nb (by rw [HQ.out]; rfl) (by rw [HQ.out]; rfl), ((Below.refl _ _).alloc (Nat.le_refl _) _).trans (hbel.mono (by simp))⟩
      · have hb2 : decide ((0 : Int) < (r : Int)) = true := by simp; omega
        have hz := Lib.hid hz
        go_enter Try.func99, Try.ntmps99
        go_wp2_with (go_at_call 111; refine (hC.out _).mono ?_; rintro e w' ⟨rfl, hbel⟩)
        go_ret2
        exact ⟨ret_nb (by rw [HQ.out, if_pos (by simp [hz.out])]; exact quo_wrap q) (by rw [HQ.out, if_pos (by simp [hz.out])]), ((Below.refl _ _).alloc (Nat.le_refl _) _).trans (hbel.mono (by simp))⟩

end Go.Proofs.Ythhkcfpljgdnhaa
