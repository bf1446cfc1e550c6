/- Contracts of the reference of layer 2: Right, Check, result, Add, Sub, Neg, Min, Max, Hull, Meet, Abs, Of, Point, Has, Mid, Width, Sign. Printed by wip/genRS.py. -/
import Derived.Test.YthhkcfpljgdnhaaSpanX
import Derived.Test.YthhkcfpljgdnhaaRefX
import Derived.Deep.QuietTactic
import Derived.BigQuiet
namespace Go.Proofs.Ythhkcfpljgdnhaa
open Go.RowKit Mnc

set_option maxHeartbeats 400000 in
theorem ref2_Right (s : Int × Int) (w : World) :
    Calls Try.prog 87 #[.agg #[.int .i64 s.1, .int .i64 s.2]] w fun e w' => e = .returned (.bool (decide (okS s))) ∧ Below w.heap.size w w' := by
  obtain ⟨lo, hi⟩ := s
  by_cases h1 : ok lo
  · have H1 := Lib.hid h1
    by_cases h2 : ok hi
    · have H2 := Lib.hid h2
      by_cases h3 : lo ≤ hi
      · rw [show decide (okS (lo, hi)) = true from decide_eq_true (by unfold ok at h1 h2; unfold okS; simp only; omega)]
        clear h1 h2
        go_enter Try.func87, Try.ntmps87
        go_wp2_with fail
        refine (ref1_Right_ok H1.out _).mono ?_; rintro e w2 ⟨rfl, rfl⟩
        go_wp2_with fail
        refine (ref1_Right_ok H2.out _).mono ?_; rintro e w2 ⟨rfl, rfl⟩
        go_wp2_with fail
        go_ret
        exact ⟨rfl, below_alloc (Below.refl _ _) _⟩
      · rw [show decide (okS (lo, hi)) = false from decide_eq_false (by unfold okS; simp only; omega)]
        have h4 : decide (lo ≤ hi) = false := by simp; omega
        clear h1 h2 h3
        go_enter Try.func87, Try.ntmps87
        go_wp2_with fail
        refine (ref1_Right_ok H1.out _).mono ?_; rintro e w2 ⟨rfl, rfl⟩
        go_wp2_with fail
        refine (ref1_Right_ok H2.out _).mono ?_; rintro e w2 ⟨rfl, rfl⟩
        go_wp2_with fail
        go_ret
        exact ⟨rfl, below_alloc (Below.refl _ _) _⟩
    · have H2 := Lib.hid h2
      rw [show decide (okS (lo, hi)) = false from decide_eq_false (fun g => h2 g.hi)]
      clear h1 h2
      go_enter Try.func87, Try.ntmps87
      go_wp2_with fail
      refine (ref1_Right_ok H1.out _).mono ?_; rintro e w2 ⟨rfl, rfl⟩
      go_wp2_with fail
      refine (ref1_Right_bad H2.out _).mono ?_; rintro e w2 ⟨rfl, rfl⟩
      go_wp2_with fail
      go_ret
      exact ⟨rfl, below_alloc (Below.refl _ _) _⟩
  · have H1 := Lib.hid h1
    rw [show decide (okS (lo, hi)) = false from decide_eq_false (fun g => h1 g.lo)]
    clear h1
    go_enter Try.func87, Try.ntmps87
    go_wp2_with fail
    refine (ref1_Right_bad H1.out _).mono ?_; rintro e w2 ⟨rfl, rfl⟩
    go_wp2_with fail
    go_ret
    exact ⟨rfl, below_alloc (Below.refl _ _) _⟩
theorem ref2_Right_ok {s : Int × Int} (h : okS s) (w : World) :
    Calls Try.prog 87 #[.agg #[.int .i64 s.1, .int .i64 s.2]] w fun e w' => e = .returned (.bool true) ∧ Below w.heap.size w w' := by
  have := ref2_Right s w
  rw [decide_eq_true h] at this
  exact this
theorem ref2_Right_bad {s : Int × Int} (h : ¬ okS s) (w : World) :
    Calls Try.prog 87 #[.agg #[.int .i64 s.1, .int .i64 s.2]] w fun e w' => e = .returned (.bool false) ∧ Below w.heap.size w w' := by
  have := ref2_Right s w
  rw [decide_eq_false h] at this
  exact this
theorem ref2_Right_mk {x y : Int} (h : okS (x, y)) (w : World) :
    Calls Try.prog 87 #[.agg #[.int .i64 x, .int .i64 y]] w fun e w' => e = .returned (.bool true) ∧ Below w.heap.size w w' := ref2_Right_ok h w
theorem ref2_Right_no {x y : Int} (h : ¬ okS (x, y)) (w : World) :
    Calls Try.prog 87 #[.agg #[.int .i64 x, .int .i64 y]] w fun e w' => e = .returned (.bool false) ∧ Below w.heap.size w w' := ref2_Right_bad h w

theorem ref2_Check (s : Int × Int) (w : World) :
    Calls Try.prog 61 #[.agg #[.int .i64 s.1, .int .i64 s.2]] w fun e w' => e = .returned (.int .i64 (sChk s)) ∧ Below w.heap.size w w' := by
  by_cases h : okS s
  · have H := Lib.hid h
    rw [sChk_ok h]
    clear h
    go_enter Try.func61, Try.ntmps61
    go_wp2_with fail
    refine (ref2_Right_ok H.out _).mono ?_; rintro e w2 ⟨rfl, hbel⟩
    have hb := below_step (below_alloc (Below.refl _ _) _) hbel
    clear hbel
    go_wp2_with fail
    go_ret
    exact ⟨rfl, hb⟩
  · have H := Lib.hid h
    rw [sChk_bad h]
    clear h
    go_enter Try.func61, Try.ntmps61
    go_wp2_with fail
    refine (ref2_Right_bad H.out _).mono ?_; rintro e w2 ⟨rfl, hbel⟩
    have hb := below_step (below_alloc (Below.refl _ _) _) hbel
    clear hbel
    go_wp2_with fail
    go_ret
    exact ⟨rfl, hb⟩

/-- Where two blocks of one interval stand. -/
theorem two_start (w : World) (a b c d : Int) : Bx2 w ((w.alloc (.cells #[.int .i64 a, .int .i64 b] 25)).alloc (.cells #[.int .i64 c, .int .i64 d] 25)) (a, b) (c, d) := Bx2.start w (a, b) (c, d)

end Go.Proofs.Ythhkcfpljgdnhaa

/- Contracts of the reference of layer 2: four. -/
namespace Mnc
open Go
def mnK (a b c d : Int) : Nat → Int
  | 2 => min a b
  | 3 => min (min a b) c
  | 4 => min (min (min a b) c) d
  | _ => a
def mxK (a b c d : Int) : Nat → Int
  | 2 => max a b
  | 3 => max (max a b) c
  | 4 => max (max (max a b) c) d
  | _ => a
theorem mnK4 (a b c d : Int) : min (min (min a b) c) d = min4 a b c d := by unfold min4; omega
theorem mxK4 (a b c d : Int) : max (max (max a b) c) d = max4 a b c d := by unfold max4; omega
end Mnc
namespace Go.Proofs.Ythhkcfpljgdnhaa
open Go.RowKit Mnc

theorem below_drewN {B : Nat} {a w : World} (h : Below B a w) (n : Nat) : Below B a (w.drewN n) := ⟨h.os, h.tape, h.output, h.size, h.block⟩

end Go.Proofs.Ythhkcfpljgdnhaa

/- Contracts of the drafts of intervals: Small, Span. -/
namespace Mnc
open Go
/-- The lower end of a draft. -/
def dLo (at_ : Int) (k : Nat) : Int := at_.tmod (2 ^ k + 1)
theorem dLo_bd (at_ : Int) (k : Nat) : -(2 ^ k : Int) ≤ dLo at_ k ∧ dLo at_ k ≤ 2 ^ k := by
  have hp : (0 : Int) < 2 ^ k := Int.pow_pos (by decide)
  have h1 := Int.tmod_lt_of_pos at_ (b := 2 ^ k + 1) (by omega)
  have h2 := Int.tmod_lt_of_pos (-at_) (b := 2 ^ k + 1) (by omega)
  rw [Int.neg_tmod] at h2
  unfold dLo
  omega
theorem pow_le {k m : Nat} (h : k ≤ m) : (2 ^ k : Int) ≤ 2 ^ m := by
  have := Nat.pow_le_pow_right (show 0 < 2 by decide) h
  exact_mod_cast this
def dSmall (at_ bits wide : Int) : Int × Int := (dLo at_ (bits % 37).toNat, dLo at_ (bits % 37).toNat + wide / 2 ^ (bits % 32).toNat)
def dSpan (at_ bits wide : Int) : Int × Int := (dLo at_ (bits % 52).toNat, min (dLo at_ (bits % 52).toNat + wide) 4503599627370496)
theorem dSmall_sml (a b c : Int) (hc : 0 ≤ c ∧ c < 4294967296) : okS (dSmall a b c) ∧ -68719476736 ≤ (dSmall a b c).1 ∧ (dSmall a b c).1 ≤ 68719476736 ∧ (dSmall a b c).2 ≤ 73014444031 := by
  have h := dLo_bd a (b % 37).toNat
  have hk : (b % 37).toNat ≤ 36 := by omega
  have hp := pow_le hk
  have h36 : (2 ^ 36 : Int) = 68719476736 := by decide
  have hq : 0 ≤ c / 2 ^ (b % 32).toNat ∧ c / 2 ^ (b % 32).toNat ≤ c := ⟨Int.ediv_nonneg hc.1 (Int.le_of_lt (Int.pow_pos (by decide))), Int.ediv_le_self _ hc.1⟩
  unfold dSmall okS
  simp only
  omega
theorem dSpan_okS (a b c : Int) (hc : 0 ≤ c ∧ c < 4294967296) : okS (dSpan a b c) := by
  have h := dLo_bd a (b % 52).toNat
  have hk : (b % 52).toNat ≤ 51 := by omega
  have hp := pow_le hk
  have h51 : (2 ^ 51 : Int) = 2251799813685248 := by decide
  unfold dSpan okS
  simp only
  omega
end Mnc
namespace Go.Proofs.Ythhkcfpljgdnhaa
open Go.RowKit Mnc

theorem wrap_small {p : Int} (h : 0 ≤ p ∧ p < 9223372036854775808) : wrap64 p = p := by
  unfold wrap64
  omega

end Go.Proofs.Ythhkcfpljgdnhaa
