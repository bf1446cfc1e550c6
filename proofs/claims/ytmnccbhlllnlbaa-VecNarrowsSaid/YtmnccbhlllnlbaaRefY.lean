/- Contracts of the reference of layer 2: Right, Check, result, Add, Sub, Neg, Min, Max, Hull, Meet, Abs, Of, Point, Has, Mid, Width, Sign. Printed by wip/genRS.py. -/
import Derived.Test.YtmnccbhlllnlbaaSpanX
import Derived.Test.YtmnccbhlllnlbaaRefX
import Derived.Deep.QuietTactic
import Derived.BigQuiet
namespace Go.Proofs.Ytmnccbhlllnlbaa
open Go.RowKit Mnc

/-- Where two blocks of one interval stand. -/
theorem two_start (w : World) (a b c d : Int) : Bx2 w ((w.alloc (.cells #[.int .i64 a, .int .i64 b] 23)).alloc (.cells #[.int .i64 c, .int .i64 d] 23)) (a, b) (c, d) := Bx2.start w (a, b) (c, d)

end Go.Proofs.Ytmnccbhlllnlbaa

/- Contracts of the reference of layer 2: four. -/
namespace Mnc
open Go
def mnK (a b c d : Int) : Nat → Int
  | 2 => min a b
  | 3 => min (min a b) c
  | 4 => min (min (min a b) c) d
  | _ => a
def mxK (a b c d : Int) : Nat → Int
  | 2 => max a b
  | 3 => max (max a b) c
  | 4 => max (max (max a b) c) d
  | _ => a
theorem mnK4 (a b c d : Int) : min (min (min a b) c) d = min4 a b c d := by unfold min4; omega
theorem mxK4 (a b c d : Int) : max (max (max a b) c) d = max4 a b c d := by unfold max4; omega
end Mnc
namespace Go.Proofs.Ytmnccbhlllnlbaa
open Go.RowKit Mnc

theorem below_drewN {B : Nat} {a w : World} (h : Below B a w) (n : Nat) : Below B a (w.drewN n) := ⟨h.os, h.tape, h.output, h.size, h.block⟩

end Go.Proofs.Ytmnccbhlllnlbaa

/- Contracts of the drafts of intervals: Small, Span. -/
namespace Mnc
open Go
/-- The lower end of a draft. -/
def dLo (at_ : Int) (k : Nat) : Int := at_.tmod (2 ^ k + 1)
theorem dLo_bd (at_ : Int) (k : Nat) : -(2 ^ k : Int) ≤ dLo at_ k ∧ dLo at_ k ≤ 2 ^ k := by
  have hp : (0 : Int) < 2 ^ k := Int.pow_pos (by decide)
  have h1 := Int.tmod_lt_of_pos at_ (b := 2 ^ k + 1) (by omega)
  have h2 := Int.tmod_lt_of_pos (-at_) (b := 2 ^ k + 1) (by omega)
  rw [Int.neg_tmod] at h2
  unfold dLo
  omega
theorem pow_le {k m : Nat} (h : k ≤ m) : (2 ^ k : Int) ≤ 2 ^ m := by
  have := Nat.pow_le_pow_right (show 0 < 2 by decide) h
  exact_mod_cast this
def dSmall (at_ bits wide : Int) : Int × Int := (dLo at_ (bits % 37).toNat, dLo at_ (bits % 37).toNat + wide / 2 ^ (bits % 32).toNat)
def dSpan (at_ bits wide : Int) : Int × Int := (dLo at_ (bits % 52).toNat, min (dLo at_ (bits % 52).toNat + wide) 4503599627370496)
theorem dSmall_sml (a b c : Int) (hc : 0 ≤ c ∧ c < 4294967296) : okS (dSmall a b c) ∧ -68719476736 ≤ (dSmall a b c).1 ∧ (dSmall a b c).1 ≤ 68719476736 ∧ (dSmall a b c).2 ≤ 73014444031 := by
  have h := dLo_bd a (b % 37).toNat
  have hk : (b % 37).toNat ≤ 36 := by omega
  have hp := pow_le hk
  have h36 : (2 ^ 36 : Int) = 68719476736 := by decide
  have hq : 0 ≤ c / 2 ^ (b % 32).toNat ∧ c / 2 ^ (b % 32).toNat ≤ c := ⟨Int.ediv_nonneg hc.1 (Int.le_of_lt (Int.pow_pos (by decide))), Int.ediv_le_self _ hc.1⟩
  unfold dSmall okS
  simp only
  omega
theorem dSpan_okS (a b c : Int) (hc : 0 ≤ c ∧ c < 4294967296) : okS (dSpan a b c) := by
  have h := dLo_bd a (b % 52).toNat
  have hk : (b % 52).toNat ≤ 51 := by omega
  have hp := pow_le hk
  have h51 : (2 ^ 51 : Int) = 2251799813685248 := by decide
  unfold dSpan okS
  simp only
  omega
end Mnc
namespace Go.Proofs.Ytmnccbhlllnlbaa
open Go.RowKit Mnc

theorem wrap_small {p : Int} (h : 0 ≤ p ∧ p < 9223372036854775808) : wrap64 p = p := by
  unfold wrap64
  omega

set_option maxHeartbeats 1000000 in
theorem draft_Small (a b c : Int) (hb : 0 ≤ b ∧ b < 256) (hc : 0 ≤ c ∧ c < 4294967296) (w : World) :
    Calls Try.prog 50 #[.agg #[.int .i64 a, .int .u8 b, .int .u32 c]] w fun e w' => e = .returned (.agg #[.int .i64 (dSmall a b c).1, .int .i64 (dSmall a b c).2]) ∧ Below w.heap.size w w' := by
  have hL := dLo_bd a (b % 37).toNat
  have hk : (b % 37).toNat ≤ 36 := by omega
  have hp := pow_le hk
  have h36 : (2 ^ 36 : Int) = 68719476736 := by decide
  have hp0 : (0 : Int) < 2 ^ (b % 37).toNat := Int.pow_pos (by decide)
  have hq : 0 ≤ c / 2 ^ (b % 32).toNat ∧ c / 2 ^ (b % 32).toNat ≤ c := ⟨Int.ediv_nonneg hc.1 (Int.le_of_lt (Int.pow_pos (by decide))), Int.ediv_le_self _ hc.1⟩
  have HV : Hid (dSmall a b c = (dLo a (b % 37).toNat, dLo a (b % 37).toNat + c / 2 ^ (b % 32).toNat)) := Lib.hid rfl
  have hT : a.tmod (2 ^ (b % 37).toNat + 1) = dLo a (b % 37).toNat := rfl
  generalize dLo a (b % 37).toNat = lo at *
  obtain ⟨q, hQ⟩ : ∃ q, c / 2 ^ (b % 32).toNat = q := ⟨_, rfl⟩
  rw [hQ] at HV hq
  obtain ⟨p, hP⟩ : ∃ p : Int, 2 ^ (b % 37).toNat = p := ⟨_, rfl⟩
  rw [hP] at hT hL hp hp0
  rw [h36] at hp
  have hW : wrap64 p = p := wrap_small ⟨by omega, by omega⟩
  obtain ⟨b1, b2⟩ := hb
  obtain ⟨c1, c2⟩ := hc
  obtain ⟨l1, l2⟩ := hL
  obtain ⟨q1, q2⟩ := hq
  clear hk h36
  go_enter Try.func50, Try.ntmps50
  go_wp2
  exact bodyPost_ret (v := .agg #[.int .i64 lo, .int .i64 (lo + q)]) (by simp [results, Try.results50, go_sem]) rfl ⟨by rw [HV.out], below_alloc (below_alloc (Below.refl _ _) _) _⟩

set_option maxHeartbeats 1000000 in
theorem draft_Span (a b c : Int) (hb : 0 ≤ b ∧ b < 256) (hc : 0 ≤ c ∧ c < 4294967296) (w : World) :
    Calls Try.prog 49 #[.agg #[.int .i64 a, .int .u8 b, .int .u32 c]] w fun e w' => e = .returned (.agg #[.int .i64 (dSpan a b c).1, .int .i64 (dSpan a b c).2]) ∧ Below w.heap.size w w' := by
  have hL := dLo_bd a (b % 52).toNat
  have hk : (b % 52).toNat ≤ 51 := by omega
  have hp := pow_le hk
  have h36 : (2 ^ 51 : Int) = 2251799813685248 := by decide
  have hp0 : (0 : Int) < 2 ^ (b % 52).toNat := Int.pow_pos (by decide)
  have HV : Hid (dSpan a b c = (dLo a (b % 52).toNat, min (dLo a (b % 52).toNat + c) 4503599627370496)) := Lib.hid rfl
  have hT : a.tmod (2 ^ (b % 52).toNat + 1) = dLo a (b % 52).toNat := rfl
  generalize dLo a (b % 52).toNat = lo at *
  obtain ⟨p, hP⟩ : ∃ p : Int, 2 ^ (b % 52).toNat = p := ⟨_, rfl⟩
  rw [hP] at hT hL hp hp0
  rw [h36] at hp
  have hW : wrap64 p = p := wrap_small ⟨by omega, by omega⟩
  obtain ⟨b1, b2⟩ := hb
  obtain ⟨c1, c2⟩ := hc
  obtain ⟨l1, l2⟩ := hL
  clear hk h36
  go_enter Try.func49, Try.ntmps49
  go_wp2
  exact bodyPost_ret (v := .agg #[.int .i64 lo, .int .i64 (min (lo + c) 4503599627370496)]) (by simp [results, Try.results49, go_sem]) rfl ⟨by rw [HV.out], below_alloc (below_alloc (Below.refl _ _) _) _⟩
end Go.Proofs.Ytmnccbhlllnlbaa
