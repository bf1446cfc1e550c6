/- Plain: the root of a number by its bits: so that the kernel can reckon closed roots. No program here. -/
import Derived.Test.YthhkcfpljgdnhaaPl
namespace Mnc
open Go
/-- The root, bit by bit. -/
def bsq (n : Nat) : Nat → Nat → Nat
  | 0, r => r
  | k + 1, r => if (r + 2 ^ k) * (r + 2 ^ k) ≤ n then bsq n k (r + 2 ^ k) else bsq n k r
theorem bsq_eq {n : Nat} : ∀ (k r : Nat), r * r ≤ n → n < (r + 2 ^ k) * (r + 2 ^ k) → isq n = bsq n k r
  | 0, r, h1, h2 => isq_eq h1 (by rw [Nat.pow_zero] at h2; exact h2)
  | k + 1, r, h1, h2 => by
    unfold bsq
    split
    · rename_i h
      refine bsq_eq k _ h ?_
      rw [Nat.pow_succ] at h2
      rw [show r + 2 ^ k + 2 ^ k = r + 2 ^ k * 2 by omega]
      exact h2
    · rename_i h
      exact bsq_eq k _ h1 (by omega)
theorem isq_fast {n : Nat} (h : n < 2 ^ 86) : isq n = bsq n 43 0 := bsq_eq 43 0 (by omega) (by
  rw [Nat.zero_add, ← Nat.pow_add]
  exact h)
def rtOfF (up : Bool) (n : Nat) : Nat := if up = true ∧ ¬ bsq n 43 0 * bsq n 43 0 = n then bsq n 43 0 + 1 else bsq n 43 0
def rtF (up : Bool) (a : Int) : Int × Int := if ok a ∧ 0 ≤ a then (((rtOfF up (a.toNat * 4294967296) : Nat) : Int), 0) else (0, 2)
theorem rt_fast (up : Bool) (a : Int) : rt up a = rtF up a := by
  unfold rt rtF
  split
  · rename_i h
    have hb : a.toNat * 4294967296 < 2 ^ 86 := by
      have := h.1
      unfold ok at this
      have e : (2 : Nat) ^ 86 = 77371252455336267181195264 := by decide
      omega
    unfold rtOf rtOfF
    rw [isq_fast hb]
  · rfl
def sSqrtF : Int × Int → (Int × Int) × Int := on1 fun a => if a.1 < 0 then ((0, 0), 2) else (((rtF false a.1).1, (rtF true a.2).1), 0)
theorem sSqrt_fast : sSqrt = sSqrtF := by
  unfold sSqrt sSqrtF
  simp only [rt_fast]
end Mnc
