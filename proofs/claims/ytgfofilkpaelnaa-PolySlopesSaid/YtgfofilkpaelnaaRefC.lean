/- Contracts of the reference of layer 1: Div, quotient, DivDown, DivUp, Sqrt, SqrtDown, SqrtUp. -/
import Derived.Test.YtgfofilkpaelnaaRefB
import Derived.Test.YtgfofilkpaelnaaSpanMath
namespace Go.Proofs.Ytgfofilkpaelnaa
open Go.RowKit Mnc

theorem ovr_le (a n d : Nat) : (ovr a n d).1 ≤ 4503599627370496 := by
  unfold ovr; split
  · assumption
  · omega

theorem ref1_over_one (n d : Nat) (hn : n ≤ 9223372036854775808) (hd0 : 0 < d) (hd : d ≤ 4611686018427387904) (w : World) :
    Calls Try.prog 208 #[.int .u64 4294967296, .int .u64 n, .int .u64 d] w fun e w' => e = .returned (.tuple #[.int .u64 ((ovr 4294967296 n d).1 : Nat), .bool (ovr 4294967296 n d).2.1, .bool (ovr 4294967296 n d).2.2]) ∧ Below w.heap.size w w' := by
  have h := ref1_over 4294967296 n d (by omega) hn hd0 hd w
  rw [show ((4294967296 : Nat) : Int) = 4294967296 from rfl] at h
  exact h

theorem putOvr_dv (up : Bool) (a b : Int) (hz : ¬ b = 0) : putOvr (decide (a < 0) != decide (b < 0)) up 4294967296 a.natAbs b.natAbs = fitB (dv up a b) := by
  rw [putOvr_rnd _ _ _ _ _ (by omega), Nat.mul_comm, dv_sign]
  rfl

end Go.Proofs.Ytgfofilkpaelnaa
