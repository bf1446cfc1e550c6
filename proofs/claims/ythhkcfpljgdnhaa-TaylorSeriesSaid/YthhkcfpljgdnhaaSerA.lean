/- Plain: what TaylorSeries computes, t from -8 to 8. Printed by wip/genSer.py. -/
import Derived.Test.YthhkcfpljgdnhaaTayV
import Derived.Test.YthhkcfpljgdnhaaTayEv
import Derived.Test.YthhkcfpljgdnhaaRootFast
namespace Mnc
/-- The square root with roots by their bits. -/
def tSqrtF (a : List (Int × Int)) : List (Int × Int) × Int :=
  if (tAt a 0).1 ≤ 0 then ([], 7) else
  thenE [] (tRelative a) fun r => if r.2.2.1 ≤ 0 then ([], 7) else
    thenE [] (tSeries r.1 [-167772160, 268435456, -536870912, 2147483648, 4294967296] (zeroM.set 0 (117440512, 117440512))) fun m =>
      thenE [] (sPow r.2.2 5) fun f => thenE [] (sSqrtF r.2.2) fun q => thenE [] (sMul f q) fun t => thenE [] (sPow r.2.1 6) fun six => thenE [] (sDiv six t) fun d =>
        thenE [] (sMul (-88080384, -88080384) d) fun g => thenE [] (sAdd (tAt m 21) g) fun z => thenE [] (sSqrtF (tAt a 0)) fun c => tBy sMul (m.set 21 z) c
theorem tSqrt_fast (a : List (Int × Int)) : tSqrt a = tSqrtF a := by
  unfold tSqrt tSqrtF
  rw [sSqrt_fast]
/-- The powers of t / 16, and the coefficients of the root. -/
def pwT (t : Int) : Nat → Int
  | 0 => 4294967296
  | n + 1 => (pwT t n * t).tdiv 16
def biT (n : Nat) : Int := [256, 128, -32, 16, -10, 7].getD n 0
end Mnc
namespace Go.Proofs.Ythhkcfpljgdnhaa
open Mnc
def xSqrtF (a : List (Int × Int)) : List (Int × Int) × Int := (orZ zeroM (thenE [] (tRight a) fun _ => tSqrtF a), (thenE [] (tRight a) fun _ => tSqrtF a).2)
theorem xSqrt_fast (a : List (Int × Int)) : xSqrt a = xSqrtF a := by
  unfold xSqrt xSqrtF
  simp only [tSqrt_fast]
/-- What the walk asks of the values. -/
structure Ser (t : Int) (A B : List (Int × Int)) (e w l s : Int × Int) : Prop where
  hA : xInverse (tLine (-t)) = (A, 0)
  hB : xSqrt (tLine t) = (B, 0)
  lA : A.length = 22
  lB : B.length = 22
  rA : (tRight A).2 = 0
  rB : (tRight B).2 = 0
  n : ∀ n : Fin 6, (tAt A (n.1 * (n.1 + 1) / 2 + n.1)).1 ≤ pwT t n.1 ∧ pwT t n.1 ≤ (tAt A (n.1 * (n.1 + 1) / 2 + n.1)).2 ∧ (tAt B (n.1 * (n.1 + 1) / 2 + n.1)).1 ≤ (biT n.1 * pwT t n.1).tdiv 256 ∧ (biT n.1 * pwT t n.1).tdiv 256 ≤ (tAt B (n.1 * (n.1 + 1) / 2 + n.1)).2 ∧ -4294967296 ≤ pwT t n.1 ∧ pwT t n.1 ≤ 4294967296
  hE : tEval A (4294967296, 4294967296) (0, 0) = (e, 0)
  hW : sMul e (4294967296 - t * 268435456, 4294967296 - t * 268435456) = (w, 0)
  w0 : w.1 ≤ 4294967296
  w1 : 4294967296 ≤ w.2
  hL : tEval B (-4294967296, -4294967296) (0, 0) = (l, 0)
  hS : sPow l 2 = (s, 0)
  s0 : s.1 ≤ 4294967296 - t * 268435456
  s1 : 4294967296 - t * 268435456 ≤ s.2
end Go.Proofs.Ythhkcfpljgdnhaa
