/- Plain: intervals times a fraction. No program here. -/
import Derived.Test.YtgfofilkpaelnaaSpanMath
namespace Mnc
open Go

/-- Scaled by a fraction whose numerator is not negative. -/
def sclC (s : Int × Int) (n d : Int) : (Int × Int) × Int := if (scl false s.1 n d).2 = 0 ∧ (scl true s.2 n d).2 = 0 then (((scl false s.1 n d).1, (scl true s.2 n d).1), 0) else ((0, 0), max (scl false s.1 n d).2 (scl true s.2 n d).2)
def sScl (s : Int × Int) (n d : Int) : (Int × Int) × Int := if okS s then (if n < 0 then (if n < -4611686018427387904 then ((0, 0), 2) else sclC (-s.2, -s.1) (-n) d) else sclC s n d) else ((0, 0), 20)

end Mnc
