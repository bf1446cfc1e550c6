/- Contracts: fix.signed at each closure. Printed by wip/genE.py. -/
import Derived.Test.YthhkcfpljgdnhaaGreatFixX
import Derived.Test.YthhkcfpljgdnhaaGreatPl
import Derived.BigGuardPart
namespace Go.Proofs.YthhkcfpljgdnhaaGreat
open Go.RowKit Mnc


set_option maxHeartbeats 1000000 in
theorem fix_signed_mul (neg up : Bool) (p0 p1 : Value) (q : Nat × Bool) (hq : q.1 < 18446744073709551616) (w : World) (hg : Calls Tryz.prog 122 #[.bool (up != neg), p0, p1] w fun e w' => e = .returned (.tuple #[.int .u64 (q.1 : Nat), .bool q.2]) ∧ Below w.heap.size w w') :
  Calls Tryz.prog 113 #[.bool neg, .bool up, .func (.func 122) #[] #[p0, p1]] w fun e w' => e = .returned (.tuple #[.int .i64 (sgn neg q).1, .int .i64 (sgn neg q).2]) ∧ Below w.heap.size w w' := by
 obtain ⟨q, f⟩ := q
 have hg := Lib.hid hg
 simp only at hq
 cases f
 ·have HS := Lib.hid (sgn_false neg q)
  cases up <;> cases neg <;> (
   go_enter Tryz.func113, Tryz.ntmps113
   go_wp2_with (go_at_call 122; refine (hg.out).mono ?_; rintro e w' ⟨rfl, hbel⟩)
   go_ret2
   exact ⟨ret2 HS.out, hbel⟩)
 ·by_cases hc : 4503599627370496 < q
  ·have hb : decide ((4503599627370496 : Int) < (q : Int)) = true := by simp; omega
   have HS := Lib.hid (sgn_far (f := true) neg hc)
   clear hc
   cases up <;> cases neg <;> (
    go_enter Tryz.func113, Tryz.ntmps113
    go_wp2_with (go_at_call 122; refine (hg.out).mono ?_; rintro e w' ⟨rfl, hbel⟩)
    go_ret2
    exact ⟨ret2 HS.out, hbel⟩)
  ·have hb : decide ((4503599627370496 : Int) < (q : Int)) = false := by simp; omega
   have hqs : q ≤ 4503599627370496 := by omega
   have HS := Lib.hid (sgn_near neg (by omega : q ≤ 4503599627370496))
   clear hc
   cases up <;> cases neg <;> (
    go_enter Tryz.func113, Tryz.ntmps113
    go_wp2_with (go_at_call 122; refine (hg.out).mono ?_; rintro e w' ⟨rfl, hbel⟩)
    go_ret2
    exact ⟨ret2 HS.out, hbel⟩)

set_option maxHeartbeats 1000000 in
theorem fix_signed_div (neg up : Bool) (p0 p1 : Value) (q : Nat × Bool) (hq : q.1 < 18446744073709551616) (w : World) (hg : Calls Tryz.prog 114 #[.bool (up != neg), p0, p1] w fun e w' => e = .returned (.tuple #[.int .u64 (q.1 : Nat), .bool q.2]) ∧ Below w.heap.size w w') :
  Calls Tryz.prog 113 #[.bool neg, .bool up, .func (.func 114) #[] #[p0, p1]] w fun e w' => e = .returned (.tuple #[.int .i64 (sgn neg q).1, .int .i64 (sgn neg q).2]) ∧ Below w.heap.size w w' := by
 obtain ⟨q, f⟩ := q
 have hg := Lib.hid hg
 simp only at hq
 cases f
 ·have HS := Lib.hid (sgn_false neg q)
  cases up <;> cases neg <;> (
   go_enter Tryz.func113, Tryz.ntmps113
   go_wp2_with (go_at_call 114; refine (hg.out).mono ?_; rintro e w' ⟨rfl, hbel⟩)
   go_ret2
   exact ⟨ret2 HS.out, hbel⟩)
 ·by_cases hc : 4503599627370496 < q
  ·have hb : decide ((4503599627370496 : Int) < (q : Int)) = true := by simp; omega
   have HS := Lib.hid (sgn_far (f := true) neg hc)
   clear hc
   cases up <;> cases neg <;> (
    go_enter Tryz.func113, Tryz.ntmps113
    go_wp2_with (go_at_call 114; refine (hg.out).mono ?_; rintro e w' ⟨rfl, hbel⟩)
    go_ret2
    exact ⟨ret2 HS.out, hbel⟩)
  ·have hb : decide ((4503599627370496 : Int) < (q : Int)) = false := by simp; omega
   have hqs : q ≤ 4503599627370496 := by omega
   have HS := Lib.hid (sgn_near neg (by omega : q ≤ 4503599627370496))
   clear hc
   cases up <;> cases neg <;> (
    go_enter Tryz.func113, Tryz.ntmps113
    go_wp2_with (go_at_call 114; refine (hg.out).mono ?_; rintro e w' ⟨rfl, hbel⟩)
    go_ret2
    exact ⟨ret2 HS.out, hbel⟩)

end Go.Proofs.YthhkcfpljgdnhaaGreat
