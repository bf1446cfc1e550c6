/- Contracts of law 08's part and within. -/
import Derived.Deep.QuietTactic
import Derived.BigQuiet
import Derived.Test.YtgpaillkekhmdaaRefY

namespace Mnc
open Go
/-- The interval within another one that two numbers choose. -/
def partOf (a : Int × Int) (v w : Int) : Int × Int := (min (a.1 + v % (a.2 - a.1 + 1)) (a.1 + w % (a.2 - a.1 + 1)), max (a.1 + v % (a.2 - a.1 + 1)) (a.1 + w % (a.2 - a.1 + 1)))
theorem partOf_in {a : Int × Int} (h : okS a) (v w : Int) : okS (partOf a v w) ∧ a.1 ≤ (partOf a v w).1 ∧ (partOf a v w).2 ≤ a.2 := by
  obtain ⟨h1, h2, h3⟩ := h
  have e1 := Int.emod_nonneg v (show a.2 - a.1 + 1 ≠ 0 by omega)
  have e2 := Int.emod_lt_of_pos v (show 0 < a.2 - a.1 + 1 by omega)
  have e3 := Int.emod_nonneg w (show a.2 - a.1 + 1 ≠ 0 by omega)
  have e4 := Int.emod_lt_of_pos w (show 0 < a.2 - a.1 + 1 by omega)
  unfold partOf okS
  simp only
  omega
end Mnc
namespace Go.Proofs.Ytgpaillkekhmdaa
open Go.RowKit Mnc

set_option maxHeartbeats 1000000 in
theorem law8_within {a b : Int × Int} (h1 : b.1 ≤ a.1) (h2 : a.2 ≤ b.2) (w : World) :
    Calls Try.prog 13 #[.agg #[.int .i64 a.1, .int .i64 a.2], .agg #[.int .i64 b.1, .int .i64 b.2]] w fun e w' => e = .returned (.bool true) ∧ Below w.heap.size w w' := by
  go_enter Try.func13, Try.ntmps13
  go_wp2
  go_ret
  exact ⟨rfl, below_alloc (below_alloc (Below.refl _ _) _) _⟩

set_option maxRecDepth 100000 in
set_option maxHeartbeats 2000000 in
theorem law8_part {a : Int × Int} (h : okS a) (v u : Int) (hv : 0 ≤ v ∧ v < 18446744073709551616) (hu : 0 ≤ u ∧ u < 18446744073709551616) (w : World) :
    Calls Try.prog 10 #[.agg #[.int .i64 a.1, .int .i64 a.2], .int .u64 v, .int .u64 u] w fun e w' => e = .returned (.agg #[.int .i64 (partOf a v u).1, .int .i64 (partOf a v u).2]) ∧ Below w.heap.size w w' := by
  have hB := two_start w a.1 a.2 0 0
  have HV := Lib.hid (show partOf a v u = (a.1 + min (v % (a.2 - a.1 + 1)) (u % (a.2 - a.1 + 1)), a.1 + max (v % (a.2 - a.1 + 1)) (u % (a.2 - a.1 + 1))) by unfold partOf; exact Prod.ext (by simp only; omega) (by simp only; omega))
  obtain ⟨h1, h2, h3⟩ := h
  obtain ⟨v1, v2⟩ := hv
  obtain ⟨u1, u2⟩ := hu
  have e1 := Int.emod_nonneg v (show a.2 - a.1 + 1 ≠ 0 by omega)
  have e2 := Int.emod_lt_of_pos v (show 0 < a.2 - a.1 + 1 by omega)
  have e3 := Int.emod_nonneg u (show a.2 - a.1 + 1 ≠ 0 by omega)
  have e4 := Int.emod_lt_of_pos u (show 0 < a.2 - a.1 + 1 by omega)
  have e5 : (a.2 - a.1 + 1) ≠ 0 := by omega
  go_enter Try.func10, Try.ntmps10
  go_wp2_with fail
  go_quiet (fail)
  go_wp2_with fail
  have hB := hB.on (below_drewN (Below.refl _ _) nq)
  have hr := hB.b1
  exact bodyPost_ret (v := .agg #[.int .i64 (a.1 + min (v % (a.2 - a.1 + 1)) (u % (a.2 - a.1 + 1))), .int .i64 (a.1 + max (v % (a.2 - a.1 + 1)) (u % (a.2 - a.1 + 1)))]) (by simp [results, Try.results10, go_sem]) rfl ⟨by rw [HV.out], below_set2 hB.bel (by omega) _ _⟩
end Go.Proofs.Ytgpaillkekhmdaa
