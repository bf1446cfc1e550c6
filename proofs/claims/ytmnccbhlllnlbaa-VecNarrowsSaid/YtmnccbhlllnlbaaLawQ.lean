/- Contracts of law 08's part and within. -/
import Derived.Deep.QuietTactic
import Derived.BigQuiet
import Derived.Test.YtmnccbhlllnlbaaRefY

namespace Mnc
open Go
/-- The interval within another one that two numbers choose. -/
def partOf (a : Int × Int) (v w : Int) : Int × Int := (min (a.1 + v % (a.2 - a.1 + 1)) (a.1 + w % (a.2 - a.1 + 1)), max (a.1 + v % (a.2 - a.1 + 1)) (a.1 + w % (a.2 - a.1 + 1)))
theorem partOf_in {a : Int × Int} (h : okS a) (v w : Int) : okS (partOf a v w) ∧ a.1 ≤ (partOf a v w).1 ∧ (partOf a v w).2 ≤ a.2 := by
  obtain ⟨h1, h2, h3⟩ := h
  have e1 := Int.emod_nonneg v (show a.2 - a.1 + 1 ≠ 0 by omega)
  have e2 := Int.emod_lt_of_pos v (show 0 < a.2 - a.1 + 1 by omega)
  have e3 := Int.emod_nonneg w (show a.2 - a.1 + 1 ≠ 0 by omega)
  have e4 := Int.emod_lt_of_pos w (show 0 < a.2 - a.1 + 1 by omega)
  unfold partOf okS
  simp only
  omega
end Mnc
namespace Go.Proofs.Ytmnccbhlllnlbaa
open Go.RowKit Mnc

end Go.Proofs.Ytmnccbhlllnlbaa
