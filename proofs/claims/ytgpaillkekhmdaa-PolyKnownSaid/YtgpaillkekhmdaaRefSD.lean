/- Contracts of the reference of layer 2: Mul, for any intervals; Scale, by small fractions. Printed by wip/genRC.py. -/
import Derived.Test.YtgpaillkekhmdaaRefSC
namespace Go.Proofs.Ytgpaillkekhmdaa
open Go.RowKit Mnc

theorem rScl_small (up : Bool) {a n : Int} (ha : ok a) (hn : 0 ≤ n ∧ n ≤ 1000) : rScl up a n 1 = fit (a * n) := by
  rw [rScl_ok up ⟨ha, by omega, by omega, by omega, by omega⟩]
  congr 1
  cases up <;> simp [rnd]

end Go.Proofs.Ytgpaillkekhmdaa
