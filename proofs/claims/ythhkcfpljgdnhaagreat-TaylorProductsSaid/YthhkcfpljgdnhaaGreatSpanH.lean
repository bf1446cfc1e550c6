/- Contracts of package span: Scale, Sqrt. Printed by wip/genSH.py. -/
import Derived.Test.YthhkcfpljgdnhaaGreatSpanX
import Derived.Test.YthhkcfpljgdnhaaGreatPl
namespace Go.Proofs.YthhkcfpljgdnhaaGreat
open Go.RowKit Mnc

/-- The box of the operand set anew. -/
theorem Bx2.set {w W : World} {s r : Int × Int} (h : Bx2 w W s r) (x y : Int) : Bx2 w ((W.setCell ⟨w.heap.size, 0, none⟩ (.int .i64 x)).setCell ⟨w.heap.size, 1, none⟩ (.int .i64 y)) (x, y) r :=
 ⟨below_set2 h.bel (Nat.le_refl _) _ _, by rw [heap_setCell_same _ _ _ _ _ _ (heap_setCell_same _ _ _ _ _ _ h.b0)]; rfl, by rw [heap_setCell_other _ _ _ _ (by simp), heap_setCell_other _ _ _ _ (by simp)]; exact h.b1⟩


end Go.Proofs.YthhkcfpljgdnhaaGreat