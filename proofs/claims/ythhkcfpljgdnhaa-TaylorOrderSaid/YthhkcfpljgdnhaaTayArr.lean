/- Arrays of models by value: how they are built and looked at. Printed by wip/genAr.py. -/
import Derived.Test.YthhkcfpljgdnhaaTayN
import Derived.Test.YthhkcfpljgdnhaaTayK
namespace Go.Proofs.Ythhkcfpljgdnhaa
open Go.RowKit Mnc
section
variable {P : Program} {Pn : List PanicEntry → World → Prop} {K : Value → World → Prop} {s : Nat → Value} {w : World} {o : Oper} {v a b : Value} {t : TypeId} {x y : Operand}
theorem rs_idx (ho : o.op = .index t x y) (hx : evS s x = a) (hy : evS s y = b) (h : (Instr.index t a b).run P w = .ok v w) (hK : K v w) : RunSP P Pn K ((execOp (evS s) o).run P w) := by
  unfold execOp; rw [ho]; subst hx; subst hy
  simp only [Sem.run_bind, h, Result.andThen, Sem.run_pure]
  exact hK
end
end Go.Proofs.Ythhkcfpljgdnhaa
