/- Package taylor: a total grows, or its error ends the computation. Printed by wip/genTC.py. -/
import Derived.Test.YthhkcfpljgdnhaaGreatTayB
import Derived.Test.YthhkcfpljgdnhaaGreatPowX
import Derived.Test.YthhkcfpljgdnhaaGreatRegX
namespace Go.Proofs.YthhkcfpljgdnhaaGreat
open Go.RowKit Mnc
attribute [local go_sem] RunSP_value RunSP_skip RunSP_enter evS_tmp evS_const evS_global evS_func
theorem lc {α : Type} {a b : α} {l m : List α} (h : a = b) (t : l = m) : a :: l = b :: m := by rw [h, t]
end Go.Proofs.YthhkcfpljgdnhaaGreat
