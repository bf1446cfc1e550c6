/- The reference of layer 21: pairs. Printed by wip/genSU.py. -/
import Derived.Test.YthhkcfpljgdnhaaGreatTayArr
import Derived.Test.YthhkcfpljgdnhaaGreatDrT
import Derived.Test.YthhkcfpljgdnhaaGreatLawYX
namespace Go.Proofs.YthhkcfpljgdnhaaGreat
open Go.RowKit Mnc
attribute [local go_sem] RunSP_value RunSP_skip RunSP_enter evS_tmp evS_const evS_global evS_func
theorem calls_as {f:FuncId} {args:Array Value} {w:World} {x y:List (Int×Int)} (h:x=y) (k:Calls Tryz.prog f args w fun e w'=>e=.returned (mval x)/\Below w.heap.size w w'):Calls Tryz.prog f args w fun e w'=>e=.returned (mval y)/\Below w.heap.size w w':=by
 subst h
 exact k
end Go.Proofs.YthhkcfpljgdnhaaGreat
