/-
  No cell of these rows narrows 'for every input' (looked for: loops, veiled, ifaces, maps, wideKeys, modest, calm, conditions, laid).
  DERIVED. THE GIVEN ROWS OF THIS SEAT. 3 by the template 'for every input the law returns true; each argument reads behind the call as it read before'; 0 by the template 'total and deterministic' (their statements: YthhkcfpljgdnhaaTotals.lean).
  GIVEN WITH THE SEED: the statements are not yours to turn. If you find one false, say at which input.
  Laid BY PROGRAM, IN A SANDBOX (cutbox-rows.mjs): the forced cells as the released guide's own fill.sh prints them over the translation e657a5181f5f6f8d… (all of the seat's roots in one cut). By AI agents, Wed Nov 11 2026. No macro, syntax, notation, axiom, sorry.
-/
import Derived.Test.YthhkcfpljgdnhaaChecked
import GoSem.Claim
import GoSem.ClaimJoined
import GoSem.ClaimMapViews
import Derived.JoinedTies
import Derived.KernelRfl
namespace Go.Proofs.Ythhkcfpljgdnhaa
/- THE CELL 'sum', in the pinned program and in every row, IS THE sha256 OF THE DUMP (.gsa) THAT YthhkcfpljgdnhaaProg.lean LOADS. Nothing in Lean hashes anything: it is a label: what it is worth is what the hold of that sum in a sandbox is worth. -/
noncomputable def Try.pinned : Pinned := { name := "ythhkcfpljgdnhaa", sum := "e657a5181f5f6f8ddbf63d538797c149e182f9020e3e4da3041e9a0f002813a9", checked := Try.checked }
namespace Rows
def none {H : Type} : Left H := { results := [], args := [] }

/-- 'monoclelaw21.TaylorSeries': WHATEVER THE INPUT: true; the input reads as it did. -/
def taylorSeriesSpec : ChangeSpec := { name := "taylorSeries", fn := fun _ => fun
  | [d] => { results := [.lit (.bool true)], args := [d] }
  | _ => none }
def taylorSeriesRow : OpenClaim := { program := "ythhkcfpljgdnhaa", sum := "e657a5181f5f6f8ddbf63d538797c149e182f9020e3e4da3041e9a0f002813a9", func := "monocle/monoclelaw21.TaylorSeries", spec := "taylorSeries", inPlace := ["math/bits.Add64"], unfollowed := true, recurses := true, named := ["math/bits.divideError", "math/bits.overflowError"], apart := false }
def TaylorSeriesSaid : Prop := taylorSeriesRow.holds Try.pinned (OpenSpec.ofChange taylorSeriesSpec)

/-- ITS FALSE NEIGHBOUR: 'it returns false'. Refute it at one input. -/
def taylorSeriesWrong : ChangeSpec := { name := "taylorSeries", fn := fun _ => fun
  | [d] => { results := [.lit (.bool false)], args := [d] }
  | _ => none }
def TaylorSeriesWrongFalsely : Prop := taylorSeriesRow.holds Try.pinned (OpenSpec.ofChange taylorSeriesWrong)

/-- 'monoclelaw21.TaylorMakes': WHATEVER THE INPUT: true; the input reads as it did. -/
def taylorMakesSpec : ChangeSpec := { name := "taylorMakes", fn := fun _ => fun
  | [d1, d2, d3, d4, d5, d6] => { results := [.lit (.bool true)], args := [d1, d2, d3, d4, d5, d6] }
  | _ => none }
def taylorMakesRow : OpenClaim := { program := "ythhkcfpljgdnhaa", sum := "e657a5181f5f6f8ddbf63d538797c149e182f9020e3e4da3041e9a0f002813a9", func := "monocle/monoclelaw21.TaylorMakes", spec := "taylorMakes", inPlace := ["math/bits.Add64"], unfollowed := true, recurses := true, named := ["math/bits.divideError", "math/bits.overflowError"], apart := false }
def TaylorMakesSaid : Prop := taylorMakesRow.holds Try.pinned (OpenSpec.ofChange taylorMakesSpec)

/-- ITS FALSE NEIGHBOUR: 'it returns false'. Refute it at one input. -/
def taylorMakesWrong : ChangeSpec := { name := "taylorMakes", fn := fun _ => fun
  | [d1, d2, d3, d4, d5, d6] => { results := [.lit (.bool false)], args := [d1, d2, d3, d4, d5, d6] }
  | _ => none }
def TaylorMakesWrongFalsely : Prop := taylorMakesRow.holds Try.pinned (OpenSpec.ofChange taylorMakesWrong)

/-- 'monoclelaw21.TaylorOrder': WHATEVER THE INPUT: true; the input reads as it did. -/
def taylorOrderSpec : ChangeSpec := { name := "taylorOrder", fn := fun _ => fun
  | [d1, d2, d3, d4] => { results := [.lit (.bool true)], args := [d1, d2, d3, d4] }
  | _ => none }
def taylorOrderRow : OpenClaim := { program := "ythhkcfpljgdnhaa", sum := "e657a5181f5f6f8ddbf63d538797c149e182f9020e3e4da3041e9a0f002813a9", func := "monocle/monoclelaw21.TaylorOrder", spec := "taylorOrder", inPlace := ["math/bits.Add64"], unfollowed := true, recurses := true, named := ["math/bits.divideError", "math/bits.overflowError"], apart := false }
def TaylorOrderSaid : Prop := taylorOrderRow.holds Try.pinned (OpenSpec.ofChange taylorOrderSpec)

/-- ITS FALSE NEIGHBOUR: 'it returns false'. Refute it at one input. -/
def taylorOrderWrong : ChangeSpec := { name := "taylorOrder", fn := fun _ => fun
  | [d1, d2, d3, d4] => { results := [.lit (.bool false)], args := [d1, d2, d3, d4] }
  | _ => none }
def TaylorOrderWrongFalsely : Prop := taylorOrderRow.holds Try.pinned (OpenSpec.ofChange taylorOrderWrong)

/- THE SECOND FORM. 'bulk': how many values and letters a reading holds, each counted each time it is reached (what is shared counts as often as it is met; a slice's spare places count too). A statement '..UptoSaid' is the law's where the arguments, and the package variables that the reading takes, are together of bulk at most 1048576: NARROWER than '..Said'. Prove '..Said' where nothing that the law and all that it calls make is longer than what came in: it says more and counts as full. Else prove '..UptoSaid'. A law counts once. -/
mutual
def uptoBulk {H : Type} : DataW H → Nat
  | .lit (.string bytes) => bytes.length + 1
  | .lit _ => 1
  | .nil => 1
  | .ptr d => uptoBulk d + 1
  | .slice elems spare => uptoBulkAll elems + uptoBulkAll spare + 1
  | .agg parts => uptoBulkAll parts + 1
  | .iface _ d => uptoBulk d + 1
  | .map entries => uptoBulkEntries entries + 1
  | .held _ => 1
def uptoBulkAll {H : Type} : List (DataW H) → Nat
  | [] => 0
  | d :: r => uptoBulk d + uptoBulkAll r
def uptoBulkEntries {H : Type} : List (Lit × DataW H) → Nat
  | [] => 0
  | x :: r => uptoBulkEntry x + uptoBulkEntries r
def uptoBulkEntry {H : Type} : Lit × DataW H → Nat
  | (.string bytes, d) => bytes.length + uptoBulk d + 1
  | (_, d) => uptoBulk d + 1
 end
def uptoSmall : (H : Type) → List (DataW H) → Bool := fun _ ds => decide (uptoBulkAll ds ≤ 1048576)
def OpenSpec.upto (s : _root_.Go.ChangeSpec) : _root_.Go.OpenSpec := { _root_.Go.OpenSpec.ofChange s with cond := some uptoSmall }

/-- 'monoclelaw21.TaylorSeries', WHERE WHAT IT READS IS OF BULK AT MOST 1048576: true; the input reads as it did. -/
def taylorSeriesUptoRow : OpenClaim := { program := "ythhkcfpljgdnhaa", sum := "e657a5181f5f6f8ddbf63d538797c149e182f9020e3e4da3041e9a0f002813a9", func := "monocle/monoclelaw21.TaylorSeries", spec := "taylorSeries", inPlace := ["math/bits.Add64"], unfollowed := true, recurses := true, named := ["math/bits.divideError", "math/bits.overflowError"], apart := false, narrowed := true }
def TaylorSeriesUptoSaid : Prop := taylorSeriesUptoRow.holds Try.pinned (OpenSpec.upto taylorSeriesSpec)

/-- 'monoclelaw21.TaylorMakes', WHERE WHAT IT READS IS OF BULK AT MOST 1048576: true; the input reads as it did. -/
def taylorMakesUptoRow : OpenClaim := { program := "ythhkcfpljgdnhaa", sum := "e657a5181f5f6f8ddbf63d538797c149e182f9020e3e4da3041e9a0f002813a9", func := "monocle/monoclelaw21.TaylorMakes", spec := "taylorMakes", inPlace := ["math/bits.Add64"], unfollowed := true, recurses := true, named := ["math/bits.divideError", "math/bits.overflowError"], apart := false, narrowed := true }
def TaylorMakesUptoSaid : Prop := taylorMakesUptoRow.holds Try.pinned (OpenSpec.upto taylorMakesSpec)

/-- 'monoclelaw21.TaylorOrder', WHERE WHAT IT READS IS OF BULK AT MOST 1048576: true; the input reads as it did. -/
def taylorOrderUptoRow : OpenClaim := { program := "ythhkcfpljgdnhaa", sum := "e657a5181f5f6f8ddbf63d538797c149e182f9020e3e4da3041e9a0f002813a9", func := "monocle/monoclelaw21.TaylorOrder", spec := "taylorOrder", inPlace := ["math/bits.Add64"], unfollowed := true, recurses := true, named := ["math/bits.divideError", "math/bits.overflowError"], apart := false, narrowed := true }
def TaylorOrderUptoSaid : Prop := taylorOrderUptoRow.holds Try.pinned (OpenSpec.upto taylorOrderSpec)

end Rows
end Go.Proofs.Ythhkcfpljgdnhaa
