/-
  No cell of these rows narrows 'for every input' (looked for: loops, veiled, ifaces, maps, wideKeys, modest, calm, conditions, laid).
  DERIVED. THE GIVEN ROWS OF THIS SEAT. 3 by the template 'for every input the law returns true; each argument reads behind the call as it read before'; 0 by the template 'total and deterministic' (their statements: YthhkcfpljgdnhaaGreatTotals.lean).
  GIVEN WITH THE SEED: the statements are not yours to turn. If you find one false, say at which input.
  Laid BY PROGRAM, IN A SANDBOX (cutbox-rows.mjs): the forced cells as the released guide's own fill.sh prints them over the translation f44ce494dbd99e9e… (all of the seat's roots in one cut). By AI agents, Wed Nov 11 2026. No macro, syntax, notation, axiom, sorry.
-/
import Derived.Test.YthhkcfpljgdnhaaGreatChecked
import GoSem.Claim
import GoSem.ClaimJoined
import GoSem.ClaimMapViews
import Derived.JoinedTies
import Derived.KernelRfl
namespace Go.Proofs.YthhkcfpljgdnhaaGreat
/- THE CELL 'sum', in the pinned program and in every row, IS THE sha256 OF THE DUMP (.gsa) THAT YthhkcfpljgdnhaaGreatProg.lean LOADS. Nothing in Lean hashes anything: it is a label: what it is worth is what the hold of that sum in a sandbox is worth. -/
noncomputable def Tryz.pinned : Pinned := { name := "ythhkcfpljgdnhaagreat", sum := "f44ce494dbd99e9eb9c9ff37792d85bf65eeff24b769695c42cae1c79ff35adc", checked := Tryz.checked }
namespace Rows
def none {H : Type} : Left H := { results := [], args := [] }

/-- 'monoclelaw21.TaylorProducts': WHATEVER THE INPUT: true; the input reads as it did. -/
def taylorProductsSpec : ChangeSpec := { name := "taylorProducts", fn := fun _ => fun
  | [d1, d2, d3] => { results := [.lit (.bool true)], args := [d1, d2, d3] }
  | _ => none }
def taylorProductsRow : OpenClaim := { program := "ythhkcfpljgdnhaagreat", sum := "f44ce494dbd99e9eb9c9ff37792d85bf65eeff24b769695c42cae1c79ff35adc", func := "monocle/monoclelaw21.TaylorProducts", spec := "taylorProducts", inPlace := ["math/bits.Add64"], unfollowed := true, recurses := true, named := ["math/bits.divideError", "math/bits.overflowError"], apart := false }
def TaylorProductsSaid : Prop := taylorProductsRow.holds Tryz.pinned (OpenSpec.ofChange taylorProductsSpec)

/-- ITS FALSE NEIGHBOUR: 'it returns false'. Refute it at one input. -/
def taylorProductsWrong : ChangeSpec := { name := "taylorProducts", fn := fun _ => fun
  | [d1, d2, d3] => { results := [.lit (.bool false)], args := [d1, d2, d3] }
  | _ => none }
def TaylorProductsWrongFalsely : Prop := taylorProductsRow.holds Tryz.pinned (OpenSpec.ofChange taylorProductsWrong)

/-- 'monoclelaw21.TaylorInverses': WHATEVER THE INPUT: true; the input reads as it did. -/
def taylorInversesSpec : ChangeSpec := { name := "taylorInverses", fn := fun _ => fun
  | [d1, d2] => { results := [.lit (.bool true)], args := [d1, d2] }
  | _ => none }
def taylorInversesRow : OpenClaim := { program := "ythhkcfpljgdnhaagreat", sum := "f44ce494dbd99e9eb9c9ff37792d85bf65eeff24b769695c42cae1c79ff35adc", func := "monocle/monoclelaw21.TaylorInverses", spec := "taylorInverses", inPlace := ["math/bits.Add64"], unfollowed := true, recurses := true, named := ["math/bits.divideError", "math/bits.overflowError"], apart := false }
def TaylorInversesSaid : Prop := taylorInversesRow.holds Tryz.pinned (OpenSpec.ofChange taylorInversesSpec)

/-- ITS FALSE NEIGHBOUR: 'it returns false'. Refute it at one input. -/
def taylorInversesWrong : ChangeSpec := { name := "taylorInverses", fn := fun _ => fun
  | [d1, d2] => { results := [.lit (.bool false)], args := [d1, d2] }
  | _ => none }
def TaylorInversesWrongFalsely : Prop := taylorInversesRow.holds Tryz.pinned (OpenSpec.ofChange taylorInversesWrong)

/-- 'monoclelaw21.TaylorRoots': WHATEVER THE INPUT: true; the input reads as it did. -/
def taylorRootsSpec : ChangeSpec := { name := "taylorRoots", fn := fun _ => fun
  | [d1, d2] => { results := [.lit (.bool true)], args := [d1, d2] }
  | _ => none }
def taylorRootsRow : OpenClaim := { program := "ythhkcfpljgdnhaagreat", sum := "f44ce494dbd99e9eb9c9ff37792d85bf65eeff24b769695c42cae1c79ff35adc", func := "monocle/monoclelaw21.TaylorRoots", spec := "taylorRoots", inPlace := ["math/bits.Add64"], unfollowed := true, recurses := true, named := ["math/bits.divideError", "math/bits.overflowError"], apart := false }
def TaylorRootsSaid : Prop := taylorRootsRow.holds Tryz.pinned (OpenSpec.ofChange taylorRootsSpec)

/-- ITS FALSE NEIGHBOUR: 'it returns false'. Refute it at one input. -/
def taylorRootsWrong : ChangeSpec := { name := "taylorRoots", fn := fun _ => fun
  | [d1, d2] => { results := [.lit (.bool false)], args := [d1, d2] }
  | _ => none }
def TaylorRootsWrongFalsely : Prop := taylorRootsRow.holds Tryz.pinned (OpenSpec.ofChange taylorRootsWrong)

/- THE SECOND FORM. 'bulk': how many values and letters a reading holds, each counted each time it is reached (what is shared counts as often as it is met; a slice's spare places count too). A statement '..UptoSaid' is the law's where the arguments, and the package variables that the reading takes, are together of bulk at most 1048576: NARROWER than '..Said'. Prove '..Said' where nothing that the law and all that it calls make is longer than what came in: it says more and counts as full. Else prove '..UptoSaid'. A law counts once. -/
mutual
def uptoBulk {H : Type} : DataW H → Nat
  | .lit (.string bytes) => bytes.length + 1
  | .lit _ => 1
  | .nil => 1
  | .ptr d => uptoBulk d + 1
  | .slice elems spare => uptoBulkAll elems + uptoBulkAll spare + 1
  | .agg parts => uptoBulkAll parts + 1
  | .iface _ d => uptoBulk d + 1
  | .map entries => uptoBulkEntries entries + 1
  | .held _ => 1
def uptoBulkAll {H : Type} : List (DataW H) → Nat
  | [] => 0
  | d :: r => uptoBulk d + uptoBulkAll r
def uptoBulkEntries {H : Type} : List (Lit × DataW H) → Nat
  | [] => 0
  | x :: r => uptoBulkEntry x + uptoBulkEntries r
def uptoBulkEntry {H : Type} : Lit × DataW H → Nat
  | (.string bytes, d) => bytes.length + uptoBulk d + 1
  | (_, d) => uptoBulk d + 1
 end
def uptoSmall : (H : Type) → List (DataW H) → Bool := fun _ ds => decide (uptoBulkAll ds ≤ 1048576)
def OpenSpec.upto (s : _root_.Go.ChangeSpec) : _root_.Go.OpenSpec := { _root_.Go.OpenSpec.ofChange s with cond := some uptoSmall }

/-- 'monoclelaw21.TaylorProducts', WHERE WHAT IT READS IS OF BULK AT MOST 1048576: true; the input reads as it did. -/
def taylorProductsUptoRow : OpenClaim := { program := "ythhkcfpljgdnhaagreat", sum := "f44ce494dbd99e9eb9c9ff37792d85bf65eeff24b769695c42cae1c79ff35adc", func := "monocle/monoclelaw21.TaylorProducts", spec := "taylorProducts", inPlace := ["math/bits.Add64"], unfollowed := true, recurses := true, named := ["math/bits.divideError", "math/bits.overflowError"], apart := false, narrowed := true }
def TaylorProductsUptoSaid : Prop := taylorProductsUptoRow.holds Tryz.pinned (OpenSpec.upto taylorProductsSpec)

/-- 'monoclelaw21.TaylorInverses', WHERE WHAT IT READS IS OF BULK AT MOST 1048576: true; the input reads as it did. -/
def taylorInversesUptoRow : OpenClaim := { program := "ythhkcfpljgdnhaagreat", sum := "f44ce494dbd99e9eb9c9ff37792d85bf65eeff24b769695c42cae1c79ff35adc", func := "monocle/monoclelaw21.TaylorInverses", spec := "taylorInverses", inPlace := ["math/bits.Add64"], unfollowed := true, recurses := true, named := ["math/bits.divideError", "math/bits.overflowError"], apart := false, narrowed := true }
def TaylorInversesUptoSaid : Prop := taylorInversesUptoRow.holds Tryz.pinned (OpenSpec.upto taylorInversesSpec)

/-- 'monoclelaw21.TaylorRoots', WHERE WHAT IT READS IS OF BULK AT MOST 1048576: true; the input reads as it did. -/
def taylorRootsUptoRow : OpenClaim := { program := "ythhkcfpljgdnhaagreat", sum := "f44ce494dbd99e9eb9c9ff37792d85bf65eeff24b769695c42cae1c79ff35adc", func := "monocle/monoclelaw21.TaylorRoots", spec := "taylorRoots", inPlace := ["math/bits.Add64"], unfollowed := true, recurses := true, named := ["math/bits.divideError", "math/bits.overflowError"], apart := false, narrowed := true }
def TaylorRootsUptoSaid : Prop := taylorRootsUptoRow.holds Tryz.pinned (OpenSpec.upto taylorRootsSpec)

end Rows
end Go.Proofs.YthhkcfpljgdnhaaGreat
