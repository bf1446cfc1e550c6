/-
  DERIVED. GIVEN WITH THE SEED: THE CARDS: each row of YtgfofilkpaelnaaDoorRows.lean that lists a variable, with what it lists TIED to the program's text (the seventh form; the later family's looks); each row that meets fmt, with fmt's text TOLD by the authors' own Lean function (tested against real Go, not proved from fmt's source: count such statements apart). THE CARD IS WHAT COUNTS. Prove the row's statement (the work); the ties are given (YtgfofilkpaelnaaDoorTie.lean); close each card by the builder's one call (the guide's Derived/Test/ToyasCard.lean, 'card_holds'). Laid BY PROGRAM, IN A SANDBOX (cutbox-door.mjs). By AI agents, Wed Nov 11 2026. No macro, syntax, notation, axiom, sorry.
-/
import Derived.Test.YtgfofilkpaelnaaDoorRows
import GoSem.ClaimSeven
namespace Go.Proofs.YtgfofilkpaelnaaDoor
namespace Rows

/-- THE TIED CARD OF 'monoclelaw01.FixSums'. -/
def fixSumsCard : Claim7 := { stood := { row := fixSumsRow, standIns := [], harness := (true, "d15efa4b9d22d071c59e307c84f9de3b60e471eb1ae11d9b156ffc7bcb1928c5"), looks := false }, kinds := [], alts := [], laidByText := true, laidKinds := [.data], laidTests := true, laidLooks := .later }
def FixSumsCardSaid : Prop := Claim7.holds Tryd.pinned (.plain (OpenSpec.ofChange fixSumsSpec)) fixSumsCard

/-- THE TIED CARD OF 'monoclelaw01.FixQuotients'. -/
def fixQuotientsCard : Claim7 := { stood := { row := fixQuotientsRow, standIns := [], harness := (true, "d15efa4b9d22d071c59e307c84f9de3b60e471eb1ae11d9b156ffc7bcb1928c5"), looks := false }, kinds := [], alts := [], laidByText := true, laidKinds := [.data], laidTests := true, laidLooks := .later }
def FixQuotientsCardSaid : Prop := Claim7.holds Tryd.pinned (.plain (OpenSpec.ofChange fixQuotientsSpec)) fixQuotientsCard

/-- THE TIED CARD OF 'monoclelaw01.FixRoots'. -/
def fixRootsCard : Claim7 := { stood := { row := fixRootsRow, standIns := [], harness := (true, "d15efa4b9d22d071c59e307c84f9de3b60e471eb1ae11d9b156ffc7bcb1928c5"), looks := false }, kinds := [], alts := [], laidByText := true, laidKinds := [.data], laidTests := true, laidLooks := .later }
def FixRootsCardSaid : Prop := Claim7.holds Tryd.pinned (.plain (OpenSpec.ofChange fixRootsSpec)) fixRootsCard

/-- THE TIED CARD OF 'monoclelaw01.FixMirrors'. -/
def fixMirrorsCard : Claim7 := { stood := { row := fixMirrorsRow, standIns := [], harness := (true, "d15efa4b9d22d071c59e307c84f9de3b60e471eb1ae11d9b156ffc7bcb1928c5"), looks := false }, kinds := [], alts := [], laidByText := true, laidKinds := [.data], laidTests := true, laidLooks := .later }
def FixMirrorsCardSaid : Prop := Claim7.holds Tryd.pinned (.plain (OpenSpec.ofChange fixMirrorsSpec)) fixMirrorsCard

/-- THE TIED CARD OF 'monoclelaw01.FixSquares'. -/
def fixSquaresCard : Claim7 := { stood := { row := fixSquaresRow, standIns := [], harness := (true, "d15efa4b9d22d071c59e307c84f9de3b60e471eb1ae11d9b156ffc7bcb1928c5"), looks := false }, kinds := [], alts := [], laidByText := true, laidKinds := [.data], laidTests := true, laidLooks := .later }
def FixSquaresCardSaid : Prop := Claim7.holds Tryd.pinned (.plain (OpenSpec.ofChange fixSquaresSpec)) fixSquaresCard

/-- THE TIED CARD OF 'monoclelaw01.FixKnown'. -/
def fixKnownCard : Claim7 := { stood := { row := fixKnownRow, standIns := [], harness := (true, "d15efa4b9d22d071c59e307c84f9de3b60e471eb1ae11d9b156ffc7bcb1928c5"), looks := false }, kinds := [], alts := [], laidByText := true, laidKinds := [.data], laidTests := true, laidLooks := .later }
def FixKnownCardSaid : Prop := Claim7.holds Tryd.pinned (.plain (OpenSpec.ofChange fixKnownSpec)) fixKnownCard

/-- THE TIED CARD OF 'monoclelaw02.SpanMakes'. -/
def spanMakesCard : Claim7 := { stood := { row := spanMakesRow, standIns := [], harness := (true, "d15efa4b9d22d071c59e307c84f9de3b60e471eb1ae11d9b156ffc7bcb1928c5"), looks := false }, kinds := [], alts := [], laidByText := true, laidKinds := [.data], laidTests := true, laidLooks := .later }
def SpanMakesCardSaid : Prop := Claim7.holds Tryd.pinned (.plain (OpenSpec.ofChange spanMakesSpec)) spanMakesCard

/-- THE TIED CARD OF 'monoclelaw02.SpanSums'. -/
def spanSumsCard : Claim7 := { stood := { row := spanSumsRow, standIns := [], harness := (true, "d15efa4b9d22d071c59e307c84f9de3b60e471eb1ae11d9b156ffc7bcb1928c5"), looks := false }, kinds := [], alts := [], laidByText := true, laidKinds := [.data], laidTests := true, laidLooks := .later }
def SpanSumsCardSaid : Prop := Claim7.holds Tryd.pinned (.plain (OpenSpec.ofChange spanSumsSpec)) spanSumsCard

/-- THE TIED CARD OF 'monoclelaw02.SpanProducts'. -/
def spanProductsCard : Claim7 := { stood := { row := spanProductsRow, standIns := [], harness := (true, "d15efa4b9d22d071c59e307c84f9de3b60e471eb1ae11d9b156ffc7bcb1928c5"), looks := false }, kinds := [], alts := [], laidByText := true, laidKinds := [.data], laidTests := true, laidLooks := .later }
def SpanProductsCardSaid : Prop := Claim7.holds Tryd.pinned (.plain (OpenSpec.ofChange spanProductsSpec)) spanProductsCard

/-- THE TIED CARD OF 'monoclelaw02.SpanSets'. -/
def spanSetsCard : Claim7 := { stood := { row := spanSetsRow, standIns := [], harness := (true, "d15efa4b9d22d071c59e307c84f9de3b60e471eb1ae11d9b156ffc7bcb1928c5"), looks := false }, kinds := [], alts := [], laidByText := true, laidKinds := [.data], laidTests := true, laidLooks := .later }
def SpanSetsCardSaid : Prop := Claim7.holds Tryd.pinned (.plain (OpenSpec.ofChange spanSetsSpec)) spanSetsCard

/-- THE TIED CARD OF 'monoclelaw02.SpanNarrows'. -/
def spanNarrowsCard : Claim7 := { stood := { row := spanNarrowsRow, standIns := [], harness := (true, "d15efa4b9d22d071c59e307c84f9de3b60e471eb1ae11d9b156ffc7bcb1928c5"), looks := false }, kinds := [], alts := [], laidByText := true, laidKinds := [.data], laidTests := true, laidLooks := .later }
def SpanNarrowsCardSaid : Prop := Claim7.holds Tryd.pinned (.plain (OpenSpec.ofChange spanNarrowsSpec)) spanNarrowsCard

/-- THE TIED CARD OF 'monoclelaw02.SpanRings'. -/
def spanRingsCard : Claim7 := { stood := { row := spanRingsRow, standIns := [], harness := (true, "d15efa4b9d22d071c59e307c84f9de3b60e471eb1ae11d9b156ffc7bcb1928c5"), looks := false }, kinds := [], alts := [], laidByText := true, laidKinds := [.data], laidTests := true, laidLooks := .later }
def SpanRingsCardSaid : Prop := Claim7.holds Tryd.pinned (.plain (OpenSpec.ofChange spanRingsSpec)) spanRingsCard

/-- THE TIED CARD OF 'monoclelaw02.SpanTells'. -/
def spanTellsCard : Claim7 := { stood := { row := spanTellsRow, standIns := [], harness := (true, "d15efa4b9d22d071c59e307c84f9de3b60e471eb1ae11d9b156ffc7bcb1928c5"), looks := false }, kinds := [], alts := [], laidByText := true, laidKinds := [.data], laidTests := true, laidLooks := .later }
def SpanTellsCardSaid : Prop := Claim7.holds Tryd.pinned (.plain (OpenSpec.ofChange spanTellsSpec)) spanTellsCard

/-- THE TIED CARD OF 'monoclelaw02.SpanParts'. -/
def spanPartsCard : Claim7 := { stood := { row := spanPartsRow, standIns := [], harness := (true, "d15efa4b9d22d071c59e307c84f9de3b60e471eb1ae11d9b156ffc7bcb1928c5"), looks := false }, kinds := [], alts := [], laidByText := true, laidKinds := [.data], laidTests := true, laidLooks := .later }
def SpanPartsCardSaid : Prop := Claim7.holds Tryd.pinned (.plain (OpenSpec.ofChange spanPartsSpec)) spanPartsCard

/-- THE TIED CARD OF 'monoclelaw02.SpanKnown'. -/
def spanKnownCard : Claim7 := { stood := { row := spanKnownRow, standIns := [], harness := (true, "d15efa4b9d22d071c59e307c84f9de3b60e471eb1ae11d9b156ffc7bcb1928c5"), looks := false }, kinds := [], alts := [], laidByText := true, laidKinds := [.data], laidTests := true, laidLooks := .later }
def SpanKnownCardSaid : Prop := Claim7.holds Tryd.pinned (.plain (OpenSpec.ofChange spanKnownSpec)) spanKnownCard

/-- THE SECOND FORM's CARD OF 'monoclelaw01.FixSums'. -/
def fixSumsUptoCard : Claim7 := { stood := { row := fixSumsUptoRow, standIns := [], harness := (true, "d15efa4b9d22d071c59e307c84f9de3b60e471eb1ae11d9b156ffc7bcb1928c5"), looks := false }, kinds := [], alts := [], laidByText := true, laidKinds := [.data], laidTests := true, laidLooks := .later }
def FixSumsUptoCardSaid : Prop := Claim7.holds Tryd.pinned (.plain (OpenSpec.upto fixSumsSpec)) fixSumsUptoCard

/-- THE SECOND FORM's CARD OF 'monoclelaw01.FixQuotients'. -/
def fixQuotientsUptoCard : Claim7 := { stood := { row := fixQuotientsUptoRow, standIns := [], harness := (true, "d15efa4b9d22d071c59e307c84f9de3b60e471eb1ae11d9b156ffc7bcb1928c5"), looks := false }, kinds := [], alts := [], laidByText := true, laidKinds := [.data], laidTests := true, laidLooks := .later }
def FixQuotientsUptoCardSaid : Prop := Claim7.holds Tryd.pinned (.plain (OpenSpec.upto fixQuotientsSpec)) fixQuotientsUptoCard

/-- THE SECOND FORM's CARD OF 'monoclelaw01.FixRoots'. -/
def fixRootsUptoCard : Claim7 := { stood := { row := fixRootsUptoRow, standIns := [], harness := (true, "d15efa4b9d22d071c59e307c84f9de3b60e471eb1ae11d9b156ffc7bcb1928c5"), looks := false }, kinds := [], alts := [], laidByText := true, laidKinds := [.data], laidTests := true, laidLooks := .later }
def FixRootsUptoCardSaid : Prop := Claim7.holds Tryd.pinned (.plain (OpenSpec.upto fixRootsSpec)) fixRootsUptoCard

/-- THE SECOND FORM's CARD OF 'monoclelaw01.FixMirrors'. -/
def fixMirrorsUptoCard : Claim7 := { stood := { row := fixMirrorsUptoRow, standIns := [], harness := (true, "d15efa4b9d22d071c59e307c84f9de3b60e471eb1ae11d9b156ffc7bcb1928c5"), looks := false }, kinds := [], alts := [], laidByText := true, laidKinds := [.data], laidTests := true, laidLooks := .later }
def FixMirrorsUptoCardSaid : Prop := Claim7.holds Tryd.pinned (.plain (OpenSpec.upto fixMirrorsSpec)) fixMirrorsUptoCard

/-- THE SECOND FORM's CARD OF 'monoclelaw01.FixSquares'. -/
def fixSquaresUptoCard : Claim7 := { stood := { row := fixSquaresUptoRow, standIns := [], harness := (true, "d15efa4b9d22d071c59e307c84f9de3b60e471eb1ae11d9b156ffc7bcb1928c5"), looks := false }, kinds := [], alts := [], laidByText := true, laidKinds := [.data], laidTests := true, laidLooks := .later }
def FixSquaresUptoCardSaid : Prop := Claim7.holds Tryd.pinned (.plain (OpenSpec.upto fixSquaresSpec)) fixSquaresUptoCard

/-- THE SECOND FORM's CARD OF 'monoclelaw01.FixKnown'. -/
def fixKnownUptoCard : Claim7 := { stood := { row := fixKnownUptoRow, standIns := [], harness := (true, "d15efa4b9d22d071c59e307c84f9de3b60e471eb1ae11d9b156ffc7bcb1928c5"), looks := false }, kinds := [], alts := [], laidByText := true, laidKinds := [.data], laidTests := true, laidLooks := .later }
def FixKnownUptoCardSaid : Prop := Claim7.holds Tryd.pinned (.plain (OpenSpec.upto fixKnownSpec)) fixKnownUptoCard

/-- THE SECOND FORM's CARD OF 'monoclelaw02.SpanMakes'. -/
def spanMakesUptoCard : Claim7 := { stood := { row := spanMakesUptoRow, standIns := [], harness := (true, "d15efa4b9d22d071c59e307c84f9de3b60e471eb1ae11d9b156ffc7bcb1928c5"), looks := false }, kinds := [], alts := [], laidByText := true, laidKinds := [.data], laidTests := true, laidLooks := .later }
def SpanMakesUptoCardSaid : Prop := Claim7.holds Tryd.pinned (.plain (OpenSpec.upto spanMakesSpec)) spanMakesUptoCard

/-- THE SECOND FORM's CARD OF 'monoclelaw02.SpanSums'. -/
def spanSumsUptoCard : Claim7 := { stood := { row := spanSumsUptoRow, standIns := [], harness := (true, "d15efa4b9d22d071c59e307c84f9de3b60e471eb1ae11d9b156ffc7bcb1928c5"), looks := false }, kinds := [], alts := [], laidByText := true, laidKinds := [.data], laidTests := true, laidLooks := .later }
def SpanSumsUptoCardSaid : Prop := Claim7.holds Tryd.pinned (.plain (OpenSpec.upto spanSumsSpec)) spanSumsUptoCard

/-- THE SECOND FORM's CARD OF 'monoclelaw02.SpanProducts'. -/
def spanProductsUptoCard : Claim7 := { stood := { row := spanProductsUptoRow, standIns := [], harness := (true, "d15efa4b9d22d071c59e307c84f9de3b60e471eb1ae11d9b156ffc7bcb1928c5"), looks := false }, kinds := [], alts := [], laidByText := true, laidKinds := [.data], laidTests := true, laidLooks := .later }
def SpanProductsUptoCardSaid : Prop := Claim7.holds Tryd.pinned (.plain (OpenSpec.upto spanProductsSpec)) spanProductsUptoCard

/-- THE SECOND FORM's CARD OF 'monoclelaw02.SpanSets'. -/
def spanSetsUptoCard : Claim7 := { stood := { row := spanSetsUptoRow, standIns := [], harness := (true, "d15efa4b9d22d071c59e307c84f9de3b60e471eb1ae11d9b156ffc7bcb1928c5"), looks := false }, kinds := [], alts := [], laidByText := true, laidKinds := [.data], laidTests := true, laidLooks := .later }
def SpanSetsUptoCardSaid : Prop := Claim7.holds Tryd.pinned (.plain (OpenSpec.upto spanSetsSpec)) spanSetsUptoCard

/-- THE SECOND FORM's CARD OF 'monoclelaw02.SpanNarrows'. -/
def spanNarrowsUptoCard : Claim7 := { stood := { row := spanNarrowsUptoRow, standIns := [], harness := (true, "d15efa4b9d22d071c59e307c84f9de3b60e471eb1ae11d9b156ffc7bcb1928c5"), looks := false }, kinds := [], alts := [], laidByText := true, laidKinds := [.data], laidTests := true, laidLooks := .later }
def SpanNarrowsUptoCardSaid : Prop := Claim7.holds Tryd.pinned (.plain (OpenSpec.upto spanNarrowsSpec)) spanNarrowsUptoCard

/-- THE SECOND FORM's CARD OF 'monoclelaw02.SpanRings'. -/
def spanRingsUptoCard : Claim7 := { stood := { row := spanRingsUptoRow, standIns := [], harness := (true, "d15efa4b9d22d071c59e307c84f9de3b60e471eb1ae11d9b156ffc7bcb1928c5"), looks := false }, kinds := [], alts := [], laidByText := true, laidKinds := [.data], laidTests := true, laidLooks := .later }
def SpanRingsUptoCardSaid : Prop := Claim7.holds Tryd.pinned (.plain (OpenSpec.upto spanRingsSpec)) spanRingsUptoCard

/-- THE SECOND FORM's CARD OF 'monoclelaw02.SpanTells'. -/
def spanTellsUptoCard : Claim7 := { stood := { row := spanTellsUptoRow, standIns := [], harness := (true, "d15efa4b9d22d071c59e307c84f9de3b60e471eb1ae11d9b156ffc7bcb1928c5"), looks := false }, kinds := [], alts := [], laidByText := true, laidKinds := [.data], laidTests := true, laidLooks := .later }
def SpanTellsUptoCardSaid : Prop := Claim7.holds Tryd.pinned (.plain (OpenSpec.upto spanTellsSpec)) spanTellsUptoCard

/-- THE SECOND FORM's CARD OF 'monoclelaw02.SpanParts'. -/
def spanPartsUptoCard : Claim7 := { stood := { row := spanPartsUptoRow, standIns := [], harness := (true, "d15efa4b9d22d071c59e307c84f9de3b60e471eb1ae11d9b156ffc7bcb1928c5"), looks := false }, kinds := [], alts := [], laidByText := true, laidKinds := [.data], laidTests := true, laidLooks := .later }
def SpanPartsUptoCardSaid : Prop := Claim7.holds Tryd.pinned (.plain (OpenSpec.upto spanPartsSpec)) spanPartsUptoCard

/-- THE SECOND FORM's CARD OF 'monoclelaw02.SpanKnown'. -/
def spanKnownUptoCard : Claim7 := { stood := { row := spanKnownUptoRow, standIns := [], harness := (true, "d15efa4b9d22d071c59e307c84f9de3b60e471eb1ae11d9b156ffc7bcb1928c5"), looks := false }, kinds := [], alts := [], laidByText := true, laidKinds := [.data], laidTests := true, laidLooks := .later }
def SpanKnownUptoCardSaid : Prop := Claim7.holds Tryd.pinned (.plain (OpenSpec.upto spanKnownSpec)) spanKnownUptoCard
end Rows
end Go.Proofs.YtgfofilkpaelnaaDoor
