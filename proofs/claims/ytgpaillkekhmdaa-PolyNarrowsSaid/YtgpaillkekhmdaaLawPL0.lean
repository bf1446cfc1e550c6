/- Eval, Slope, Sub, Mul, Meet, Add, Sqr told in the words of LawP, for any arguments. -/
import Derived.Test.YtgpaillkekhmdaaLawP
namespace Go.Proofs.Ytgpaillkekhmdaa
open Go.RowKit Go.Shelf Mnc
section
variable {w W : World} {bs : List (Nat × Obj)} {ao : Option Addr} {cap : Nat} {l : List (Int × Int)}

theorem evalS (s : Int × Int) (n : Nat) (h : St w W bs ao cap l) (hn : l.length = n) :
    Calls Try.prog 11 #[.slice ao n cap, .agg #[.int .i64 s.1, .int .i64 s.2]] W fun e W' => e = .returned (.tuple #[.agg #[.int .i64 (pEval l s).1.1, .int .i64 (pEval l s).1.2], .int .i64 (pEval l s).2]) ∧ St w W' bs ao cap l := by
  have := poly_Eval l s ao cap W h.slc
  rw [hn] at this
  exact this.mono fun _ _ ⟨h1, h2⟩ => ⟨h1, h.on h2⟩
theorem slopeS (s : Int × Int) (n : Nat) (h : St w W bs ao cap l) (hn : l.length = n) :
    Calls Try.prog 12 #[.slice ao n cap, .agg #[.int .i64 s.1, .int .i64 s.2]] W fun e W' => e = .returned (.tuple #[.agg #[.int .i64 (pSlope l s).1.1, .int .i64 (pSlope l s).1.2], .int .i64 (pSlope l s).2]) ∧ St w W' bs ao cap l := by
  have := poly_Slope l s ao cap W h.slc
  rw [hn] at this
  exact this.mono fun _ _ ⟨h1, h2⟩ => ⟨h1, h.on h2⟩
theorem mulS (s t : Int × Int) (h : St w W bs ao cap l) :
    Calls Try.prog 26 #[.agg #[.int .i64 s.1, .int .i64 s.2], .agg #[.int .i64 t.1, .int .i64 t.2]] W fun e W' => e = .returned (.tuple #[.agg #[.int .i64 (sMul s t).1.1, .int .i64 (sMul s t).1.2], .int .i64 (sMul s t).2]) ∧ St w W' bs ao cap l :=
  (span_Mul s t W).mono fun _ _ ⟨h1, h2⟩ => ⟨h1, h.on h2⟩
theorem addS (s t : Int × Int) (h : St w W bs ao cap l) :
    Calls Try.prog 27 #[.agg #[.int .i64 s.1, .int .i64 s.2], .agg #[.int .i64 t.1, .int .i64 t.2]] W fun e W' => e = .returned (.tuple #[.agg #[.int .i64 (sAdd s t).1.1, .int .i64 (sAdd s t).1.2], .int .i64 (sAdd s t).2]) ∧ St w W' bs ao cap l :=
  (span_Add s t W).mono fun _ _ ⟨h1, h2⟩ => ⟨h1, h.on h2⟩
end
end Go.Proofs.Ytgpaillkekhmdaa
