/- slices.Clone at any slice of intervals, the nil one among them. -/
import Derived.Test.YtgpaillkekhmdaaPolyX
namespace Go.Proofs.Ytgpaillkekhmdaa
open Go.RowKit Go.Shelf Mnc

set_option maxRecDepth 100000 in
set_option maxHeartbeats 2000000 in
theorem clone_nil (w : World) :
    Calls Try.prog 9 #[.slice none 0 0] w fun e w' => e = .returned (.slice none 0 0) ∧ Below w.heap.size w w' := by
  have q22 : ∀ (w : World) (a : Option Addr) (n c n' c' : Nat), (binOp .eql 30 (.slice a n c) (.slice none n' c')).run Try.prog w = .ok (.bool a.isNone) w := fun w a n c n' c' => Lib.run_eql_slice_nil w _ _ a n c n' c' Try.underlying30
  go_enter Try.func9, Try.ntmps9
  go_wp2
  go_ret
  exact ⟨rfl, Below.refl _ _⟩

theorem clone_any (l : List (Int × Int)) (ao : Option Addr) (cap : Nat) (w : World) (h : SpSl w ao cap l) (hl : l.length ≤ 1000) :
    Calls Try.prog 9 #[.slice ao l.length cap] w fun e w' => ∃ v', e = .returned v' ∧ w'.ownsRow w.heap.size 33 2 v' l.length (flat l) ∧ Below w.heap.size w w' := by
  cases ao with
  | none =>
    obtain ⟨h1, rfl⟩ := h.isNil rfl
    obtain rfl := List.eq_nil_of_length_eq_zero h1
    refine (clone_nil w).mono ?_
    rintro e w' ⟨rfl, hb⟩
    exact ⟨_, rfl, World.ownsRow_nil _ _ _ _, hb⟩
  | some a =>
    have := h.isSome a rfl
    rw [this] at h ⊢
    refine (clone_spans l a.block a.off cap w h hl).mono ?_
    rintro e w' ⟨v', rfl, hown, _, hb⟩
    exact ⟨v', rfl, hown, hb⟩
end Go.Proofs.Ytgpaillkekhmdaa
