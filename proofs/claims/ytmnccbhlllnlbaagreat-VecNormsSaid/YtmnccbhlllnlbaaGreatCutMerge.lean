/- A cut around a statement: the slots named are forgotten, by one letter for all of them. -/
import Derived.Tactics
import Derived.Test.YtmnccbhlllnlbaaGreatRegInv
namespace Mnc
open Go
/-- The frame l with the slots named taken from s. -/
def mergeL : List (Option Nat) → List Value → (Nat → Value) → List Value
  | [], _, _ => []
  | some k :: m, _ :: l, s => s k :: mergeL m l s
  | none :: m, v :: l, s => v :: mergeL m l s
  | _ :: _, [], _ => []
theorem merge_meet {Q' : Exit → Act → World → Prop} {m : List (Option Nat)} {l l' : List Value} {ds : List Deferred} {w' : World} {R : (Nat → Value) → World → Prop}
    (hQ : ∀ s w', R s w' → Q' .normal ⟨(mergeL m l s).toArray, ds⟩ w') (he : mergeL m l (fun t => l'.getD t undef) = l') (hR : R (fun t => l'.getD t undef) w') : Q' .normal ⟨l'.toArray, ds⟩ w' := by
  have h := hQ _ _ hR
  rw [he] at h
  exact h
theorem wp_cut_merge {P : Program} {c : Code} {Q : Exit → Act → World → Prop} {l : List Value} {ds : List Deferred} {w : World} (m : List (Option Nat)) (R : (Nat → Value) → World → Prop)
    (h1 : ∀ Q' : Exit → Act → World → Prop, (∀ s w', R s w' → Q' .normal ⟨(mergeL m l s).toArray, ds⟩ w') → c.wp P Q' ⟨l.toArray, ds⟩ w)
    (h2 : ∀ s w', R s w' → Q .normal ⟨(mergeL m l s).toArray, ds⟩ w') : c.wp P Q ⟨l.toArray, ds⟩ w := by
  refine Code.wp_mono (Q := fun e a w' => e = .normal ∧ ∃ s, R s w' ∧ a = ⟨(mergeL m l s).toArray, ds⟩) ?_ (h1 _ fun s w' h => ⟨rfl, s, h, rfl⟩)
  rintro e a w' ⟨rfl, s, h, rfl⟩
  exact h2 s w' h
end Mnc
