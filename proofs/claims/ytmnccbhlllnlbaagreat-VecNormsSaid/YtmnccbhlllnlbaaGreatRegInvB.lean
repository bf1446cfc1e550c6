/- RegInv's steps with their numbers and slots as numerals. -/
import Derived.Test.YtmnccbhlllnlbaaGreatRegInv
namespace Mnc
open Go
theorem AllS.consN {P : Program} {ops : Array Oper} {s0 : Nat → Value} {I : (Nat → Bool) → (Nat → Value) → World → Prop} {o : Oper} {l : List Oper} {k : Nat} (k' : Nat) (d : Option Tmp) (hk : k + 1 = k') (hd : o.dst = d)
    (h : ∀ L s w, I L s w → KeepS ops s0 s → AfterL o.after.toList L → L k = false → StepS P ops o s w (fun v w' => I (upB L k) (upV s d v) w')) (t : AllS P ops s0 I l k') : AllS P ops s0 I (o :: l) k := by
  subst hk
  subst hd
  exact ⟨h, t⟩
/-- The rule, the frame behind the region a letter with its equation: for a walk that goes on in place. -/
theorem wp_region_go {P : Program} {ops : Array Oper} {Q : Exit → Act → World → Prop} {ds : List Deferred} {id : Nat} {l : List Value} {w : World} (I : (Nat → Bool) → (Nat → Value) → World → Prop) (hm : P.follows .mixedOrders = true) (hk : okOps l.length ops.toList 0 = true)
    (h0 : I (fun _ => false) (fun t => l.getD t undef) w.drew) (hs : AllS P ops (fun t => l.getD t undef) I ops.toList 0)
    (hQ : ∀ L s w, I L s w → KeepS ops (fun t => l.getD t undef) s → (∀ i, i < ops.size → L i = true) → ∀ a, a = actS l.length s ds → Q .normal a w) : (Code.region id ops true).wp P Q ⟨l.toArray, ds⟩ w :=
  wp_region_inv I hm hk h0 hs fun L s w hI hk hl => hQ L s w hI hk hl _ rfl
end Mnc
