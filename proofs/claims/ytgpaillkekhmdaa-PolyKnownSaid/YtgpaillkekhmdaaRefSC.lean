/- Contracts of the reference of layer 2: Mul, Div. Printed by wip/genRC.py. -/
import Derived.BigRegion
import Derived.Deep.RegionHeld3
import Derived.Test.YtgpaillkekhmdaaRefY
namespace Mnc
open Go
/-- What stands at place j before round k. -/
def lk (v : Int) (j k : Nat) : Int := if j < k then v else 0
theorem fitB_and (l1 l2 l3 l4 h1 h2 h3 h4 : Int) (k1 : l1 ≤ h1) (k2 : l2 ≤ h2) (k3 : l3 ≤ h3) (k4 : l4 ≤ h4) :
    (if (((((true && (fitB l1).2 && (fitB h1).2) && (fitB l2).2 && (fitB h2).2) && (fitB l3).2 && (fitB h3).2) && (fitB l4).2 && (fitB h4).2)) = true then sT (min4 (fitB l1).1 (fitB l2).1 (fitB l3).1 (fitB l4).1) (max4 (fitB h1).1 (fitB h2).1 (fitB h3).1 (fitB h4).1) else ((0, 0), 6)) = sT (min4 l1 l2 l3 l4) (max4 h1 h2 h3 h4) := by
  by_cases h : ok l1 ∧ ok h1 ∧ ok l2 ∧ ok h2 ∧ ok l3 ∧ ok h3 ∧ ok l4 ∧ ok h4
  · obtain ⟨a1, b1, a2, b2, a3, b3, a4, b4⟩ := h
    rw [fitB_ok a1, fitB_ok b1, fitB_ok a2, fitB_ok b2, fitB_ok a3, fitB_ok b3, fitB_ok a4, fitB_ok b4]
    rfl
  · rw [if_neg, sT_bad]
    · unfold ok at h
      unfold min4 max4
      omega
    · intro g
      apply h
      have e : ∀ v, (fitB v).2 = true → ok v := fun v hv => by
        by_cases hh : ok v
        · exact hh
        · rw [fitB_bad hh] at hv
          cases hv
      simp only [Bool.true_and, Bool.and_eq_true] at g
      obtain ⟨⟨⟨⟨⟨⟨⟨g1, g2⟩, g3⟩, g4⟩, g5⟩, g6⟩, g7⟩, g8⟩ := g
      exact ⟨e _ g1, e _ g2, e _ g3, e _ g4, e _ g5, e _ g6, e _ g7, e _ g8⟩
theorem fitB_le {l1 l2 l3 l4 h1 h2 h3 h4 : Int} (k1 : l1 ≤ h1) (k2 : l2 ≤ h2) (k3 : l3 ≤ h3) (k4 : l4 ≤ h4) (h : (((((true && (fitB l1).2 && (fitB h1).2) && (fitB l2).2 && (fitB h2).2) && (fitB l3).2 && (fitB h3).2) && (fitB l4).2 && (fitB h4).2)) = true) : min4 (fitB l1).1 (fitB l2).1 (fitB l3).1 (fitB l4).1 ≤ max4 (fitB h1).1 (fitB h2).1 (fitB h3).1 (fitB h4).1 := by
  have e : ∀ v, (fitB v).2 = true → (fitB v).1 = v := fun v hv => by
    by_cases hh : ok v
    · rw [fitB_ok hh]
    · rw [fitB_bad hh] at hv
      cases hv
  simp only [Bool.true_and, Bool.and_eq_true] at h
  obtain ⟨⟨⟨⟨⟨⟨⟨g1, g2⟩, g3⟩, g4⟩, g5⟩, g6⟩, g7⟩, g8⟩ := h
  rw [e _ g1, e _ g2, e _ g3, e _ g4, e _ g5, e _ g6, e _ g7, e _ g8]
  unfold min4 max4
  omega
end Mnc
namespace Go.Proofs.Ytgpaillkekhmdaa
open Go.RowKit Mnc

theorem keep4 {w3 W : World} {B0 B1 : Nat} {x y z u : Value} (l0 : B0 < w3.heap.size) (l1 : B1 < w3.heap.size) (a0 : w3.cell? ⟨B0, 0, none⟩ = some x) (a1 : w3.cell? ⟨B0, 1, none⟩ = some y) (b0 : w3.cell? ⟨B1, 0, none⟩ = some z) (b1 : w3.cell? ⟨B1, 1, none⟩ = some u) (k : Below w3.heap.size w3 W) :
    W.cell? ⟨B0, 0, none⟩ = some x ∧ W.cell? ⟨B0, 1, none⟩ = some y ∧ W.cell? ⟨B1, 0, none⟩ = some z ∧ W.cell? ⟨B1, 1, none⟩ = some u :=
  ⟨(k.cell (p := ⟨B0, 0, none⟩) l0).trans a0, (k.cell (p := ⟨B0, 1, none⟩) l0).trans a1, (k.cell (p := ⟨B1, 0, none⟩) l1).trans b0, (k.cell (p := ⟨B1, 1, none⟩) l1).trans b1⟩
theorem keep2c {w3 W : World} {B0 B1 i j : Nat} {x y : Value} (l0 : B0 < w3.heap.size) (l1 : B1 < w3.heap.size) (a0 : w3.cell? ⟨B0, i, none⟩ = some x) (a1 : w3.cell? ⟨B1, j, none⟩ = some y) (k : Below w3.heap.size w3 W) :
    W.cell? ⟨B0, i, none⟩ = some x ∧ W.cell? ⟨B1, j, none⟩ = some y ∧ Below w3.heap.size w3 W :=
  ⟨(k.cell (p := ⟨B0, i, none⟩) l0).trans a0, (k.cell (p := ⟨B1, j, none⟩) l1).trans a1, k⟩
theorem below_drew' {w W : World} (h : Below w.heap.size w.drew W) : Below w.heap.size w W := (Below.refl _ _).drew.trans h

theorem frz4 {w : World} {b i : Nat} {p q r s : Value} {t : TypeId} (h : w.heap[b]? = some (.cells #[p, q, r, s] t (0, 0))) : w.frozen? ⟨b, i, none⟩ = false := by simp [World.frozen?, h]

def ref2_mul_fk (s t : Int × Int) : Nat → Bool
  | 0 => true
  | 1 => (true && (fitB (fl (s.1 * t.1))).2 && (fitB (cl (s.1 * t.1))).2)
  | 2 => ((true && (fitB (fl (s.1 * t.1))).2 && (fitB (cl (s.1 * t.1))).2) && (fitB (fl (s.1 * t.2))).2 && (fitB (cl (s.1 * t.2))).2)
  | 3 => (((true && (fitB (fl (s.1 * t.1))).2 && (fitB (cl (s.1 * t.1))).2) && (fitB (fl (s.1 * t.2))).2 && (fitB (cl (s.1 * t.2))).2) && (fitB (fl (s.2 * t.1))).2 && (fitB (cl (s.2 * t.1))).2)
  | _ => ((((true && (fitB (fl (s.1 * t.1))).2 && (fitB (cl (s.1 * t.1))).2) && (fitB (fl (s.1 * t.2))).2 && (fitB (cl (s.1 * t.2))).2) && (fitB (fl (s.2 * t.1))).2 && (fitB (cl (s.2 * t.1))).2) && (fitB (fl (s.2 * t.2))).2 && (fitB (cl (s.2 * t.2))).2)
end Go.Proofs.Ytgpaillkekhmdaa
