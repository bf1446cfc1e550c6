/- The pairs 1 to 3 are valid; their cells. -/
import Derived.Test.YtjphhdfkkkdppaaDoorLawT
namespace Go.Proofs.YtjphhdfkkkdppaaDoor
open Go.RowKit Mnc
theorem prs_ok {T : Tw} (hT : T.ok) : ∀ (k : Nat) (p : (Int × Int) × (Int × Int)), k < 3 → (prsOf T)[k + 1]? = some p → okS p.1 ∧ okS p.2 := by
  have h1 := dSpan_okS T.x0 T.x1 T.x2 hT.x2
  have h2 := dSpan_okS T.y0 T.y1 T.y2 hT.y2
  have h3 := (dSmall_sml T.x0 T.x1 T.x2 hT.x2).1
  have h4 := (dSmall_sml T.y0 T.y1 T.y2 hT.y2).1
  intro k p hk hp
  rcases (by omega : k = 0 ∨ k = 1 ∨ k = 2) with rfl | rfl | rfl
  · obtain rfl := Option.some.inj hp
    exact ⟨h1, h2⟩
  · obtain rfl := Option.some.inj hp
    exact ⟨h3, h4⟩
  · obtain rfl := Option.some.inj hp
    exact ⟨h1, h4⟩
theorem pr_cells4 {W : World} {g : Nat} {l : List ((Int × Int) × (Int × Int))} (h : W.heap[g]? = some (prObj l)) {k : Nat} {p : (Int × Int) × (Int × Int)} (hk : l[k + 1]? = some p) :
    W.cell? ⟨g, 4 + k * 4, none⟩ = some (.int .i64 p.1.1) ∧ W.cell? ⟨g, 4 + k * 4 + 1, none⟩ = some (.int .i64 p.1.2) ∧ W.cell? ⟨g, 4 + k * 4 + 2, none⟩ = some (.int .i64 p.2.1) ∧ W.cell? ⟨g, 4 + k * 4 + 3, none⟩ = some (.int .i64 p.2.2) := by
  have := pr_cells h hk
  rw [show (k + 1) * 4 = 4 + k * 4 by omega] at this
  exact this
end Go.Proofs.YtjphhdfkkkdppaaDoor
