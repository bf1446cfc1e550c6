/- What the walks of law 02's statements share: boxes that are made and filled, the pairs and their loop. -/
import Derived.Test.YtjphhdfkkkdppaaDoorPairs
import Derived.Test.YtjphhdfkkkdppaaDoorLawTwoW
import Derived.Test.YtjphhdfkkkdppaaDoorSpanLawB
namespace Go.Proofs.YtjphhdfkkkdppaaDoor
open Go.RowKit Mnc

section
variable {w W W' : World} {bs : List (Nat × Obj)}
theorem Kn.al2 (h : Kn w W bs) (x y u v : Value) (t : TypeId) : Kn w (((W.alloc (.cells #[x, y] t (0, 0))).setCell ⟨W.heap.size, 0, none⟩ u).setCell ⟨W.heap.size, 1, none⟩ v) ((W.heap.size, .cells #[u, v] t (0, 0)) :: bs) :=
  ⟨below_set2 (below_alloc h.bel _) h.bel.size _ _, fun p hp => by
    rcases List.mem_cons.1 hp with rfl | hp
    · have h0 : (W.alloc (.cells #[x, y] t (0, 0))).heap[W.heap.size]? = some (.cells #[x, y] t (0, 0)) := heap_at _ rfl
      have h1 := heap_setCell_same _ W.heap.size 0 _ t u h0
      exact heap_setCell_same _ W.heap.size 1 _ t v h1
    · have hb := h.blk p hp
      have hne : W.heap.size ≠ p.1 := Nat.ne_of_gt (lt_of_block hb)
      exact heap_set (heap_set (heap_up _ hb) hne) hne⟩
theorem Kn.al4 (h : Kn w W bs) (x y z q u v a b : Value) (t : TypeId) : Kn w (((((W.alloc (.cells #[x, y, z, q] t (0, 0))).setCell ⟨W.heap.size, 0, none⟩ u).setCell ⟨W.heap.size, 1, none⟩ v).setCell ⟨W.heap.size, 2, none⟩ a).setCell ⟨W.heap.size, 3, none⟩ b) ((W.heap.size, .cells #[u, v, a, b] t (0, 0)) :: bs) :=
  ⟨((((below_alloc h.bel _).setCell h.bel.size _).setCell h.bel.size _).setCell h.bel.size _).setCell h.bel.size _, fun p hp => by
    rcases List.mem_cons.1 hp with rfl | hp
    · have h0 : (W.alloc (.cells #[x, y, z, q] t (0, 0))).heap[W.heap.size]? = some (.cells #[x, y, z, q] t (0, 0)) := heap_at _ rfl
      have h1 := heap_setCell_same _ W.heap.size 0 _ t u h0
      have h2 := heap_setCell_same _ W.heap.size 1 _ t v h1
      have h3 := heap_setCell_same _ W.heap.size 2 _ t a h2
      exact heap_setCell_same _ W.heap.size 3 _ t b h3
    · have hb := h.blk p hp
      have hne : W.heap.size ≠ p.1 := Nat.ne_of_gt (lt_of_block hb)
      exact heap_set (heap_set (heap_set (heap_set (heap_up _ hb) hne) hne) hne) hne⟩
/-- Only some of the blocks. -/
theorem Kn.sub {cs : List (Nat × Obj)} (h : Kn w W bs) (k : ∀ p ∈ cs, p ∈ bs) : Kn w W cs := ⟨h.bel, fun p hp => h.blk p (k p hp)⟩
theorem Kn.alN (h : Kn w W bs) (o : Obj) {n : Nat} (hn : W.heap.size = n) : Kn w (W.alloc o) ((n, o) :: bs) := hn ▸ h.al o
/-- A box that is written anew. -/
theorem Kn.st {B : Nat} {x y u v : Value} {t : TypeId} {cs : List (Nat × Obj)} (h : Kn w W bs) (hB : (B, Obj.cells #[x, y] t (0, 0)) ∈ bs) (hge : w.heap.size ≤ B) (hc : ∀ p ∈ cs, p ∈ bs ∧ p.1 ≠ B) :
    Kn w ((W.setCell ⟨B, 0, none⟩ u).setCell ⟨B, 1, none⟩ v) ((B, .cells #[u, v] t (0, 0)) :: cs) :=
  ⟨below_set2 h.bel hge _ _, fun p hp => by
    rcases List.mem_cons.1 hp with rfl | hp
    · exact heap_setCell_same _ B 1 _ t v (heap_setCell_same W B 0 _ t u (h.blk _ hB))
    · obtain ⟨h1, h2⟩ := hc p hp
      exact heap_set (heap_set (h.blk p h1) (Ne.symm h2)) (Ne.symm h2)⟩
theorem Kn.pairs (h : Kn w W bs) (T : Tw) (hT : T.ok) : Calls Tryd.prog 23 #[T.val] W fun e w' => ∃ g : Nat, e = .returned (.slice (some ⟨g, 0, none⟩) 5 5) ∧ Kn w w' ((g, prObj (prsOf T)) :: bs) :=
  (law2_pairs T hT W).mono fun e w' ⟨⟨v, he, g, hv, _, hb⟩, k⟩ => ⟨g, by rw [he, hv], (h.on k).bel, fun p hp => by
    rcases List.mem_cons.1 hp with rfl | hp
    · exact hb
    · exact (h.on k).blk p hp⟩
end
theorem prFlat_at : ∀ (l : List ((Int × Int) × (Int × Int))) (k : Nat) (p : (Int × Int) × (Int × Int)), l[k]? = some p → (prFlat l)[k * 4]? = some (.int .i64 p.1.1) ∧ (prFlat l)[k * 4 + 1]? = some (.int .i64 p.1.2) ∧ (prFlat l)[k * 4 + 2]? = some (.int .i64 p.2.1) ∧ (prFlat l)[k * 4 + 3]? = some (.int .i64 p.2.2)
  | [], k, p, h => by simp at h
  | q :: l, 0, p, h => by
    obtain rfl : q = p := by simpa using h
    exact ⟨rfl, rfl, rfl, rfl⟩
  | q :: l, k + 1, p, h => by
    have := prFlat_at l k p (by simpa using h)
    rw [show (k + 1) * 4 = k * 4 + 4 by omega]
    exact this
theorem pr_cells {W : World} {g : Nat} {l : List ((Int × Int) × (Int × Int))} (h : W.heap[g]? = some (prObj l)) {k : Nat} {p : (Int × Int) × (Int × Int)} (hk : l[k]? = some p) :
    W.cell? ⟨g, k * 4, none⟩ = some (.int .i64 p.1.1) ∧ W.cell? ⟨g, k * 4 + 1, none⟩ = some (.int .i64 p.1.2) ∧ W.cell? ⟨g, k * 4 + 2, none⟩ = some (.int .i64 p.2.1) ∧ W.cell? ⟨g, k * 4 + 3, none⟩ = some (.int .i64 p.2.2) := by
  obtain ⟨a, b, c, d⟩ := prFlat_at l k p hk
  simp [World.cell?, h, prObj, a, b, c, d]
end Go.Proofs.YtjphhdfkkkdppaaDoor
