/- Contract: fix.FromDec. -/
import Derived.Test.YtgfofilkpaelnaaFixR
import Derived.OneCell
namespace Go.Proofs.Ytgfofilkpaelnaa
open Go.RowKit Mnc

theorem pow_lt {k : Nat} (h : k < 13) : 10 ^ k < 18446744073709551616 := Nat.lt_of_lt_of_le (Nat.pow_lt_pow_right (by omega) h) (by decide)

theorem ret3 {k k' k'' : IntKind} {a b c : Int} {p : Int × Int × Int} (h : p = (a, b, c)) : Ending.returned (.tuple #[.int k a, .int k' b, .int k'' c]) = .returned (.tuple #[.int k p.1, .int k' p.2.1, .int k'' p.2.2]) := by rw [h]

def DecAt (p0 p1 : Int × Int) (j : Nat) (x y : Int) : Prop := (1 ≤ j → p0.2 = 0 ∧ x = p0.1) ∧ (2 ≤ j → p1.2 = 0 ∧ y = p1.1)
structure DecMem (w wr : World) (a : Int) (k : Nat) (x y : Int) : Prop where
  bel : Below w.heap.size w wr
  b0 : wr.heap[w.heap.size]? = some (.cells #[.int .i64 a] 3 (0, 0))
  b1 : wr.heap[w.heap.size + 1]? = some (.cells #[.int .i64 (k : Int)] 3 (0, 0))
  b2 : wr.heap[w.heap.size + 1 + 1]? = some (.cells #[.int .i64 x, .int .i64 y] 108 (0, 0))

theorem DecMem.start (w : World) (a : Int) (k : Nat) : DecMem w (((w.alloc (.cells #[.int .i64 a] 3)).alloc (.cells #[.int .i64 (k : Int)] 3)).alloc (.cells #[.int .i64 0, .int .i64 0] 108)) a k 0 0 where
  bel := (((Below.refl _ _).alloc (Nat.le_refl _) _).alloc (by simp) _).alloc (by simp; omega) _
  b0 := by
    rw [Below.heap_alloc _ _ _ (by simp; omega), Below.heap_alloc _ _ _ (by simp)]
    exact heap_alloc_new w _
  b1 := by
    rw [Below.heap_alloc _ _ _ (by simp)]
    have h := heap_alloc_new (w.alloc (.cells #[.int .i64 a] 3)) (.cells #[.int .i64 (k : Int)] 3)
    rw [show (w.alloc (.cells #[.int .i64 a] 3)).heap.size = w.heap.size + 1 by simp] at h
    exact h
  b2 := by
    have h := heap_alloc_new ((w.alloc (.cells #[.int .i64 a] 3)).alloc (.cells #[.int .i64 (k : Int)] 3)) (.cells #[.int .i64 0, .int .i64 0] 108)
    rw [show ((w.alloc (.cells #[.int .i64 a] 3)).alloc (.cells #[.int .i64 (k : Int)] 3)).heap.size = w.heap.size + 1 + 1 by simp] at h
    exact h

theorem DecMem.set0 {w wr w' : World} {a : Int} {k : Nat} {x y : Int} (h : DecMem w wr a k x y) (hb : Below wr.heap.size wr w') (z : Int) : DecMem w (w'.setCell ⟨w.heap.size + 1 + 1, 0, none⟩ (.int .i64 z)) a k z y where
  bel := (below_step h.bel hb).setCell (by simp; omega) _
  b0 := by rw [heap_setCell_other _ _ _ _ (by simp; omega), hb.block _ (lt_of_block h.b0)]; exact h.b0
  b1 := by rw [heap_setCell_other _ _ _ _ (by simp), hb.block _ (lt_of_block h.b1)]; exact h.b1
  b2 := by rw [heap_setCell_same _ _ _ _ _ _ ((hb.block _ (lt_of_block h.b2)).trans h.b2)]; rfl

theorem DecMem.set1 {w wr w' : World} {a : Int} {k : Nat} {x y : Int} (h : DecMem w wr a k x y) (hb : Below wr.heap.size wr w') (z : Int) : DecMem w (w'.setCell ⟨w.heap.size + 1 + 1, 1, none⟩ (.int .i64 z)) a k x z where
  bel := (below_step h.bel hb).setCell (by simp; omega) _
  b0 := by rw [heap_setCell_other _ _ _ _ (by simp; omega), hb.block _ (lt_of_block h.b0)]; exact h.b0
  b1 := by rw [heap_setCell_other _ _ _ _ (by simp), hb.block _ (lt_of_block h.b1)]; exact h.b1
  b2 := by rw [heap_setCell_same _ _ _ _ _ _ ((hb.block _ (lt_of_block h.b2)).trans h.b2)]; rfl

theorem cell_two0 {w : World} {b : Nat} {u v : Value} {t : TypeId} (h : w.heap[b]? = some (.cells #[u, v] t (0, 0))) : w.cell? ⟨b, 0, none⟩ = some u := by simp [World.cell?, h]
theorem cell_two1 {w : World} {b : Nat} {u v : Value} {t : TypeId} (h : w.heap[b]? = some (.cells #[u, v] t (0, 0))) : w.cell? ⟨b, 1, none⟩ = some v := by simp [World.cell?, h]
theorem free_two {w : World} {b i : Nat} {u v : Value} {t : TypeId} (h : w.heap[b]? = some (.cells #[u, v] t (0, 0))) : w.frozen? ⟨b, i, none⟩ = false := by simp [World.frozen?, h]

end Go.Proofs.Ytgfofilkpaelnaa
