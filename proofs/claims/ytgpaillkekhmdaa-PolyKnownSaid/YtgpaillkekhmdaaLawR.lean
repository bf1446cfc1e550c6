/- What a walk over slices and boxes knows, further: subsets, stores into a box, a row that grew. -/
import Derived.Test.YtgpaillkekhmdaaLawP
import Derived.Test.YtgpaillkekhmdaaRegInvC
namespace Go.Proofs.Ytgpaillkekhmdaa
open Go.RowKit Go.Shelf Mnc
theorem St.sub {w W : World} {bs bs' : List (Nat × Obj)} {ao : Option Addr} {cap : Nat} {l : List (Int × Int)} (h : St w W bs ao cap l) (k : ∀ p ∈ bs', p ∈ bs) : St w W bs' ao cap l := ⟨h.bel, fun p hp => h.blk p (k p hp), h.slc⟩
theorem St.set2 {w W : World} {bs : List (Nat × Obj)} {ao : Option Addr} {cap k : Nat} {l : List (Int × Int)} {o : Obj} (h : St w W ((k, o) :: bs) ao cap l) (hk : w.heap.size ≤ k) (hb : ∀ p ∈ bs, p.1 ≠ k) (ha : ∀ a, ao = some a → a.block ≠ k) (p q x y : Int) (ho : o = .cells #[.int .i64 p, .int .i64 q] 33 (0, 0)) :
    St w ((W.setCell ⟨k, 0, none⟩ (.int .i64 x)).setCell ⟨k, 1, none⟩ (.int .i64 y)) ((k, .cells #[.int .i64 x, .int .i64 y] 33 (0, 0)) :: bs) ao cap l := by
  subst ho
  have h0 := h.blk _ (List.mem_cons_self ..)
  refine ⟨below_set2 h.bel hk _ _, fun r hr => ?_, ⟨h.slc.le, h.slc.max, h.slc.cmax, h.slc.isNil, h.slc.isSome, fun a e j u hu => ?_⟩⟩
  · rcases List.mem_cons.1 hr with rfl | hr
    · simp only
      rw [heap_setCell_same _ _ _ _ _ _ (heap_setCell_same _ _ _ _ _ _ h0)]
      rfl
    · rw [heap_setCell_other _ _ _ _ (by have := hb _ hr; simpa using this), heap_setCell_other _ _ _ _ (by have := hb _ hr; simpa using this)]
      exact h.blk _ (List.mem_cons_of_mem _ hr)
  · have hc := h.slc.cells a e j u hu
    have hne := ha a e
    have hbk : (a.add j).block = a.block := by unfold Addr.add; split <;> rfl
    simp only [World.cell?] at hc ⊢
    rw [heap_setCell_other _ _ _ _ (by rw [hbk]; simpa using hne), heap_setCell_other _ _ _ _ (by rw [hbk]; simpa using hne)]
    exact hc

/-- Behind an append to a row made since B. -/
theorem St.grown {w X X' : World} {bs : List (Nat × Obj)} {ao : Option Addr} {cap B : Nat} {l : List (Int × Int)} {row : Option Nat} (h : St w X bs ao cap l) (hg : X.grownBy X' row) (hw : w.heap.size ≤ B) (hr : ∀ k, row = some k → B ≤ k) (hb : ∀ p ∈ bs, p.1 < B) (ha : ∀ a, ao = some a → a.block < B) : St w X' bs ao cap l :=
  ⟨h.bel.grown hg (by exact h.bel.size) (fun k hk => by have := hr k hk; omega),
   fun p hp => (hg.block _ (lt_of_block (h.blk p hp)) (fun e => by have := hr p.1 e.symm; have := hb p hp; omega)).trans (h.blk p hp),
   ⟨h.slc.le, h.slc.max, h.slc.cmax, h.slc.isNil, h.slc.isSome, fun a e j u hu => by
    have hc := h.slc.cells a e j u hu
    have hl := ha a e
    have hbk : (a.add j).block = a.block := by unfold Addr.add; split <;> rfl
    exact hg.cell hc (fun e' => by have := hr _ e'.symm; omega)⟩⟩
theorem row_two {X : World} {g : Nat} {x y : Value} {t : TypeId} (h : X.heap[g]? = some (.cells #[x, y] t (0, 0))) : ∀ (j : Nat) (u : Value), [x, y][j]? = some u → X.cell? ((⟨g, 0, none⟩ : Addr).add j) = some u := by
  intro j u e
  have hadd : (⟨g, 0, none⟩ : Addr).add j = ⟨g, j, none⟩ := by unfold Addr.add; split <;> simp_all
  rw [hadd, cell_of_row X g j _ _ _ h]
  simpa using e
theorem lc {α : Type} {a b : α} {l m : List α} (h : a = b) (t : l = m) : a :: l = b :: m := by rw [h, t]
section
variable {w W : World} {g : Nat} {ao : Option Addr} {cap : Nat} {M0 : List (Int × Int)}
theorem St.setc {bs : List (Nat × Obj)} (h : St w W bs ao cap M0) (hk : w.heap.size ≤ g) (hb : ∀ p ∈ bs, p.1 ≠ g) (ha : ∀ a, ao = some a → a.block ≠ g) (j : Nat) (v : Value) : St w (W.setCell ⟨g, j, none⟩ v) bs ao cap M0 := by
  refine ⟨h.bel.setCell hk _, fun r hr => ?_, ⟨h.slc.le, h.slc.max, h.slc.cmax, h.slc.isNil, h.slc.isSome, fun a e j u hu => ?_⟩⟩
  · rw [heap_setCell_other _ _ _ _ (by have := hb _ hr; simpa using this)]
    exact h.blk _ hr
  · have hc := h.slc.cells a e j u hu
    have hne := ha a e
    have hbk : (a.add j).block = a.block := by unfold Addr.add; split <;> rfl
    simp only [World.cell?] at hc ⊢
    rw [heap_setCell_other _ _ _ _ (by rw [hbk]; simpa using hne)]
    exact hc
theorem SpSl.set2 {l : List (Int × Int)} (h : SpSl W ao cap l) (ha : ∀ a, ao = some a → a.block ≠ g) (x y : Value) : SpSl ((W.setCell ⟨g, 0, none⟩ x).setCell ⟨g, 1, none⟩ y) ao cap l := by
  refine ⟨h.le, h.max, h.cmax, h.isNil, h.isSome, fun a e j u hu => ?_⟩
  have hc := h.cells a e j u hu
  have hne := ha a e
  have hbk : (a.add j).block = a.block := by unfold Addr.add; split <;> rfl
  simp only [World.cell?] at hc ⊢
  rw [heap_setCell_other _ _ _ _ (by rw [hbk]; simpa using hne), heap_setCell_other _ _ _ _ (by rw [hbk]; simpa using hne)]
  exact hc
theorem set2_blk {p q : Value} {t : TypeId} (h : W.heap[g]? = some (.cells #[p, q] t (0, 0))) (x y : Value) : ((W.setCell ⟨g, 0, none⟩ x).setCell ⟨g, 1, none⟩ y).heap[g]? = some (.cells #[x, y] t (0, 0)) := by
  rw [heap_setCell_same _ _ _ _ _ _ (heap_setCell_same _ _ _ _ _ _ h)]
  rfl
end
end Go.Proofs.Ytgpaillkekhmdaa
