/- Contracts of package span: between's closure; between at products and at quotients; Mul, Div. Printed by wip/genSE.py. -/
import Derived.Laws.EntriesVeiled
import Derived.Test.YtgfofilkpaelnaaSpanD
namespace Go.Proofs.Ytgfofilkpaelnaa
open Go.RowKit Go.Shelf Mnc
attribute [local go_sem] Oper.semAt_some

theorem keeps_of_below {W W' : World} (h : Below W.heap.size W W') : KeepsOthers W W' :=
  ⟨h.size, fun k _ hk _ => (h.block k (lt_of_block hk)).trans hk⟩
theorem block_kept {W W' : World} {k : Nat} {c : Array Value} {t : TypeId} {f : Nat × Nat} {row : Option Nat} (h : W.heap[k]? = some (.cells c t f)) (hg : W.grownBy W' row) (hr : ∀ r, row = some r → ∃ o : Obj, W.heap[r]? = some o ∧ o.isCells = false) : W'.heap[k]? = some (.cells c t f) := by
  rw [hg.block k (lt_of_block h) ?_]
  · exact h
  · intro e
    obtain ⟨o, ho, hc⟩ := hr k e.symm
    rw [h] at ho
    cases ho
    cases hc

/-- What take leaves: the two ends and the mark, all else as it was. -/
structure Took (w w' : World) (Bm Be : Nat) (x y : Int) : Prop where
  keep : KeepsOthers w w'
  bel : ∀ n, n ≤ Bm → n ≤ Be → Below n w w'
  bm : w'.heap[Bm]? = some (.cells #[.bool true] 4 (0, 0))
  be : w'.heap[Be]? = some (.cells #[.int .i64 x, .int .i64 y] 108 (0, 0))
  oth : ∀ k, k ≠ Bm → k ≠ Be → w'.heap[k]? = w.heap[k]?

theorem took_mark {w w1 : World} {Bm Be : Nat} {m : Bool} {x y : Int} (hne : Bm ≠ Be) (hm : w1.heap[Bm]? = some (.cells #[.bool m] 4 (0, 0))) (he : w1.heap[Be]? = some (.cells #[.int .i64 x, .int .i64 y] 108 (0, 0)))
    (keep : KeepsOthers w w1) (bel : ∀ n, n ≤ Bm → n ≤ Be → Below n w w1) (oth : ∀ k, k ≠ Bm → k ≠ Be → w1.heap[k]? = w.heap[k]?) : Took w (w1.setCell ⟨Bm, 0, none⟩ (.bool true)) Bm Be x y where
  keep := keep.trans (KeepsOthers.setCell _ _ _)
  bel := fun n h1 h2 => (bel n h1 h2).setCell h1 _
  bm := by rw [heap_setCell_same _ _ _ _ _ _ hm]; rfl
  be := by rw [heap_setCell_other _ _ _ _ (by simp; omega)]; exact he
  oth := fun k h1 h2 => by rw [heap_setCell_other _ _ _ _ (by simp; omega)]; exact oth k h1 h2

theorem set_end0 {w : World} {Be : Nat} {x y z : Int} (he : w.heap[Be]? = some (.cells #[.int .i64 x, .int .i64 y] 108 (0, 0))) : (w.setCell ⟨Be, 0, none⟩ (.int .i64 z)).heap[Be]? = some (.cells #[.int .i64 z, .int .i64 y] 108 (0, 0)) := by
  rw [heap_setCell_same _ _ _ _ _ _ he]; rfl
theorem set_end1 {w : World} {Be : Nat} {x y z : Int} (he : w.heap[Be]? = some (.cells #[.int .i64 x, .int .i64 y] 108 (0, 0))) : (w.setCell ⟨Be, 1, none⟩ (.int .i64 z)).heap[Be]? = some (.cells #[.int .i64 x, .int .i64 z] 108 (0, 0)) := by
  rw [heap_setCell_same _ _ _ _ _ _ he]; rfl
theorem oth_set {w : World} {B i k : Nat} {v : Value} (h : k ≠ B) : (w.setCell ⟨B, i, none⟩ v).heap[k]? = w.heap[k]? := heap_setCell_other _ _ _ _ (by simp; omega)

set_option maxRecDepth 100000 in
set_option maxHeartbeats 1000000 in
theorem span_take (lo hi x y : Int) (m : Bool) (w : World) (Bm Be : Nat) (hne : Bm ≠ Be) (hm : w.heap[Bm]? = some (.cells #[.bool m] 4 (0, 0))) (he : w.heap[Be]? = some (.cells #[.int .i64 x, .int .i64 y] 108 (0, 0))) :
    Calls Try.prog 169 #[.int .i64 lo, .int .i64 hi, .pointer (some ⟨Bm, 0, none⟩), .pointer (some ⟨Be, 0, none⟩)] w fun e w' => (∃ v, e = .returned v) ∧ Took w w' Bm Be (if m = false ∨ lo < x then lo else x) (if m = false ∨ y < hi then hi else y) := by
  have cm := cell_of_one hm
  have fm := free_of_one hm
  have c0 := cell_two0 he
  have c1 := cell_two1 he
  have f0 := free_two (i := 0) he
  have f1 := free_two (i := 1) he
  have lm := lt_of_block hm
  have le := lt_of_block he
  have Hm := Lib.hid hm
  have He := Lib.hid he
  clear hm he
  have hm0 : ∀ i v, (w.setCell ⟨Be, i, none⟩ v).heap[Bm]? = some (.cells #[.bool m] 4 (0, 0)) := fun i v => by rw [oth_set hne]; exact Hm.out
  have hm1 : ∀ i v j u, ((w.setCell ⟨Be, i, none⟩ v).setCell ⟨Be, j, none⟩ u).heap[Bm]? = some (.cells #[.bool m] 4 (0, 0)) := fun i v j u => by rw [oth_set hne, oth_set hne]; exact Hm.out
  have HM0 := Lib.hid hm0
  have HM1 := Lib.hid hm1
  have hne2 : ¬ Be = Bm := fun h => hne h.symm
  clear hm0 hm1
  cases m
  · rw [if_pos (Or.inl rfl), if_pos (Or.inl rfl)]
    go_enter Try.func169, Try.ntmps169
    go_wp2
    go_end0
    exact ⟨⟨_, rfl⟩, took_mark hne (HM1.out _ _ _ _) (set_end1 (set_end0 He.out)) ((KeepsOthers.setCell _ _ _).trans (KeepsOthers.setCell _ _ _)) (fun n h1 h2 => ((Below.refl n w).setCell h2 _).setCell h2 _) (fun k h1 h2 => by rw [oth_set h2, oth_set h2])⟩
  · by_cases h1 : lo < x
    · rw [if_pos (Or.inr h1)]
      by_cases h2 : y < hi
      · rw [if_pos (Or.inr h2)]
        go_enter Try.func169, Try.ntmps169
        go_wp2
        go_end0
        exact ⟨⟨_, rfl⟩, took_mark hne (HM1.out _ _ _ _) (set_end1 (set_end0 He.out)) ((KeepsOthers.setCell _ _ _).trans (KeepsOthers.setCell _ _ _)) (fun n h1 h2 => ((Below.refl n w).setCell h2 _).setCell h2 _) (fun k h1 h2 => by rw [oth_set h2, oth_set h2])⟩
      · rw [if_neg (by simp; omega)]
        go_enter Try.func169, Try.ntmps169
        go_wp2
        go_end0
        exact ⟨⟨_, rfl⟩, took_mark hne (HM0.out _ _) (set_end0 He.out) (KeepsOthers.setCell _ _ _) (fun n h1 h2 => (Below.refl n w).setCell h2 _) (fun k h1 h2 => by rw [oth_set h2])⟩
    · rw [if_neg (by simp; omega)]
      by_cases h2 : y < hi
      · rw [if_pos (Or.inr h2)]
        go_enter Try.func169, Try.ntmps169
        go_wp2
        go_end0
        exact ⟨⟨_, rfl⟩, took_mark hne (HM0.out _ _) (set_end1 He.out) (KeepsOthers.setCell _ _ _) (fun n h1 h2 => (Below.refl n w).setCell h2 _) (fun k h1 h2 => by rw [oth_set h2])⟩
      · rw [if_neg (by simp; omega)]
        go_enter Try.func169, Try.ntmps169
        go_wp2
        go_end0
        exact ⟨⟨_, rfl⟩, took_mark hne Hm.out He.out (KeepsOthers.refl _) (fun n h1 h2 => Below.refl n w) (fun k h1 h2 => rfl)⟩

end Go.Proofs.Ytgfofilkpaelnaa