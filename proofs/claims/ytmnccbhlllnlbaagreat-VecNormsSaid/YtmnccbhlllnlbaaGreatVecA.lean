/- Package vec: the calculator that keeps the first error: what is known of its memory; contracts of take. -/
import Derived.Test.YtmnccbhlllnlbaaGreatVecPlain
import Derived.Test.YtmnccbhlllnlbaaGreatSpanH

namespace Go.Proofs.YtmnccbhlllnlbaaGreat
open Go.RowKit Mnc

theorem lc {α : Type} {a b : α} {l m : List α} (h : a = b) (t : l = m) : a :: l = b :: m := by rw [h, t]
/-- The calculator's cell. -/
def stp (e : Int) : Obj := .cells #[.int .i64 e] 69 (0, 0)
/-- All but the calculator's cell is as it was; the cell holds e. -/
structure Mv (W W' : World) (S : Nat) (e : Int) : Prop where
  lt : S < W.heap.size
  bel : Below S W W'
  oth : ∀ k, k < W.heap.size → k ≠ S → W'.heap[k]? = W.heap[k]?
  st : W'.heap[S]? = some (stp e)
section
variable {w W W' : World} {S : Nat} {e e' : Int} {bs cs : List (Nat × Obj)}
theorem Mv.start (h : W.heap[S]? = some (stp e)) : Mv W W S e := ⟨lt_of_block h, Below.refl _ _, fun _ _ _ => rfl, h⟩
theorem Mv.on (h : Mv w W S e) (k : Below W.heap.size W W') : Mv w W' S e :=
  ⟨h.lt, h.bel.trans (k.mono (Nat.le_of_lt (lt_of_block h.st))), fun j hj hne => (k.block j (Nat.lt_of_lt_of_le hj h.bel.size)).trans (h.oth j hj hne), (k.block S (lt_of_block h.st)).trans h.st⟩
theorem Mv.next (h : Mv w W S e) (k : Mv W W' S e') : Mv w W' S e' :=
  ⟨h.lt, h.bel.trans k.bel, fun j hj hne => (k.oth j (Nat.lt_of_lt_of_le hj h.bel.size) hne).trans (h.oth j hj hne), k.st⟩
theorem Mv.put (h : Mv w W S e) (e' : Int) : Mv w (W.setCell ⟨S, 0, none⟩ (.int .i64 e')) S e' :=
  ⟨h.lt, h.bel.setCell (Nat.le_refl _) _, fun j hj hne => by rw [heap_setCell_other _ _ _ _ (by simpa using hne)]; exact h.oth j hj hne, by
    rw [heap_setCell_same _ _ _ _ _ _ h.st]
    rfl⟩
/-- What a walk over a calculator knows: and of its own blocks. -/
structure Vk (w W : World) (S : Nat) (e : Int) (bs : List (Nat × Obj)) : Prop where
  mv : Mv w W S e
  blk : ∀ p ∈ bs, p.1 ≠ S ∧ W.heap[p.1]? = some p.2
theorem Vk.start (h : W.heap[S]? = some (stp e)) : Vk W W S e [] := ⟨Mv.start h, fun p hp => by simp at hp⟩
theorem Vk.on (h : Vk w W S e bs) (k : Below W.heap.size W W') : Vk w W' S e bs :=
  ⟨h.mv.on k, fun p hp => ⟨(h.blk p hp).1, (k.block _ (lt_of_block (h.blk p hp).2)).trans (h.blk p hp).2⟩⟩
theorem Vk.next (h : Vk w W S e bs) (k : Mv W W' S e') : Vk w W' S e' bs :=
  ⟨h.mv.next k, fun p hp => ⟨(h.blk p hp).1, (k.oth _ (lt_of_block (h.blk p hp).2) (h.blk p hp).1).trans (h.blk p hp).2⟩⟩
theorem Vk.al (h : Vk w W S e bs) (o : Obj) : Vk w (W.alloc o) S e ((W.heap.size, o) :: bs) := by
  have k := h.on (below_alloc (Below.refl W.heap.size W) o)
  refine ⟨k.mv, fun p hp => ?_⟩
  rcases List.mem_cons.1 hp with rfl | hp
  · exact ⟨Nat.ne_of_gt (lt_of_block h.mv.st), heap_at _ rfl⟩
  · exact k.blk p hp
theorem Vk.alN (h : Vk w W S e bs) (o : Obj) {n : Nat} (hn : W.heap.size = n) : Vk w (W.alloc o) S e ((n, o) :: bs) := hn ▸ h.al o
theorem Vk.sub (h : Vk w W S e bs) (k : ∀ p ∈ cs, p ∈ bs) : Vk w W S e cs := ⟨h.mv, fun p hp => h.blk p (k p hp)⟩
theorem Vk.put (h : Vk w W S e bs) (e' : Int) : Vk w (W.setCell ⟨S, 0, none⟩ (.int .i64 e')) S e' bs :=
  ⟨h.mv.put e', fun p hp => ⟨(h.blk p hp).1, by rw [heap_setCell_other _ _ _ _ (by simpa using (h.blk p hp).1)]; exact (h.blk p hp).2⟩⟩
/-- A box of two cells is written. -/
theorem Vk.st2 {B : Nat} {x y : Value} {t : TypeId} (h : Vk w W S e ((B, .cells #[x, y] t (0, 0)) :: bs)) (hB : w.heap.size ≤ B) (hb : ∀ p ∈ bs, p.1 ≠ B) (u v : Value) :
    Vk w ((W.setCell ⟨B, 0, none⟩ u).setCell ⟨B, 1, none⟩ v) S e ((B, .cells #[u, v] t (0, 0)) :: bs) := by
  obtain ⟨hne, h0⟩ := h.blk _ (List.mem_cons_self ..)
  have hs : B ≠ S := hne
  have oth : ∀ k, k ≠ B → ((W.setCell ⟨B, 0, none⟩ u).setCell ⟨B, 1, none⟩ v).heap[k]? = W.heap[k]? := fun k hk => by
    rw [heap_setCell_other _ _ _ _ (by simpa using hk), heap_setCell_other _ _ _ _ (by simpa using hk)]
  have hSB : S ≤ B := Nat.le_of_lt (Nat.lt_of_lt_of_le h.mv.lt hB)
  refine ⟨⟨h.mv.lt, (h.mv.bel.setCell hSB _).setCell hSB _, fun k hk hk2 => (oth k (by omega)).trans (h.mv.oth k hk hk2), (oth S (Ne.symm hs)).trans h.mv.st⟩, fun p hp => ?_⟩
  rcases List.mem_cons.1 hp with rfl | hp
  · refine ⟨hne, ?_⟩
    simp only
    rw [heap_setCell_same _ _ _ _ _ _ (heap_setCell_same _ _ _ _ _ _ h0)]
    rfl
  · have := h.blk p (List.mem_cons_of_mem _ hp)
    exact ⟨this.1, (oth _ (hb p hp)).trans this.2⟩
end

set_option maxHeartbeats 2000000 in
theorem vec_take (S : Nat) (e0 e : Int) (x : Int × Int) (w : World) (h : w.heap[S]? = some (stp e0)) :
    Calls Tryz.prog 65 #[.pointer (some ⟨S, 0, none⟩), .agg #[.int .i64 x.1, .int .i64 x.2], .int .i64 e] w fun r w' => r = .returned (.agg #[.int .i64 x.1, .int .i64 x.2]) ∧ Mv w w' S (fst2 e0 e) := by
  have H := Lib.hid (Mv.start h)
  have c0 := cell_of_one h
  have f0 := free_of_one h
  have hl := lt_of_block h
  clear h
  by_cases he : e0 = 0
  · subst he
    have HE := Lib.hid ((((H.out.put e).on (below_alloc (Below.refl _ _) (.cells #[.int .i64 x.1, .int .i64 x.2] 23))).on (below_alloc (Below.refl _ _) (.cells #[.int .i64 x.1, .int .i64 x.2] 23))))
    go_enter Tryz.func65, Tryz.ntmps65
    go_wp2_with fail
    exact bodyPost_ret (v := .agg #[.int .i64 x.1, .int .i64 x.2]) (by simp [results, Tryz.results65, go_sem]) rfl ⟨rfl, HE.out⟩
  · have hz : (e0 == 0) = false := by simp [he]
    have HE := Lib.hid ((H.out.on (below_alloc (Below.refl _ _) (.cells #[.int .i64 x.1, .int .i64 x.2] 23))).on (below_alloc (Below.refl _ _) (.cells #[.int .i64 x.1, .int .i64 x.2] 23)))
    have HF := Lib.hid (fst2_left he e)
    clear he
    go_enter Tryz.func65, Tryz.ntmps65
    go_wp2_with fail
    exact bodyPost_ret (v := .agg #[.int .i64 x.1, .int .i64 x.2]) (by simp [results, Tryz.results65, go_sem]) rfl ⟨rfl, by rw [HF.out]; exact HE.out⟩
end Go.Proofs.YtmnccbhlllnlbaaGreat
