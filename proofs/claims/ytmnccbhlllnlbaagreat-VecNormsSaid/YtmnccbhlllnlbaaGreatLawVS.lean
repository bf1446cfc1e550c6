/- Lemmas for the walks of law 06's statements. Printed by wip/genVS.py. -/
import Derived.Deep.MidRow
import Derived.Test.YtmnccbhlllnlbaaGreatLawVW
import Derived.Test.YtmnccbhlllnlbaaGreatLawVP
namespace Go.Proofs.YtmnccbhlllnlbaaGreat
open Go.RowKit Mnc
def pvBox (p : V3 × V3) : Obj := .cells #[.int .i64 p.1.1.1, .int .i64 p.1.1.2, .int .i64 p.1.2.1.1, .int .i64 p.1.2.1.2, .int .i64 p.1.2.2.1, .int .i64 p.1.2.2.2, .int .i64 p.2.1.1, .int .i64 p.2.1.2, .int .i64 p.2.2.1.1, .int .i64 p.2.2.1.2, .int .i64 p.2.2.2.1, .int .i64 p.2.2.2.2] 36 (0, 0)
theorem pvBox_all {W : World} {B : Nat} {p : V3 × V3} (h : W.heap[B]? = some (pvBox p)) : W.cell? ⟨B, 0, none⟩ = some (.int .i64 p.1.1.1) ∧ W.cell? ⟨B, 1, none⟩ = some (.int .i64 p.1.1.2) ∧ W.cell? ⟨B, 2, none⟩ = some (.int .i64 p.1.2.1.1) ∧ W.cell? ⟨B, 3, none⟩ = some (.int .i64 p.1.2.1.2) ∧ W.cell? ⟨B, 4, none⟩ = some (.int .i64 p.1.2.2.1) ∧ W.cell? ⟨B, 5, none⟩ = some (.int .i64 p.1.2.2.2) ∧ W.cell? ⟨B, 6, none⟩ = some (.int .i64 p.2.1.1) ∧ W.cell? ⟨B, 7, none⟩ = some (.int .i64 p.2.1.2) ∧ W.cell? ⟨B, 8, none⟩ = some (.int .i64 p.2.2.1.1) ∧ W.cell? ⟨B, 9, none⟩ = some (.int .i64 p.2.2.1.2) ∧ W.cell? ⟨B, 10, none⟩ = some (.int .i64 p.2.2.2.1) ∧ W.cell? ⟨B, 11, none⟩ = some (.int .i64 p.2.2.2.2) := by
  unfold pvBox at h
  refine ⟨?_, ?_, ?_, ?_, ?_, ?_, ?_, ?_, ?_, ?_, ?_, ?_⟩ <;> rw [cell_of_row W B _ _ _ _ h] <;> rfl
/-- The cells of a Two, in order. -/
def _root_.Mnc.Tv.cells (T : Tv) : List Value := [.int .i64 T.a.1.1, .int .i64 T.a.1.2, .int .i64 T.a.2.1.1, .int .i64 T.a.2.1.2, .int .i64 T.a.2.2.1, .int .i64 T.a.2.2.2, .int .i64 T.b.1.1, .int .i64 T.b.1.2, .int .i64 T.b.2.1.1, .int .i64 T.b.2.1.2, .int .i64 T.b.2.2.1, .int .i64 T.b.2.2.2, .int .i64 T.x.1.1, .int .u8 T.x.1.2.1, .int .u32 T.x.1.2.2, .int .i64 T.x.2.1.1, .int .u8 T.x.2.1.2.1, .int .u32 T.x.2.1.2.2, .int .i64 T.x.2.2.1, .int .u8 T.x.2.2.2.1, .int .u32 T.x.2.2.2.2, .int .i64 T.y.1.1, .int .u8 T.y.1.2.1, .int .u32 T.y.1.2.2, .int .i64 T.y.2.1.1, .int .u8 T.y.2.1.2.1, .int .u32 T.y.2.1.2.2, .int .i64 T.y.2.2.1, .int .u8 T.y.2.2.2.1, .int .u32 T.y.2.2.2.2]
theorem tv_range {W : World} {B : Nat} {T : Tv} (h : W.heap[B]? = some T.obj) : W.rangeAt B 0 T.cells := fun j v hv => by
  have e : T.obj = .cells T.cells.toArray 32 (0, 0) := rfl
  rw [e] at h
  rw [Nat.zero_add, cell_of_row W B _ _ _ _ h]
  simpa using hv
theorem tv_load {W : World} {B : Nat} {T : Tv} (h : W.heap[B]? = some T.obj) : (Instr.loadAt 32 (.pointer (some ⟨B, 0, none⟩))).run Tryz.prog W = .ok (.agg T.cells.toArray) W := by
  obtain ⟨d, hd⟩ := Option.isSome_iff_exists.1 (show (Tryz.prog.underlying 32).isSome = true by kernel_rfl)
  have hr : d.isRow = true := by
    have hm : (Tryz.prog.underlying 32).map TypeDesc.isRow = some true := by kernel_rfl
    rw [hd] at hm
    exact Option.some.inj hm
  exact run_loadAt_mid W B 0 _ T.cells d (tv_range h) hd hr (by kernel_rfl)
theorem tv_desc : ∃ d, Tryz.prog.underlying 32 = some d ∧ d.isRow = true := by
  obtain ⟨d, hd⟩ := Option.isSome_iff_exists.1 (show (Tryz.prog.underlying 32).isSome = true by kernel_rfl)
  have hr : d.isRow = true := by
    have hm : (Tryz.prog.underlying 32).map TypeDesc.isRow = some true := by kernel_rfl
    rw [hd] at hm
    exact Option.some.inj hm
  exact ⟨d, hd, hr⟩
theorem law6_pairs' (T : Tv) (hT : T.ok) (w : World) :
    Calls Tryz.prog 7 #[.agg T.cells.toArray] w fun e w' => (∃ v, e = .returned v ∧ Sl4 w' w.heap.size v (pvs T)) ∧ Below w.heap.size w w' := law6_pairs T hT w
theorem tv_all {W : World} {B : Nat} {T : Tv} (h : W.heap[B]? = some T.obj) : W.cell? ⟨B, 0, none⟩ = some (.int .i64 T.a.1.1) ∧ W.cell? ⟨B, 1, none⟩ = some (.int .i64 T.a.1.2) ∧ W.cell? ⟨B, 2, none⟩ = some (.int .i64 T.a.2.1.1) ∧ W.cell? ⟨B, 3, none⟩ = some (.int .i64 T.a.2.1.2) ∧ W.cell? ⟨B, 4, none⟩ = some (.int .i64 T.a.2.2.1) ∧ W.cell? ⟨B, 5, none⟩ = some (.int .i64 T.a.2.2.2) ∧ W.cell? ⟨B, 6, none⟩ = some (.int .i64 T.b.1.1) ∧ W.cell? ⟨B, 7, none⟩ = some (.int .i64 T.b.1.2) ∧ W.cell? ⟨B, 8, none⟩ = some (.int .i64 T.b.2.1.1) ∧ W.cell? ⟨B, 9, none⟩ = some (.int .i64 T.b.2.1.2) ∧ W.cell? ⟨B, 10, none⟩ = some (.int .i64 T.b.2.2.1) ∧ W.cell? ⟨B, 11, none⟩ = some (.int .i64 T.b.2.2.2) ∧ W.cell? ⟨B, 12, none⟩ = some (.int .i64 T.x.1.1) ∧ W.cell? ⟨B, 13, none⟩ = some (.int .u8 T.x.1.2.1) ∧ W.cell? ⟨B, 14, none⟩ = some (.int .u32 T.x.1.2.2) ∧ W.cell? ⟨B, 15, none⟩ = some (.int .i64 T.x.2.1.1) ∧ W.cell? ⟨B, 16, none⟩ = some (.int .u8 T.x.2.1.2.1) ∧ W.cell? ⟨B, 17, none⟩ = some (.int .u32 T.x.2.1.2.2) ∧ W.cell? ⟨B, 18, none⟩ = some (.int .i64 T.x.2.2.1) ∧ W.cell? ⟨B, 19, none⟩ = some (.int .u8 T.x.2.2.2.1) ∧ W.cell? ⟨B, 20, none⟩ = some (.int .u32 T.x.2.2.2.2) ∧ W.cell? ⟨B, 21, none⟩ = some (.int .i64 T.y.1.1) ∧ W.cell? ⟨B, 22, none⟩ = some (.int .u8 T.y.1.2.1) ∧ W.cell? ⟨B, 23, none⟩ = some (.int .u32 T.y.1.2.2) ∧ W.cell? ⟨B, 24, none⟩ = some (.int .i64 T.y.2.1.1) ∧ W.cell? ⟨B, 25, none⟩ = some (.int .u8 T.y.2.1.2.1) ∧ W.cell? ⟨B, 26, none⟩ = some (.int .u32 T.y.2.1.2.2) ∧ W.cell? ⟨B, 27, none⟩ = some (.int .i64 T.y.2.2.1) ∧ W.cell? ⟨B, 28, none⟩ = some (.int .u8 T.y.2.2.2.1) ∧ W.cell? ⟨B, 29, none⟩ = some (.int .u32 T.y.2.2.2.2) := by
  unfold Tv.obj at h
  refine ⟨?_, ?_, ?_, ?_, ?_, ?_, ?_, ?_, ?_, ?_, ?_, ?_, ?_, ?_, ?_, ?_, ?_, ?_, ?_, ?_, ?_, ?_, ?_, ?_, ?_, ?_, ?_, ?_, ?_, ?_⟩ <;> rw [cell_of_row W B _ _ _ _ h] <;> rfl
/-- A box of a vector is written, wherever it stands in the list. -/
theorem Kv.seta {w W : World} {bs cs : List (Nat × Obj)} {B : Nat} {a : V3} (h : Kv w W bs) (hm : (B, vobj (vl a)) ∈ bs) (hB : w.heap.size ≤ B) (z : V3) (hc : ∀ p ∈ cs, p = (B, vobj (vl z)) ∨ (p ∈ bs ∧ p.1 ≠ B)) :
    Kv w ((((((W.setCell ⟨B, 0, none⟩ (.int .i64 z.1.1)).setCell ⟨B, 1, none⟩ (.int .i64 z.1.2)).setCell ⟨B, 2, none⟩ (.int .i64 z.2.1.1)).setCell ⟨B, 3, none⟩ (.int .i64 z.2.1.2)).setCell ⟨B, 4, none⟩ (.int .i64 z.2.2.1)).setCell ⟨B, 5, none⟩ (.int .i64 z.2.2.2)) cs := by
  have h2 : Kv w W ((B, vobj (vl a)) :: bs.filter fun p => p.1 ≠ B) := h.sub (fun p hp => by
    rcases List.mem_cons.1 hp with rfl | hp
    · exact hm
    · exact (List.mem_filter.1 hp).1)
  refine (h2.set6 hB (fun p hp => by simpa using (List.mem_filter.1 hp).2) z).sub fun p hp => ?_
  rcases hc p hp with rfl | ⟨h1, h2⟩
  · exact List.mem_cons_self ..
  · exact List.mem_cons_of_mem _ (List.mem_filter.2 ⟨h1, by simpa using h2⟩)
/-- A box of an interval is written. -/
theorem Kv.setb {w W : World} {bs cs : List (Nat × Obj)} {B : Nat} {a : Int × Int} (h : Kv w W bs) (hm : (B, Obj.cells #[.int .i64 a.1, .int .i64 a.2] 23 (0, 0)) ∈ bs) (hB : w.heap.size ≤ B) (z : Int × Int) (hc : ∀ p ∈ cs, p = (B, Obj.cells #[.int .i64 z.1, .int .i64 z.2] 23 (0, 0)) ∨ (p ∈ bs ∧ p.1 ≠ B)) :
    Kv w ((W.setCell ⟨B, 0, none⟩ (.int .i64 z.1)).setCell ⟨B, 1, none⟩ (.int .i64 z.2)) cs := by
  have h2 : Kv w W ((B, Obj.cells #[.int .i64 a.1, .int .i64 a.2] 23 (0, 0)) :: bs.filter fun p => p.1 ≠ B) := h.sub (fun p hp => by
    rcases List.mem_cons.1 hp with rfl | hp
    · exact hm
    · exact (List.mem_filter.1 hp).1)
  refine (h2.st2 hB (fun p hp => by simpa using (List.mem_filter.1 hp).2) (.int .i64 z.1) (.int .i64 z.2)).sub fun p hp => ?_
  rcases hc p hp with rfl | ⟨h1, h2⟩
  · exact List.mem_cons_self ..
  · exact List.mem_cons_of_mem _ (List.mem_filter.2 ⟨h1, by simpa using h2⟩)
/-- A slot that holds the address of a box of a vector made since the world had n blocks; where c holds it holds X. -/
def BxV (w : World) (n : Nat) (v : Value) (c : Prop) (X : V3) : Prop := ∃ g : Nat, v = .pointer (some ⟨g, 0, none⟩) ∧ n ≤ g ∧ ∃ u : V3, w.heap[g]? = some (vobj (vl u)) ∧ (c → u = X)
section
variable {w w' : World} {n : Nat} {v : Value} {c : Prop} {X : V3}
theorem BxV.on (h : BxV w n v c X) (k : Below w.heap.size w w') : BxV w' n v c X := by
  obtain ⟨g, h1, h2, u, h3, h4⟩ := h
  exact ⟨g, h1, h2, u, (k.block _ (lt_of_block h3)).trans h3, h4⟩
theorem BxV.al (h : BxV w n v c X) (o : Obj) : BxV (w.alloc o) n v c X := by
  obtain ⟨g, h1, h2, u, h3, h4⟩ := h
  exact ⟨g, h1, h2, u, heap_up o h3, h4⟩
theorem BxV.new (h : n ≤ w.heap.size) (hc : ¬ c) : BxV (w.alloc (.cells #[.int .i64 0, .int .i64 0, .int .i64 0, .int .i64 0, .int .i64 0, .int .i64 0] 25 (0, 0))) n (.pointer (some ⟨w.heap.size, 0, none⟩)) c X :=
  ⟨_, rfl, h, v30, heap_at (vobj (vl v30)) rfl, fun h => absurd h hc⟩
theorem oth6 {W : World} {B k : Nat} (h : k ≠ B) (x0 x1 x2 x3 x4 x5 : Value) : ((((((W.setCell ⟨B, 0, none⟩ x0).setCell ⟨B, 1, none⟩ x1).setCell ⟨B, 2, none⟩ x2).setCell ⟨B, 3, none⟩ x3).setCell ⟨B, 4, none⟩ x4).setCell ⟨B, 5, none⟩ x5).heap[k]? = W.heap[k]? := by
  rw [heap_setCell_other _ _ _ _ (by simpa using h), heap_setCell_other _ _ _ _ (by simpa using h), heap_setCell_other _ _ _ _ (by simpa using h), heap_setCell_other _ _ _ _ (by simpa using h), heap_setCell_other _ _ _ _ (by simpa using h), heap_setCell_other _ _ _ _ (by simpa using h)]
theorem same6 {W : World} {B : Nat} {u : V3} (h : W.heap[B]? = some (vobj (vl u))) (z : V3) : ((((((W.setCell ⟨B, 0, none⟩ (.int .i64 z.1.1)).setCell ⟨B, 1, none⟩ (.int .i64 z.1.2)).setCell ⟨B, 2, none⟩ (.int .i64 z.2.1.1)).setCell ⟨B, 3, none⟩ (.int .i64 z.2.1.2)).setCell ⟨B, 4, none⟩ (.int .i64 z.2.2.1)).setCell ⟨B, 5, none⟩ (.int .i64 z.2.2.2)).heap[B]? = some (vobj (vl z)) :=
  by
  unfold vobj at h
  rw [heap_setCell_same _ _ _ _ _ _ (heap_setCell_same _ _ _ _ _ _ (heap_setCell_same _ _ _ _ _ _ (heap_setCell_same _ _ _ _ _ _ (heap_setCell_same _ _ _ _ _ _ (heap_setCell_same _ _ _ _ _ _ h)))))]
  rfl
theorem bel6 {W : World} {B n : Nat} (h : Below n w W) (hB : n ≤ B) (x0 x1 x2 x3 x4 x5 : Value) : Below n w ((((((W.setCell ⟨B, 0, none⟩ x0).setCell ⟨B, 1, none⟩ x1).setCell ⟨B, 2, none⟩ x2).setCell ⟨B, 3, none⟩ x3).setCell ⟨B, 4, none⟩ x4).setCell ⟨B, 5, none⟩ x5) :=
  (((((h.setCell hB _).setCell hB _).setCell hB _).setCell hB _).setCell hB _).setCell hB _
theorem BxV.set {g : Nat} {x0 x1 x2 x3 x4 x5 : Value} (h : BxV w n v c X) (hne : v ≠ .pointer (some ⟨g, 0, none⟩)) : BxV ((((((w.setCell ⟨g, 0, none⟩ x0).setCell ⟨g, 1, none⟩ x1).setCell ⟨g, 2, none⟩ x2).setCell ⟨g, 3, none⟩ x3).setCell ⟨g, 4, none⟩ x4).setCell ⟨g, 5, none⟩ x5) n v c X := by
  obtain ⟨k, rfl, h2, u, h3, h4⟩ := h
  have hk : k ≠ g := fun e => hne (by rw [e])
  exact ⟨k, rfl, h2, u, (oth6 hk ..).trans h3, h4⟩
theorem BxV.lt (h : BxV w n v c X) : v ≠ .pointer (some ⟨w.heap.size, 0, none⟩) := by
  obtain ⟨g, rfl, h2, u, h3, h4⟩ := h
  intro e
  have := lt_of_block h3
  simp only [Value.pointer.injEq, Option.some.injEq, Addr.mk.injEq, and_true] at e
  omega
end
end Go.Proofs.YtmnccbhlllnlbaaGreat
