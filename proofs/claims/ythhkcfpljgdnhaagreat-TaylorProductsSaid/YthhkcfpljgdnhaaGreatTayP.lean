/- Package taylor: Place: a range over the pairs whose round may return. -/
import Derived.Test.YthhkcfpljgdnhaaGreatTayD
namespace Go.Proofs.YthhkcfpljgdnhaaGreat
open Go.RowKit Mnc
attribute [local go_sem] RunSP_value RunSP_skip RunSP_enter evS_tmp evS_const evS_global evS_func
attribute [local go_sem] Oper.semAt_some
/-- The place of a pair of exponents, and the error where there is none. -/
def xPlace (i j : Int) : Int × Int := if 0 ≤ i ∧ 0 ≤ j ∧ i + j ≤ 5 then (((tIdx (i.toNat + j.toNat) i.toNat : Nat) : Int), 0) else (0, 2)
theorem xPlace_at (s i : Nat) (hi : i ≤ s) (hs : s ≤ 5) : xPlace i ((s - i : Nat) : Int) = (((tIdx s i : Nat) : Int), 0) := by
 unfold xPlace
 rw [if_pos (by omega)]
 have : (i : Int).toNat + ((s - i : Nat) : Int).toNat = s := by omega
 rw [this]
 simp
/-- What holds ahead of the pair (i, s - i): it is none of the pairs ahead of it. -/
structure JPl (W1 : World) (b : Nat) (x y : Int) (s i : Nat) (W : World) : Prop where
 mu : Mut [b + 1 + 1, b + 1 + 1 + 1, b + 1 + 1 + 1 + 1] W1 W
 hn : W.heap[b + 1 + 1 + 1 + 1]? = some (iobj 3 ((tIdx s i : Nat) : Int))
 ha : W.heap[b + 1 + 1]? = some (iobj 3 0)
 he : W.heap[b + 1 + 1 + 1]? = some (iobj 38 0)
 go : ¬ (0 ≤ x ∧ 0 ≤ y ∧ (x + y < s ∨ (x + y = s ∧ x < i)))
structure DPl (W1 : World) (b : Nat) (x y : Int) (W : World) : Prop where
 mu : Mut [b + 1 + 1, b + 1 + 1 + 1, b + 1 + 1 + 1 + 1] W1 W
 ha : W.heap[b + 1 + 1]? = some (iobj 3 (xPlace x y).1)
 he : W.heap[b + 1 + 1 + 1]? = some (iobj 38 (xPlace x y).2)
theorem JPl.put {W1 : World} {b : Nat} {x y : Int} {s i : Nat} {W : World} (h : JPl W1 b x y s i W) (hb : b + 5 ≤ W1.heap.size) {k : Nat} (hk : W1.heap.size ≤ k) (o : Obj) : JPl W1 b x y s i (W.putObj k o) :=
 ⟨h.mu.putNew hk o, (World.putObj_heap_other (by omega)).trans h.hn, (World.putObj_heap_other (by omega)).trans h.ha, (World.putObj_heap_other (by omega)).trans h.he, h.go⟩
theorem DPl.put {W1 : World} {b : Nat} {x y : Int} {W : World} (h : DPl W1 b x y W) (hb : b + 5 ≤ W1.heap.size) {k : Nat} (hk : W1.heap.size ≤ k) (o : Obj) : DPl W1 b x y (W.putObj k o) :=
 ⟨h.mu.putNew hk o, (World.putObj_heap_other (by omega)).trans h.ha, (World.putObj_heap_other (by omega)).trans h.he⟩
set_option maxRecDepth 100000 in
set_option maxHeartbeats 4000000 in
theorem taw_Place (x y : Int) (w : World) :
  Calls Tryz.prog 20 #[.int .i64 x, .int .i64 y] w fun e w' => e = .returned (.tuple #[.int .i64 (xPlace x y).1, .int .i64 (xPlace x y).2]) ∧ Below w.heap.size w w' := by
 refine (callsIn_wide (n := 5)).1 ?_
 refine callsIn_of_wpF Tryz.func20 rfl ?_
 simp only [Tryz.ntmps20, List.size_toArray, List.length_cons, List.length_nil, Nat.reduceAdd, Nat.reduceSub, Array.replicate_succ, Array.replicate_zero, List.push_toArray, List.append_toArray, List.nil_append, List.cons_append]
 refine wpF_seq (wpF_of (n := 5) ?_)
 gi_wp2_with fail
 refine wpF_seq (wpF_of (n := 5) ?_)
 gi_wp2_with fail
 refine wpF_seq (wpF_block ?_)
 obtain ⟨W1, hW1⟩ : ∃ W1, (((((w.alloc (Obj.cells #[Value.int IntKind.i64 x] 3)).alloc (Obj.cells #[Value.int IntKind.i64 y] 3)).alloc (Obj.cells #[Value.int IntKind.i64 0] 3)).alloc (Obj.cells #[Value.int IntKind.i64 0] 38)).alloc (Obj.cells #[Value.int IntKind.i64 0] 3)) = W1 := ⟨_, rfl⟩
 have hS : W1.heap.size = w.heap.size + 5 := by rw [← hW1]; simp
 have hX : W1.heap[w.heap.size]? = some (iobj 3 x) := by rw [← hW1]; exact heap_up _ (heap_up _ (heap_up _ (heap_up _ (heap_at _ rfl))))
 have hY : W1.heap[w.heap.size + 1]? = some (iobj 3 y) := by rw [← hW1]; exact heap_up _ (heap_up _ (heap_up _ (heap_at (iobj 3 y) (by simp))))
 have hA : W1.heap[w.heap.size + 1 + 1]? = some (iobj 3 0) := by rw [← hW1]; exact heap_up _ (heap_up _ (heap_at (iobj 3 0) (by simp)))
 have hE : W1.heap[w.heap.size + 1 + 1 + 1]? = some (iobj 38 0) := by rw [← hW1]; exact heap_up _ (heap_at (iobj 38 0) (by simp))
 have hN : W1.heap[w.heap.size + 1 + 1 + 1 + 1]? = some (iobj 3 ((tIdx 0 0 : Nat) : Int)) := by rw [← hW1]; exact heap_at (iobj 3 0) (by simp)
 have hB : Below w.heap.size w W1 := by rw [← hW1]; exact below_alloc (below_alloc (below_alloc (below_alloc (below_alloc (Below.refl _ _) _) _) _) _) _
 rw [hW1]
 clear hW1
 generalize hb : w.heap.size = b at *
 have HS := lh (show b + 5 ≤ W1.heap.size by omega)
 have HX1 := lh hX
 have HY1 := lh hY
 have HB1 := lh hB
 have HBW := lh hb
 have H0 := lh (show JPl W1 b x y 0 0 W1 from ⟨Mut.refl _ _, hN, hA, hE, by omega⟩)
 clear hS hX hY hA hE hN hB hb
 refine pairs_outer 5 20 Tryz.func20 rfl (fun s i W => JPl W1 b x y s i W) (fun W => DPl W1 b x y W) (fun _ _ => False)
  (fun s i W k o hk h => h.put HS.out hk o) (fun W k o hk h => h.put HS.out hk o) ?_ ?_ ?_ ?_ ?_ (fun c W h => h.elim)
 ·rintro s W hs h
  have e := tIdx_next ⟨s, by omega⟩
  dsimp only at e
  exact ⟨h.mu, by rw [← e]; exact h.hn, h.ha, h.he, by have := h.go; omega⟩
 ·intro o o'
  have h := H0.out
  exact ⟨(h.mu.alloc _).alloc _, heap_up _ (heap_up _ h.hn), heap_up _ (heap_up _ h.ha), heap_up _ (heap_up _ h.he), h.go⟩
 ·rintro l hl s i W0 hi hs hJ hrec
  have HJ := lh hJ
  have HLL := lh hl
  have HI := lh (show i ≤ s ∧ s ≤ 5 from ⟨hi, hs⟩)
  have HTI := lh (tIdx_lt ⟨s, by omega⟩ ⟨i, by omega⟩ hi)
  dsimp only at HTI
  obtain ⟨j, hj⟩ : ∃ j, s - i = j := ⟨_, rfl⟩
  have HJJ := lh hj
  rw [hj]
  clear hJ hl hrec hi hs hj
  refine wpF_ofR (n := 5) ?_
  gi_wp2_with fail
  refine ⟨KeepA.refl _ _, fun o => ?_⟩
  obtain ⟨W, hW⟩ : ∃ W, W = W0.putObj l (.loop o) := ⟨_, rfl⟩
  rw [← hW]
  have hJ2 : JPl W1 b x y s i W := by rw [hW]; exact HJ.out.put HS.out HLL.out _
  clear hW
  have cx := cell_of_one ((hJ2.mu.same b (by have := HS.out; omega) (notin3 (by omega) (by omega) (by omega))).trans HX1.out)
  have cy := cell_of_one ((hJ2.mu.same (b + 1) (by have := HS.out; omega) (notin3 (by omega) (by omega) (by omega))).trans HY1.out)
  have ca := cell_of_one hJ2.ha
  have ce := cell_of_one hJ2.he
  have cn := cell_of_one hJ2.hn
  have fa : W.frozen? ⟨b + 1 + 1, 0, none⟩ = false := by simp [World.frozen?, hJ2.ha, iobj]
  have fe : W.frozen? ⟨b + 1 + 1 + 1, 0, none⟩ = false := by simp [World.frozen?, hJ2.he, iobj]
  have fn : W.frozen? ⟨b + 1 + 1 + 1 + 1, 0, none⟩ = false := by simp [World.frozen?, hJ2.hn, iobj]
  have HJ2 := lh hJ2
  clear hJ2
  have hp0 : (0 : Int) ≤ (tIdx s i : Int) := by omega
  have hp1 : (tIdx s i : Int) ≤ 20 := by have := HTI.out; omega
  refine wpF_ofR (n := 5) ?_
  gi_wp2_with fail
  ·rename_i h1 h2
   have h3 : (j : Int) = y := by simpa using h2
   have e := xPlace_at s i HI.out.1 HI.out.2
   rw [HJJ.out, h1, h3] at e
   have h := HJ2.out
   rw [show W.setCell ⟨b + 1 + 1, 0, none⟩ (.int .i64 (tIdx s i : Int)) = W.putObj (b + 1 + 1) (iobj 3 ((tIdx s i : Nat) : Int)) from setCell_put h.ha 0 _]
   have he : (W.putObj (b + 1 + 1) (iobj 3 ((tIdx s i : Nat) : Int))).heap[b + 1 + 1 + 1]? = some (iobj 38 0) := (World.putObj_heap_other (by omega)).trans h.he
   rw [show (W.putObj (b + 1 + 1) (iobj 3 ((tIdx s i : Nat) : Int))).setCell ⟨b + 1 + 1 + 1, 0, none⟩ (.int .i64 0) = (W.putObj (b + 1 + 1) (iobj 3 ((tIdx s i : Nat) : Int))).putObj (b + 1 + 1 + 1) (iobj 38 0) from setCell_put he 0 _]
   have hmu : Mut [b + 1 + 1, b + 1 + 1 + 1, b + 1 + 1 + 1 + 1] W ((W.putObj (b + 1 + 1) (iobj 3 ((tIdx s i : Nat) : Int))).putObj (b + 1 + 1 + 1) (iobj 38 0)) := ((Mut.refl _ _).put (by simp) _).put (by simp) _
   refine ⟨hmu.keep (by have := HS.out; intro x hx; simp at hx; omega), h.mu.trans hmu, ?_, ?_⟩
   ·rw [e]
    exact (World.putObj_heap_other (by omega)).trans (World.putObj_heap_same (lt_of_block h.ha))
   ·rw [e]
    exact World.putObj_heap_same (lt_of_block he)
  ·rename_i h1 h2
   ·have h3 : ¬ (j : Int) = y := by simpa using h2
    rw [show W.setCell ⟨b + 1 + 1 + 1 + 1, 0, none⟩ (.int .i64 ((tIdx s i : Int) + 1)) = W.putObj (b + 1 + 1 + 1 + 1) (iobj 3 ((tIdx s (i + 1) : Nat) : Int)) from setCell_put HJ2.out.hn 0 _]
    have hmu : Mut [b + 1 + 1, b + 1 + 1 + 1, b + 1 + 1 + 1 + 1] W (W.putObj (b + 1 + 1 + 1 + 1) (iobj 3 ((tIdx s (i + 1) : Nat) : Int))) := (Mut.refl _ _).put (by simp) _
    have h := HJ2.out
    refine ⟨hmu.keep (by have := HS.out; intro x hx; simp at hx; omega), h.mu.trans hmu, World.putObj_heap_same (lt_of_block h.hn), (World.putObj_heap_other (by omega)).trans h.ha, (World.putObj_heap_other (by omega)).trans h.he, ?_⟩
    have hg := h.go
    have := HJJ.out
    have := HI.out
    omega
  ·rename_i h1
   ·skip
    rw [show W.setCell ⟨b + 1 + 1 + 1 + 1, 0, none⟩ (.int .i64 ((tIdx s i : Int) + 1)) = W.putObj (b + 1 + 1 + 1 + 1) (iobj 3 ((tIdx s (i + 1) : Nat) : Int)) from setCell_put HJ2.out.hn 0 _]
    have hmu : Mut [b + 1 + 1, b + 1 + 1 + 1, b + 1 + 1 + 1 + 1] W (W.putObj (b + 1 + 1 + 1 + 1) (iobj 3 ((tIdx s (i + 1) : Nat) : Int))) := (Mut.refl _ _).put (by simp) _
    have h := HJ2.out
    refine ⟨hmu.keep (by have := HS.out; intro x hx; simp at hx; omega), h.mu.trans hmu, World.putObj_heap_same (lt_of_block h.hn), (World.putObj_heap_other (by omega)).trans h.ha, (World.putObj_heap_other (by omega)).trans h.he, ?_⟩
    have hg := h.go
    have := HJJ.out
    have := HI.out
    omega
 ·rintro W hJ hD
  have ca := cell_of_one hJ.ha
  have ce := cell_of_one hJ.he
  have fa : W.frozen? ⟨b + 1 + 1, 0, none⟩ = false := by simp [World.frozen?, hJ.ha, iobj]
  have fe : W.frozen? ⟨b + 1 + 1 + 1, 0, none⟩ = false := by simp [World.frozen?, hJ.he, iobj]
  have e : xPlace x y = (0, 2) := if_neg (by have := hJ.go; omega)
  have HJ := lh hJ
  have HD := lh hD
  have HE := lh e
  clear hJ hD e
  show wpF _ _ _ _ _ _ _
  refine wpF_seq (wpF_of (n := 5) ?_)
  gi_wp2_with fail
  refine wpF_of (n := 5) (wpIn_ret ?_)
  have h := HJ.out
  rw [show W.setCell ⟨b + 1 + 1, 0, none⟩ (.int .i64 0) = W.putObj (b + 1 + 1) (iobj 3 0) from setCell_put h.ha 0 _]
  have he : (W.putObj (b + 1 + 1) (iobj 3 0)).heap[b + 1 + 1 + 1]? = some (iobj 38 0) := (World.putObj_heap_other (by omega)).trans h.he
  rw [show (W.putObj (b + 1 + 1) (iobj 3 0)).setCell ⟨b + 1 + 1 + 1, 0, none⟩ (.int .i64 2) = (W.putObj (b + 1 + 1) (iobj 3 0)).putObj (b + 1 + 1 + 1) (iobj 38 2) from setCell_put he 0 _]
  have hK2 : ((W.putObj (b + 1 + 1) (iobj 3 0)).putObj (b + 1 + 1 + 1) (iobj 38 2)).heap[W1.heap.size]? = some (.deferred (some [])) := (World.putObj_heap_other (by have := HS.out; omega)).trans ((World.putObj_heap_other (by have := HS.out; omega)).trans HD.out)
  refine ⟨by simp, .inl ⟨_, _, rfl, run_takeDeferred hK2, ?_⟩⟩
  have ha2 : (((W.putObj (b + 1 + 1) (iobj 3 0)).putObj (b + 1 + 1 + 1) (iobj 38 2)).putObj W1.heap.size (.deferred none)).heap[b + 1 + 1]? = some (iobj 3 0) := (World.putObj_heap_other (by have := HS.out; omega)).trans ((World.putObj_heap_other (by omega)).trans (World.putObj_heap_same (lt_of_block h.ha)))
  have he2 : (((W.putObj (b + 1 + 1) (iobj 3 0)).putObj (b + 1 + 1 + 1) (iobj 38 2)).putObj W1.heap.size (.deferred none)).heap[b + 1 + 1 + 1]? = some (iobj 38 2) := (World.putObj_heap_other (by have := HS.out; omega)).trans (World.putObj_heap_same (lt_of_block he))
  have q0 := cell_of_one ha2
  have q1 := cell_of_one he2
  refine ⟨.tuple #[.int .i64 0, .int .i64 2], ?_, by rw [HE.out], ?_⟩
  ·simp [results, Tryz.results20, go_sem, q0, q1]
  ·exact HB1.out.trans (put_bel (put_bel (put_bel (h.mu.below (by have := HS.out; omega) (by intro x hx; simp at hx; omega)) (by omega)) (by omega)) (by have := HS.out; omega))
 ·rintro W h hD
  have hK2 := hD
  refine ⟨by simp, .inl ⟨_, _, rfl, run_takeDeferred hK2, ?_⟩⟩
  have ha2 : (W.putObj W1.heap.size (.deferred none)).heap[b + 1 + 1]? = some (iobj 3 (xPlace x y).1) := (World.putObj_heap_other (by have := HS.out; omega)).trans h.ha
  have he2 : (W.putObj W1.heap.size (.deferred none)).heap[b + 1 + 1 + 1]? = some (iobj 38 (xPlace x y).2) := (World.putObj_heap_other (by have := HS.out; omega)).trans h.he
  have q0 := cell_of_one ha2
  have q1 := cell_of_one he2
  refine ⟨.tuple #[.int .i64 (xPlace x y).1, .int .i64 (xPlace x y).2], ?_, rfl, ?_⟩
  ·simp [results, Tryz.results20, go_sem, q0, q1]
  ·exact HB1.out.trans (put_bel (h.mu.below (by have := HS.out; omega) (by intro x hx; simp at hx; omega)) (by have := HS.out; omega))
end Go.Proofs.YthhkcfpljgdnhaaGreat
