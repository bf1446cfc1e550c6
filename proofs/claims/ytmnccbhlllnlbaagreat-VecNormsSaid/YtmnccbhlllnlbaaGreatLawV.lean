/- Law 06's helpers: point, of, is, fails, says, refuses. Printed by wip/genLV.py. -/
import Derived.Test.YtmnccbhlllnlbaaGreatVecF
namespace Mnc
/-- An interval of one whole number; a vector of three. -/
def wpt (n : Int) : Int × Int := (n * 4294967296, n * 4294967296)
def ofV (x y z : Int) : V3 := (wpt x, wpt y, wpt z)
end Mnc
namespace Go.Proofs.YtmnccbhlllnlbaaGreat
open Go.RowKit Mnc
section
variable {w W W' : World} {B k : Nat} {bs : List (Nat × Obj)} {l : List (Int × Int)} {c : Int × Int}
theorem Kv.put {o : Obj} (h : Kv w W bs) (k : Below W.heap.size W W') (hB : W'.heap[B]? = some o) : Kv w W' ((B, o) :: bs) :=
  ⟨(h.on k).bel, fun p hp => by
    rcases List.mem_cons.1 hp with rfl | hp
    · exact hB
    · exact (h.on k).blk p hp⟩
/-- A component of a vector's box is written. -/
theorem Kv.setl (h : Kv w W ((B, vobj l) :: bs)) (hB : w.heap.size ≤ B) (hb : ∀ p ∈ bs, p.1 ≠ B) (hc : l[k]? = some c) (z : Int × Int) :
    Kv w ((W.setCell ⟨B, k * 2, none⟩ (.int .i64 z.1)).setCell ⟨B, k * 2 + 1, none⟩ (.int .i64 z.2)) ((B, vobj (l.set k z)) :: bs) := by
  have h0 := h.blk _ (List.mem_cons_self ..)
  have oth : ∀ j, j ≠ B → ((W.setCell ⟨B, k * 2, none⟩ (.int .i64 z.1)).setCell ⟨B, k * 2 + 1, none⟩ (.int .i64 z.2)).heap[j]? = W.heap[j]? := fun j hj => by
    rw [heap_setCell_other _ _ _ _ (by simpa using hj), heap_setCell_other _ _ _ _ (by simpa using hj)]
  refine ⟨(h.bel.setCell hB _).setCell hB _, fun p hp => ?_⟩
  rcases List.mem_cons.1 hp with rfl | hp
  · simp only
    unfold vobj at h0
    rw [heap_setCell_same _ _ _ _ _ _ (heap_setCell_same _ _ _ _ _ _ h0)]
    unfold vobj
    rw [← flat_setv l k c z hc]
    simp
  · exact (oth _ (hb p hp)).trans (h.blk p (List.mem_cons_of_mem _ hp))
/-- A vector's box is written whole. -/
theorem Kv.set6 {a : V3} (h : Kv w W ((B, vobj (vl a)) :: bs)) (hB : w.heap.size ≤ B) (hb : ∀ p ∈ bs, p.1 ≠ B) (z : V3) :
    Kv w ((((((W.setCell ⟨B, 0, none⟩ (.int .i64 z.1.1)).setCell ⟨B, 1, none⟩ (.int .i64 z.1.2)).setCell ⟨B, 2, none⟩ (.int .i64 z.2.1.1)).setCell ⟨B, 3, none⟩ (.int .i64 z.2.1.2)).setCell ⟨B, 4, none⟩ (.int .i64 z.2.2.1)).setCell ⟨B, 5, none⟩ (.int .i64 z.2.2.2)) ((B, vobj (vl z)) :: bs) :=
  ((h.setl (k := 0) hB hb rfl z.1).setl (k := 1) hB hb rfl z.2.1).setl (k := 2) hB hb rfl z.2.2
/-- A box of two cells is written. -/
theorem Kv.st2 {x y : Value} {t : TypeId} (h : Kv w W ((B, .cells #[x, y] t (0, 0)) :: bs)) (hB : w.heap.size ≤ B) (hb : ∀ p ∈ bs, p.1 ≠ B) (u v : Value) :
    Kv w ((W.setCell ⟨B, 0, none⟩ u).setCell ⟨B, 1, none⟩ v) ((B, .cells #[u, v] t (0, 0)) :: bs) := by
  have h0 := h.blk _ (List.mem_cons_self ..)
  refine ⟨(h.bel.setCell hB _).setCell hB _, fun p hp => ?_⟩
  rcases List.mem_cons.1 hp with rfl | hp
  · simp only
    rw [heap_setCell_same _ _ _ _ _ _ (heap_setCell_same _ _ _ _ _ _ h0)]
    rfl
  · rw [heap_setCell_other _ _ _ _ (by simpa using hb p hp), heap_setCell_other _ _ _ _ (by simpa using hb p hp)]
    exact h.blk p (List.mem_cons_of_mem _ hp)
end

theorem law6_point (n : Int) (hn : -1048576 ≤ n ∧ n ≤ 1048576) (w : World) :
    Calls Tryz.prog 29 #[.int .i64 n] w fun e w' => e = .returned (.agg #[.int .i64 (n * 4294967296), .int .i64 (n * 4294967296)]) ∧ Below w.heap.size w w' := by
  obtain ⟨h1, h2⟩ := hn
  go_enter Tryz.func29, Tryz.ntmps29
  go_wp2
  exact bodyPost_ret (v := .agg #[.int .i64 (n * 4294967296), .int .i64 (n * 4294967296)]) (by simp [results, Tryz.results29, go_sem]) rfl ⟨rfl, below_alloc (Below.refl _ _) _⟩
set_option maxHeartbeats 2000000 in
theorem law6_of (x y z : Int) (hx : -1048576 ≤ x ∧ x ≤ 1048576) (hy : -1048576 ≤ y ∧ y ≤ 1048576) (hz : -1048576 ≤ z ∧ z ≤ 1048576) (w : World) :
    Calls Tryz.prog 28 #[.int .i64 x, .int .i64 y, .int .i64 z] w fun e w' => e = .returned (.agg #[.int .i64 (x * 4294967296), .int .i64 (x * 4294967296), .int .i64 (y * 4294967296), .int .i64 (y * 4294967296), .int .i64 (z * 4294967296), .int .i64 (z * 4294967296)]) ∧ Below w.heap.size w w' := by
  have hK : Kv w (w.alloc (.cells #[.int .i64 0, .int .i64 0, .int .i64 0, .int .i64 0, .int .i64 0, .int .i64 0] 25)) [(w.heap.size, vobj (vl v30))] := (Kv.start w).al (vobj (vl v30)) (n := w.heap.size) rfl
  have HX := Lib.hid hx
  have HY := Lib.hid hy
  have HZ := Lib.hid hz
  clear hx hy hz
  go_enter Tryz.func28, Tryz.ntmps28
  go_wp2_with fail
  refine (law6_point x HX.out _).mono ?_; rintro e w1 ⟨rfl, hb⟩
  replace hK := hK.on hb
  clear hb
  go_wp2_with fail
  refine (law6_point y HY.out _).mono ?_; rintro e w2 ⟨rfl, hb⟩
  replace hK := hK.on hb
  clear hb
  go_wp2_with fail
  refine (law6_point z HZ.out _).mono ?_; rintro e w3 ⟨rfl, hb⟩
  replace hK := hK.on hb
  clear hb
  have b := hK.blk _ (List.mem_cons_self ..)
  obtain ⟨c0, c1, c2, c3, c4, c5⟩ := vobj_six b
  have f0 := vobj_free b 0
  have f1 := vobj_free b 1
  have f2 := vobj_free b 2
  have f3 := vobj_free b 3
  have f4 := vobj_free b 4
  have f5 := vobj_free b 5
  have lb := lt_of_block b
  have HE := Lib.hid (hK.set6 (Nat.le_refl _) (by simp) (ofV x y z))
  obtain ⟨g0, g1, g2, g3, g4, g5⟩ := vobj_six (HE.out.blk _ (List.mem_cons_self ..))
  clear b hK
  simp only [ofV, wpt] at HE g0 g1 g2 g3 g4 g5
  go_wp2_with fail
  exact bodyPost_ret (v := .agg #[.int .i64 (x * 4294967296), .int .i64 (x * 4294967296), .int .i64 (y * 4294967296), .int .i64 (y * 4294967296), .int .i64 (z * 4294967296), .int .i64 (z * 4294967296)]) (by simp [results, Tryz.results28, go_sem, g0, g1, g2, g3, g4, g5]) rfl ⟨rfl, HE.out.bel⟩
theorem law6_is (a : V3) (w : World) :
    Calls Tryz.prog 27 #[.agg #[.int .i64 a.1.1, .int .i64 a.1.2, .int .i64 a.2.1.1, .int .i64 a.2.1.2, .int .i64 a.2.2.1, .int .i64 a.2.2.2]] w fun e w' => e = .returned (.func (.func 60) #[] #[.pointer (some ⟨w.heap.size, 0, none⟩)]) ∧ Below w.heap.size w w' ∧ w'.heap[w.heap.size]? = some (vobj (vl a)) := by
  have HB : Hid (Below w.heap.size w (w.alloc (.cells #[.int .i64 a.1.1, .int .i64 a.1.2, .int .i64 a.2.1.1, .int .i64 a.2.1.2, .int .i64 a.2.2.1, .int .i64 a.2.2.2] 25)) ∧ (w.alloc (.cells #[.int .i64 a.1.1, .int .i64 a.1.2, .int .i64 a.2.1.1, .int .i64 a.2.1.2, .int .i64 a.2.2.1, .int .i64 a.2.2.2] 25)).heap[w.heap.size]? = some (vobj (vl a))) := Lib.hid ⟨below_alloc (Below.refl _ _) _, heap_at (vobj (vl a)) rfl⟩
  go_enter Tryz.func27, Tryz.ntmps27
  go_wp2
  go_ret
  exact ⟨rfl, HB.out⟩
theorem law6_fails (n : Int) (w : World) :
    Calls Tryz.prog 31 #[.int .i64 n] w fun e w' => e = .returned (.func (.func 62) #[] #[.pointer (some ⟨w.heap.size, 0, none⟩)]) ∧ Below w.heap.size w w' ∧ w'.heap[w.heap.size]? = some (.cells #[.int .i64 n] 37 (0, 0)) := by
  go_enter Tryz.func31, Tryz.ntmps31
  go_wp2
  go_ret
  exact ⟨rfl, below_alloc (Below.refl _ _) _, heap_at _ rfl⟩
theorem law6_says (a : Int × Int) (w : World) :
    Calls Tryz.prog 30 #[.agg #[.int .i64 a.1, .int .i64 a.2]] w fun e w' => e = .returned (.func (.func 61) #[] #[.pointer (some ⟨w.heap.size, 0, none⟩)]) ∧ Below w.heap.size w w' ∧ w'.heap[w.heap.size]? = some (.cells #[.int .i64 a.1, .int .i64 a.2] 23 (0, 0)) := by
  go_enter Tryz.func30, Tryz.ntmps30
  go_wp2
  go_ret
  exact ⟨rfl, below_alloc (Below.refl _ _) _, heap_at _ rfl⟩
theorem law6_refuses (n : Int) (w : World) :
    Calls Tryz.prog 32 #[.int .i64 n] w fun e w' => e = .returned (.func (.func 63) #[] #[.pointer (some ⟨w.heap.size, 0, none⟩)]) ∧ Below w.heap.size w w' ∧ w'.heap[w.heap.size]? = some (.cells #[.int .i64 n] 37 (0, 0)) := by
  go_enter Tryz.func32, Tryz.ntmps32
  go_wp2
  go_ret
  exact ⟨rfl, below_alloc (Below.refl _ _) _, heap_at _ rfl⟩
theorem law6_is1 (a : V3) (B : Nat) (w : World) (h : w.heap[B]? = some (vobj (vl a))) :
    Calls Tryz.prog 60 #[.agg #[.int .i64 a.1.1, .int .i64 a.1.2, .int .i64 a.2.1.1, .int .i64 a.2.1.2, .int .i64 a.2.2.1, .int .i64 a.2.2.2], .int .i64 0, .pointer (some ⟨B, 0, none⟩)] w fun e w' => e = .returned (.bool true) ∧ Below w.heap.size w w' := by
  obtain ⟨c0, c1, c2, c3, c4, c5⟩ := vobj_six h
  have hl := lt_of_block h
  have hq : ∀ W, (Op.equalIn 10000 25 (.agg #[.int .i64 a.1.1, .int .i64 a.1.2, .int .i64 a.2.1.1, .int .i64 a.2.1.2, .int .i64 a.2.2.1, .int .i64 a.2.2.2]) (.agg #[.int .i64 a.1.1, .int .i64 a.1.2, .int .i64 a.2.1.1, .int .i64 a.2.1.2, .int .i64 a.2.2.1, .int .i64 a.2.2.2])).run Tryz.prog W = .ok true W := fun W => (eqlV a a W).trans (by simp)
  clear h
  go_enter Tryz.func60, Tryz.ntmps60
  go_wp2_with fail
  go_ret
  exact ⟨rfl, below_alloc (Below.refl _ _) _⟩
theorem law6_fails1 (n : Int) (B : Nat) (w : World) (h : w.heap[B]? = some (.cells #[.int .i64 n] 37 (0, 0))) :
    Calls Tryz.prog 62 #[.agg #[.int .i64 0, .int .i64 0, .int .i64 0, .int .i64 0, .int .i64 0, .int .i64 0], .int .i64 n, .pointer (some ⟨B, 0, none⟩)] w fun e w' => e = .returned (.bool true) ∧ Below w.heap.size w w' := by
  have c0 := cell_of_one h
  have hl := lt_of_block h
  have hq : ∀ W, (Op.equalIn 10000 25 (.agg #[.int .i64 0, .int .i64 0, .int .i64 0, .int .i64 0, .int .i64 0, .int .i64 0]) (.agg #[.int .i64 0, .int .i64 0, .int .i64 0, .int .i64 0, .int .i64 0, .int .i64 0])).run Tryz.prog W = .ok true W := fun W => (eqlV v30 v30 W).trans (by simp)
  clear h
  go_enter Tryz.func62, Tryz.ntmps62
  go_wp2_with fail
  go_ret
  exact ⟨rfl, below_alloc (Below.refl _ _) _⟩
theorem law6_says1 (a : Int × Int) (B : Nat) (w : World) (h : w.heap[B]? = some (.cells #[.int .i64 a.1, .int .i64 a.2] 23 (0, 0))) :
    Calls Tryz.prog 61 #[.agg #[.int .i64 a.1, .int .i64 a.2], .int .i64 0, .pointer (some ⟨B, 0, none⟩)] w fun e w' => e = .returned (.bool true) ∧ Below w.heap.size w w' := by
  have c0 := cell_two0 h
  have c1 := cell_two1 h
  have hl := lt_of_block h
  clear h
  go_enter Tryz.func61, Tryz.ntmps61
  go_wp2_with fail
  go_ret
  exact ⟨rfl, below_alloc (Below.refl _ _) _⟩
theorem law6_refuses1 (n : Int) (B : Nat) (w : World) (h : w.heap[B]? = some (.cells #[.int .i64 n] 37 (0, 0))) :
    Calls Tryz.prog 63 #[.agg #[.int .i64 0, .int .i64 0], .int .i64 n, .pointer (some ⟨B, 0, none⟩)] w fun e w' => e = .returned (.bool true) ∧ Below w.heap.size w w' := by
  have c0 := cell_of_one h
  have hl := lt_of_block h
  clear h
  go_enter Tryz.func63, Tryz.ntmps63
  go_wp2_with fail
  go_ret
  exact ⟨rfl, below_alloc (Below.refl _ _) _⟩
theorem vAddK (a b : V3) (r : V3) (c : Int) (hv : vAdd a b = (r, c)) (w : World) : Calls Tryz.prog 8 #[.agg #[.int .i64 a.1.1, .int .i64 a.1.2, .int .i64 a.2.1.1, .int .i64 a.2.1.2, .int .i64 a.2.2.1, .int .i64 a.2.2.2], .agg #[.int .i64 b.1.1, .int .i64 b.1.2, .int .i64 b.2.1.1, .int .i64 b.2.1.2, .int .i64 b.2.2.1, .int .i64 b.2.2.2]] w fun e w' => e = .returned (.tuple #[.agg #[.int .i64 r.1.1, .int .i64 r.1.2, .int .i64 r.2.1.1, .int .i64 r.2.1.2, .int .i64 r.2.2.1, .int .i64 r.2.2.2], .int .i64 c]) ∧ Below w.heap.size w w' := by
  have h := vec_Add a b w
  rw [hv] at h
  exact h
theorem vSubK (a b : V3) (r : V3) (c : Int) (hv : vSub a b = (r, c)) (w : World) : Calls Tryz.prog 10 #[.agg #[.int .i64 a.1.1, .int .i64 a.1.2, .int .i64 a.2.1.1, .int .i64 a.2.1.2, .int .i64 a.2.2.1, .int .i64 a.2.2.2], .agg #[.int .i64 b.1.1, .int .i64 b.1.2, .int .i64 b.2.1.1, .int .i64 b.2.1.2, .int .i64 b.2.2.1, .int .i64 b.2.2.2]] w fun e w' => e = .returned (.tuple #[.agg #[.int .i64 r.1.1, .int .i64 r.1.2, .int .i64 r.2.1.1, .int .i64 r.2.1.2, .int .i64 r.2.2.1, .int .i64 r.2.2.2], .int .i64 c]) ∧ Below w.heap.size w w' := by
  have h := vec_Sub a b w
  rw [hv] at h
  exact h
theorem vCrossK (a b : V3) (r : V3) (c : Int) (hv : vCross a b = (r, c)) (w : World) : Calls Tryz.prog 21 #[.agg #[.int .i64 a.1.1, .int .i64 a.1.2, .int .i64 a.2.1.1, .int .i64 a.2.1.2, .int .i64 a.2.2.1, .int .i64 a.2.2.2], .agg #[.int .i64 b.1.1, .int .i64 b.1.2, .int .i64 b.2.1.1, .int .i64 b.2.1.2, .int .i64 b.2.2.1, .int .i64 b.2.2.2]] w fun e w' => e = .returned (.tuple #[.agg #[.int .i64 r.1.1, .int .i64 r.1.2, .int .i64 r.2.1.1, .int .i64 r.2.1.2, .int .i64 r.2.2.1, .int .i64 r.2.2.2], .int .i64 c]) ∧ Below w.heap.size w w' := by
  have h := vec_Cross a b w
  rw [hv] at h
  exact h
theorem vNegK (a : V3) (r : V3) (c : Int) (hv : vNeg a = (r, c)) (w : World) : Calls Tryz.prog 12 #[.agg #[.int .i64 a.1.1, .int .i64 a.1.2, .int .i64 a.2.1.1, .int .i64 a.2.1.2, .int .i64 a.2.2.1, .int .i64 a.2.2.2]] w fun e w' => e = .returned (.tuple #[.agg #[.int .i64 r.1.1, .int .i64 r.1.2, .int .i64 r.2.1.1, .int .i64 r.2.1.2, .int .i64 r.2.2.1, .int .i64 r.2.2.2], .int .i64 c]) ∧ Below w.heap.size w w' := by
  have h := vec_Neg a w
  rw [hv] at h
  exact h
theorem vUnitK (a : V3) (r : V3) (c : Int) (hv : vUnit a = (r, c)) (w : World) : Calls Tryz.prog 25 #[.agg #[.int .i64 a.1.1, .int .i64 a.1.2, .int .i64 a.2.1.1, .int .i64 a.2.1.2, .int .i64 a.2.2.1, .int .i64 a.2.2.2]] w fun e w' => e = .returned (.tuple #[.agg #[.int .i64 r.1.1, .int .i64 r.1.2, .int .i64 r.2.1.1, .int .i64 r.2.1.2, .int .i64 r.2.2.1, .int .i64 r.2.2.2], .int .i64 c]) ∧ Below w.heap.size w w' := by
  have h := vec_Unit a w
  rw [hv] at h
  exact h
theorem vDotK (a b : V3) (r : Int × Int) (c : Int) (hv : vDot a b = (r, c)) (w : World) : Calls Tryz.prog 19 #[.agg #[.int .i64 a.1.1, .int .i64 a.1.2, .int .i64 a.2.1.1, .int .i64 a.2.1.2, .int .i64 a.2.2.1, .int .i64 a.2.2.2], .agg #[.int .i64 b.1.1, .int .i64 b.1.2, .int .i64 b.2.1.1, .int .i64 b.2.1.2, .int .i64 b.2.2.1, .int .i64 b.2.2.2]] w fun e w' => e = .returned (.tuple #[.agg #[.int .i64 r.1, .int .i64 r.2], .int .i64 c]) ∧ Below w.heap.size w w' := by
  have h := vec_Dot a b w
  rw [hv] at h
  exact h
theorem vNormK (a : V3) (r : Int × Int) (c : Int) (hv : vNorm a = (r, c)) (w : World) : Calls Tryz.prog 23 #[.agg #[.int .i64 a.1.1, .int .i64 a.1.2, .int .i64 a.2.1.1, .int .i64 a.2.1.2, .int .i64 a.2.2.1, .int .i64 a.2.2.2]] w fun e w' => e = .returned (.tuple #[.agg #[.int .i64 r.1, .int .i64 r.2], .int .i64 c]) ∧ Below w.heap.size w w' := by
  have h := vec_Norm a w
  rw [hv] at h
  exact h
theorem vScaleK (a : V3) (t : Int × Int) (r : V3) (c : Int) (hv : vScale a t = (r, c)) (w : World) : Calls Tryz.prog 17 #[.agg #[.int .i64 a.1.1, .int .i64 a.1.2, .int .i64 a.2.1.1, .int .i64 a.2.1.2, .int .i64 a.2.2.1, .int .i64 a.2.2.2], .agg #[.int .i64 t.1, .int .i64 t.2]] w fun e w' => e = .returned (.tuple #[.agg #[.int .i64 r.1.1, .int .i64 r.1.2, .int .i64 r.2.1.1, .int .i64 r.2.1.2, .int .i64 r.2.2.1, .int .i64 r.2.2.2], .int .i64 c]) ∧ Below w.heap.size w w' := by
  have h := vec_Scale a t w
  rw [hv] at h
  exact h
theorem vCheckK (a : V3) (c : Int) (hv : vNote 0 a = c) (w : World) : Calls Tryz.prog 14 #[.agg #[.int .i64 a.1.1, .int .i64 a.1.2, .int .i64 a.2.1.1, .int .i64 a.2.1.2, .int .i64 a.2.2.1, .int .i64 a.2.2.2]] w fun e w' => e = .returned (.int .i64 c) ∧ Below w.heap.size w w' := by
  have h := vec_Check a w
  rw [hv] at h
  exact h
end Go.Proofs.YtmnccbhlllnlbaaGreat
