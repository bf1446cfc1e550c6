/- Contract of law 02's pairs. -/
import Derived.BigRegion
import Derived.Deep.RegionHeld3
import Derived.Deep.DeepCutAuto
import Derived.Test.YtjphhdfkkkdppaaDoorRegInv
import Derived.Test.YtjphhdfkkkdppaaDoorSpanH
import Derived.Test.YtjphhdfkkkdppaaDoorRefY
namespace Go.Proofs.YtjphhdfkkkdppaaDoor
open Go.RowKit Mnc
attribute [local go_sem] RunS_value RunS_skip RunS_enter evS_tmp evS_const evS_global evS_func

/-- What a Two holds. -/
structure Tw where
  a : Int × Int
  b : Int × Int
  x0 : Int
  x1 : Int
  x2 : Int
  y0 : Int
  y1 : Int
  y2 : Int
def Tw.obj (T : Tw) : Obj := .cells #[.int .i64 T.a.1, .int .i64 T.a.2, .int .i64 T.b.1, .int .i64 T.b.2, .int .i64 T.x0, .int .u8 T.x1, .int .u32 T.x2, .int .i64 T.y0, .int .u8 T.y1, .int .u32 T.y2] 40 (0, 0)
def Tw.val (T : Tw) : Value := .agg #[.int .i64 T.a.1, .int .i64 T.a.2, .int .i64 T.b.1, .int .i64 T.b.2, .int .i64 T.x0, .int .u8 T.x1, .int .u32 T.x2, .int .i64 T.y0, .int .u8 T.y1, .int .u32 T.y2]
structure Tw.ok (T : Tw) : Prop where
  x1 : 0 ≤ T.x1 ∧ T.x1 < 256
  x2 : 0 ≤ T.x2 ∧ T.x2 < 4294967296
  y1 : 0 ≤ T.y1 ∧ T.y1 < 256
  y2 : 0 ≤ T.y2 ∧ T.y2 < 4294967296
theorem tw_keep {T : Tw} {B : Nat} {W W' : World} (h : W.heap[B]? = some T.obj) (k : Below W.heap.size W W') :
    W'.cell? ⟨B, 4, none⟩ = some (.int .i64 T.x0) ∧ W'.cell? ⟨B, 5, none⟩ = some (.int .u8 T.x1) ∧ W'.cell? ⟨B, 6, none⟩ = some (.int .u32 T.x2) ∧ W'.cell? ⟨B, 7, none⟩ = some (.int .i64 T.y0) ∧ W'.cell? ⟨B, 8, none⟩ = some (.int .u8 T.y1) ∧ W'.cell? ⟨B, 9, none⟩ = some (.int .u32 T.y2) ∧ Below W.heap.size W W' := by
  have h2 := (k.block _ (lt_of_block h)).trans h
  refine ⟨?_, ?_, ?_, ?_, ?_, ?_, k⟩ <;> simp [World.cell?, h2, Tw.obj]


theorem heap_set {w : World} {a : Addr} {v : Value} {B : Nat} {o : Obj} (h : w.heap[B]? = some o) (hne : a.block ≠ B) : (w.setCell a v).heap[B]? = some o := by
  rw [← h]
  exact Below.heap_setCell _ _ _ _ (Ne.symm hne)
/-- A slot that holds the address of a box of a Span made since the world had n blocks; where c holds it holds X. -/
def Bx (w : World) (n : Nat) (v : Value) (c : Prop) (X : Int × Int) : Prop := ∃ g : Nat, v = .pointer (some ⟨g, 0, none⟩) ∧ n ≤ g ∧ ∃ u : Int × Int, w.heap[g]? = some (.cells #[.int .i64 u.1, .int .i64 u.2] 23 (0, 0)) ∧ (c → u = X)
section
variable {w w' : World} {n : Nat} {v : Value} {c : Prop} {X : Int × Int}
theorem Bx.on (h : Bx w n v c X) (k : Below w.heap.size w w') : Bx w' n v c X := by
  obtain ⟨g, h1, h2, u, h3, h4⟩ := h
  exact ⟨g, h1, h2, u, (k.block _ (lt_of_block h3)).trans h3, h4⟩
theorem Bx.al (h : Bx w n v c X) (o : Obj) : Bx (w.alloc o) n v c X := by
  obtain ⟨g, h1, h2, u, h3, h4⟩ := h
  exact ⟨g, h1, h2, u, heap_up o h3, h4⟩
theorem Bx.new (h : n ≤ w.heap.size) (hc : ¬ c) : Bx (w.alloc (.cells #[.int .i64 0, .int .i64 0] 23 (0, 0))) n (.pointer (some ⟨w.heap.size, 0, none⟩)) c X :=
  ⟨_, rfl, h, (0, 0), heap_at _ rfl, fun h => absurd h hc⟩
theorem bx_set2 {w : World} {B : Nat} {x y u v : Int} {t : TypeId} (h : w.heap[B]? = some (.cells #[.int .i64 x, .int .i64 y] t (0, 0))) : ((w.setCell ⟨B, 0, none⟩ (.int .i64 u)).setCell ⟨B, 1, none⟩ (.int .i64 v)).heap[B]? = some (.cells #[.int .i64 u, .int .i64 v] t (0, 0)) := by
  have h1 := heap_setCell_same w B 0 _ t (.int .i64 u) h
  have h2 := heap_setCell_same _ B 1 _ t (.int .i64 v) h1
  exact h2
theorem Bx.set {g : Nat} {a b : Value} (h : Bx w n v c X) (hne : v ≠ .pointer (some ⟨g, 0, none⟩)) : Bx ((w.setCell ⟨g, 0, none⟩ a).setCell ⟨g, 1, none⟩ b) n v c X := by
  obtain ⟨k, rfl, h2, u, h3, h4⟩ := h
  have hk : g ≠ k := fun e => hne (by rw [e])
  exact ⟨k, rfl, h2, u, heap_set (heap_set h3 hk) hk, h4⟩
theorem Bx.lt (h : Bx w n v c X) : v ≠ .pointer (some ⟨w.heap.size, 0, none⟩) := by
  obtain ⟨g, rfl, h2, u, h3, h4⟩ := h
  intro e
  have := lt_of_block h3
  simp only [Value.pointer.injEq, Option.some.injEq, Addr.mk.injEq, and_true] at e
  omega
end

structure Pr1 (W : World) (B : Nat) (T : Tw) (L : Nat → Bool) (s : Nat → Value) (w : World) : Prop where
  bel : Below W.heap.size W w
  e0 : L 0 = true → s 5 = .pointer (some ⟨B, 4, none⟩)
  e1 : L 1 = true → s 6 = .agg #[.int .i64 T.x0, .int .u8 T.x1, .int .u32 T.x2]
  e2 : L 2 = true → s 7 = .agg #[.int .i64 (dSpan T.x0 T.x1 T.x2).1, .int .i64 (dSpan T.x0 T.x1 T.x2).2]
  e3 : L 3 = true → s 8 = .pointer (some ⟨B, 7, none⟩)
  e4 : L 4 = true → s 9 = .agg #[.int .i64 T.y0, .int .u8 T.y1, .int .u32 T.y2]
  e5 : L 5 = true → s 10 = .agg #[.int .i64 (dSpan T.y0 T.y1 T.y2).1, .int .i64 (dSpan T.y0 T.y1 T.y2).2]
  e6 : L 6 = true → Bx w W.heap.size (s 3) (L 8 = true) (dSpan T.x0 T.x1 T.x2)
  e7 : L 7 = true → Bx w W.heap.size (s 4) (L 9 = true) (dSpan T.y0 T.y1 T.y2)
  ne : L 6 = true → L 7 = true → s 3 ≠ s 4
  d8 : L 8 = true → L 6 = true
  d9 : L 9 = true → L 7 = true
/-- The boxes of the two drafted intervals. -/
structure PrB (W W' : World) (B3 B4 : Nat) (x y : Int × Int) : Prop where
  bel : Below W.heap.size W W'
  b3 : W'.heap[B3]? = some (.cells #[.int .i64 x.1, .int .i64 x.2] 23 (0, 0))
  b4 : W'.heap[B4]? = some (.cells #[.int .i64 y.1, .int .i64 y.2] 23 (0, 0))
/-- The pairs of intervals. -/
def prsOf (T : Tw) : List ((Int × Int) × (Int × Int)) := [(T.a, T.b), ((dSpan T.x0 T.x1 T.x2), (dSpan T.y0 T.y1 T.y2)), ((dSmall T.x0 T.x1 T.x2), (dSmall T.y0 T.y1 T.y2)), ((dSpan T.x0 T.x1 T.x2), (dSmall T.y0 T.y1 T.y2)), (T.a, (dSpan T.y0 T.y1 T.y2))]
def prFlat : List ((Int × Int) × (Int × Int)) → List Value
  | [] => []
  | p :: l => .int .i64 p.1.1 :: .int .i64 p.1.2 :: .int .i64 p.2.1 :: .int .i64 p.2.2 :: prFlat l
def prObj (l : List ((Int × Int) × (Int × Int))) : Obj := .cells (prFlat l).toArray 29 (0, 0)
def Sl5 (w : World) (n : Nat) (v : Value) (l : List ((Int × Int) × (Int × Int))) : Prop := ∃ g : Nat, v = .slice (some ⟨g, 0, none⟩) 5 5 ∧ n ≤ g ∧ w.heap[g]? = some (prObj l)
theorem Sl5.on {w w' : World} {n : Nat} {v : Value} {l : List ((Int × Int) × (Int × Int))} (h : Sl5 w n v l) (k : Below w.heap.size w w') : Sl5 w' n v l := by
  obtain ⟨g, h1, h2, h3⟩ := h
  exact ⟨g, h1, h2, (k.block _ (lt_of_block h3)).trans h3⟩
theorem tw_all {T : Tw} {B : Nat} {W : World} (h2 : W.heap[B]? = some T.obj) :
    W.cell? ⟨B, 0, none⟩ = some (.int .i64 T.a.1) ∧ W.cell? ⟨B, 1, none⟩ = some (.int .i64 T.a.2) ∧ W.cell? ⟨B, 2, none⟩ = some (.int .i64 T.b.1) ∧ W.cell? ⟨B, 3, none⟩ = some (.int .i64 T.b.2) ∧ W.cell? ⟨B, 4, none⟩ = some (.int .i64 T.x0) ∧ W.cell? ⟨B, 5, none⟩ = some (.int .u8 T.x1) ∧ W.cell? ⟨B, 6, none⟩ = some (.int .u32 T.x2) ∧ W.cell? ⟨B, 7, none⟩ = some (.int .i64 T.y0) ∧ W.cell? ⟨B, 8, none⟩ = some (.int .u8 T.y1) ∧ W.cell? ⟨B, 9, none⟩ = some (.int .u32 T.y2) := by
  refine ⟨?_, ?_, ?_, ?_, ?_, ?_, ?_, ?_, ?_, ?_⟩ <;> simp [World.cell?, h2, Tw.obj]
structure Pr2 (W : World) (B B3 B4 : Nat) (T : Tw) (L : Nat → Bool) (s : Nat → Value) (w : World) : Prop where
  bel : Below W.heap.size W w
  e0 : L 0 = true → s 11 = .pointer (some ⟨B, 0, none⟩)
  e1 : L 1 = true → s 12 = .agg #[.int .i64 T.a.1, .int .i64 T.a.2]
  e2 : L 2 = true → s 13 = .pointer (some ⟨B, 2, none⟩)
  e3 : L 3 = true → s 14 = .agg #[.int .i64 T.b.1, .int .i64 T.b.2]
  e4 : L 4 = true → s 15 = .agg #[.int .i64 T.a.1, .int .i64 T.a.2, .int .i64 T.b.1, .int .i64 T.b.2]
  e5 : L 5 = true → s 16 = .agg #[.int .i64 (dSpan T.x0 T.x1 T.x2).1, .int .i64 (dSpan T.x0 T.x1 T.x2).2]
  e6 : L 6 = true → s 17 = .agg #[.int .i64 (dSpan T.y0 T.y1 T.y2).1, .int .i64 (dSpan T.y0 T.y1 T.y2).2]
  e7 : L 7 = true → s 18 = .agg #[.int .i64 (dSpan T.x0 T.x1 T.x2).1, .int .i64 (dSpan T.x0 T.x1 T.x2).2, .int .i64 (dSpan T.y0 T.y1 T.y2).1, .int .i64 (dSpan T.y0 T.y1 T.y2).2]
  e8 : L 8 = true → s 19 = .pointer (some ⟨B, 4, none⟩)
  e9 : L 9 = true → s 20 = .agg #[.int .i64 T.x0, .int .u8 T.x1, .int .u32 T.x2]
  e10 : L 10 = true → s 21 = .agg #[.int .i64 (dSmall T.x0 T.x1 T.x2).1, .int .i64 (dSmall T.x0 T.x1 T.x2).2]
  e11 : L 11 = true → s 22 = .pointer (some ⟨B, 7, none⟩)
  e12 : L 12 = true → s 23 = .agg #[.int .i64 T.y0, .int .u8 T.y1, .int .u32 T.y2]
  e13 : L 13 = true → s 24 = .agg #[.int .i64 (dSmall T.y0 T.y1 T.y2).1, .int .i64 (dSmall T.y0 T.y1 T.y2).2]
  e14 : L 14 = true → s 25 = .agg #[.int .i64 (dSmall T.x0 T.x1 T.x2).1, .int .i64 (dSmall T.x0 T.x1 T.x2).2, .int .i64 (dSmall T.y0 T.y1 T.y2).1, .int .i64 (dSmall T.y0 T.y1 T.y2).2]
  e15 : L 15 = true → s 26 = .agg #[.int .i64 (dSpan T.x0 T.x1 T.x2).1, .int .i64 (dSpan T.x0 T.x1 T.x2).2]
  e16 : L 16 = true → s 27 = .pointer (some ⟨B, 7, none⟩)
  e17 : L 17 = true → s 28 = .agg #[.int .i64 T.y0, .int .u8 T.y1, .int .u32 T.y2]
  e18 : L 18 = true → s 29 = .agg #[.int .i64 (dSmall T.y0 T.y1 T.y2).1, .int .i64 (dSmall T.y0 T.y1 T.y2).2]
  e19 : L 19 = true → s 30 = .agg #[.int .i64 (dSpan T.x0 T.x1 T.x2).1, .int .i64 (dSpan T.x0 T.x1 T.x2).2, .int .i64 (dSmall T.y0 T.y1 T.y2).1, .int .i64 (dSmall T.y0 T.y1 T.y2).2]
  e20 : L 20 = true → s 31 = .pointer (some ⟨B, 0, none⟩)
  e21 : L 21 = true → s 32 = .agg #[.int .i64 T.a.1, .int .i64 T.a.2]
  e22 : L 22 = true → s 33 = .agg #[.int .i64 (dSpan T.y0 T.y1 T.y2).1, .int .i64 (dSpan T.y0 T.y1 T.y2).2]
  e23 : L 23 = true → s 34 = .agg #[.int .i64 T.a.1, .int .i64 T.a.2, .int .i64 (dSpan T.y0 T.y1 T.y2).1, .int .i64 (dSpan T.y0 T.y1 T.y2).2]
  e24 : L 24 = true → Sl5 w W.heap.size (s 35) (prsOf T)
  e25 : L 25 = true → Sl5 w W.heap.size (s 2) (prsOf T)
set_option maxRecDepth 100000 in
set_option maxHeartbeats 4000000 in
theorem law2_pairs (T : Tw) (hT : T.ok) (w : World) :
    Calls Tryd.prog 23 #[T.val] w fun e w' => (∃ v, e = .returned v ∧ Sl5 w' w.heap.size v (prsOf T)) ∧ Below w.heap.size w w' := by
  have hB : (w.alloc T.obj).heap[w.heap.size]? = some T.obj := heap_at _ rfl
  have hbel := below_alloc (Below.refl w.heap.size w) T.obj
  have HX := Lib.hid (fun W => draft_Span T.x0 T.x1 T.x2 hT.x1 hT.x2 W)
  have HY := Lib.hid (fun W => draft_Span T.y0 T.y1 T.y2 hT.y1 hT.y2 W)
  have HU := Lib.hid (fun W => draft_Small T.x0 T.x1 T.x2 hT.x1 hT.x2 W)
  have HV := Lib.hid (fun W => draft_Small T.y0 T.y1 T.y2 hT.y1 hT.y2 W)
  have HBL := Lib.hid hbel
  have HBO := Lib.hid hB
  clear hB hbel
  unfold Tw.val
  go_enter Tryd.func23, Tryd.ntmps23
  go_wp2_with fail
  change Code.wp _ _ _ _ (w.alloc T.obj)
  have l0 := lt_of_block HBO.out
  generalize w.alloc T.obj = W1 at *
  go_cut [3, 4] (fun a b wx => ∃ B3 B4 : Nat, a = .pointer (some ⟨B3, 0, none⟩) ∧ b = .pointer (some ⟨B4, 0, none⟩) ∧ Hid (PrB W1 wx B3 B4 (dSpan T.x0 T.x1 T.x2) (dSpan T.y0 T.y1 T.y2)))
  case first =>
    refine wp_region_inv (Pr1 W1 w.heap.size T) (by kernel_rfl) (by kernel_rfl) ?_ ?_ ?_
    · exact ⟨(Below.refl _ _).drew, fun h => absurd h Bool.false_ne_true, fun h => absurd h Bool.false_ne_true, fun h => absurd h Bool.false_ne_true, fun h => absurd h Bool.false_ne_true, fun h => absurd h Bool.false_ne_true, fun h => absurd h Bool.false_ne_true, fun h => absurd h Bool.false_ne_true, fun h => absurd h Bool.false_ne_true, fun h => absurd h Bool.false_ne_true, fun h => absurd h Bool.false_ne_true, fun h => absurd h Bool.false_ne_true⟩
    · refine AllS.cons ?_ (AllS.cons ?_ (AllS.cons ?_ (AllS.cons ?_ (AllS.cons ?_ (AllS.cons ?_ (AllS.cons ?_ (AllS.cons ?_ (AllS.cons ?_ (AllS.cons ?_ AllS.nil)))))))))
      · intro L s w2 h hk hd hn
        have s1 : s 1 = _ := hk 1 (by kernel_rfl)
        refine stepS rfl fun K hK => ?_
        go_simp
        exact hK _ _ { h with e0 := fun _ => rfl }
      · intro L s w2 h hk hd hn
        have s5 := h.e0 hd.1
        obtain ⟨k4, k5, k6, k7, k8, k9, -⟩ := tw_keep HBO.out h.bel
        refine stepS rfl fun K hK => ?_
        go_simp
        exact hK _ _ { h with e1 := fun _ => rfl }
      · intro L s w2 h hk hd hn
        have s6 := h.e1 hd.1
        refine stepS rfl fun K hK => ?_
        go_simp
        refine (HX.out _).mono ?_
        rintro e w3 ⟨rfl, hb⟩
        exact ⟨_, rfl, hK _ _ { h with bel := below_step h.bel hb, e2 := fun _ => rfl, e6 := fun d => (h.e6 d).on hb, e7 := fun d => (h.e7 d).on hb }⟩
      · intro L s w2 h hk hd hn
        have s1 : s 1 = _ := hk 1 (by kernel_rfl)
        refine stepS rfl fun K hK => ?_
        go_simp
        exact hK _ _ { h with e3 := fun _ => rfl }
      · intro L s w2 h hk hd hn
        have s8 := h.e3 hd.1
        obtain ⟨k4, k5, k6, k7, k8, k9, -⟩ := tw_keep HBO.out h.bel
        refine stepS rfl fun K hK => ?_
        go_simp
        exact hK _ _ { h with e4 := fun _ => rfl }
      · intro L s w2 h hk hd hn
        have s9 := h.e4 hd.1
        refine stepS rfl fun K hK => ?_
        go_simp
        refine (HY.out _).mono ?_
        rintro e w3 ⟨rfl, hb⟩
        exact ⟨_, rfl, hK _ _ { h with bel := below_step h.bel hb, e5 := fun _ => rfl, e6 := fun d => (h.e6 d).on hb, e7 := fun d => (h.e7 d).on hb }⟩
      · intro L s w2 h hk hd hn
        refine stepS rfl fun K hK => ?_
        go_simp
        exact hK _ _ { h with bel := below_alloc h.bel _, e6 := fun _ => Bx.new h.bel.size (fun g => by rw [h.d8 g] at hn; cases hn), e7 := fun d => (h.e7 d).al _, ne := fun _ d => fun g => (h.e7 d).lt g.symm, d8 := fun _ => rfl }
      · intro L s w2 h hk hd hn
        refine stepS rfl fun K hK => ?_
        go_simp
        exact hK _ _ { h with bel := below_alloc h.bel _, e7 := fun _ => Bx.new h.bel.size (fun g => by rw [h.d9 g] at hn; cases hn), e6 := fun d => (h.e6 d).al _, ne := fun d _ => (h.e6 d).lt, d9 := fun _ => rfl }
      · intro L s w2 h hk hd hn
        obtain ⟨g, s3, hg, u, hu, -⟩ := h.e6 hd.1
        have s7 := h.e2 hd.2.1
        have c0 := cell_two0 hu
        have c1 := cell_two1 hu
        have f0 := free_two (i := 0) hu
        have f1 := free_two (i := 1) hu
        have l := lt_of_block hu
        refine stepS rfl fun K hK => ?_
        go_simp
        exact hK _ _ { h with bel := below_set2 h.bel hg _ _, e6 := fun _ => ⟨g, s3, hg, _, bx_set2 hu, fun _ => rfl⟩, e7 := fun d => (h.e7 d).set (by rw [← s3]; exact (h.ne hd.1 d).symm), d8 := fun _ => hd.1 }
      · intro L s w2 h hk hd hn
        obtain ⟨g, s4, hg, u, hu, -⟩ := h.e7 hd.1
        have s10 := h.e5 hd.2.1
        have c0 := cell_two0 hu
        have c1 := cell_two1 hu
        have f0 := free_two (i := 0) hu
        have f1 := free_two (i := 1) hu
        have l := lt_of_block hu
        refine stepS rfl fun K hK => ?_
        go_simp
        exact hK _ _ { h with bel := below_set2 h.bel hg _ _, e7 := fun _ => ⟨g, s4, hg, _, bx_set2 hu, fun _ => rfl⟩, e6 := fun d => (h.e6 d).set (by rw [← s4]; exact h.ne d hd.1), d9 := fun _ => hd.1 }
    · intro L s w2 h hk hl
      obtain ⟨g3, s3, -, u3, b3, z3⟩ := h.e6 (hl 6 (by decide))
      obtain rfl := z3 (hl 8 (by decide))
      obtain ⟨g4, s4, -, u4, b4, z4⟩ := h.e7 (hl 7 (by decide))
      obtain rfl := z4 (hl 9 (by decide))
      rename_i J K' hR hM
      refine hM _ _ (Met.intro (hR _ _ ?_))
      refine ⟨s 3, s 4, s 5, s 6, s 7, s 8, s 9, s 10, s 11, s 12, s 13, s 14, s 15, s 16, s 17, s 18, s 19, s 20, s 21, s 22, s 23, s 24, s 25, s 26, s 27, s 28, s 29, s 30, s 31, s 32, s 33, s 34, s 35, ⟨g3, g4, s3, s4, Lib.hid ⟨h.bel, b3, b4⟩⟩, ?_⟩
      refine congrArg (fun l => (⟨List.toArray l, []⟩ : Act)) ?_
      show [s 0, s 1, s 2, s 3, s 4, s 5, s 6, s 7, s 8, s 9, s 10, s 11, s 12, s 13, s 14, s 15, s 16, s 17, s 18, s 19, s 20, s 21, s 22, s 23, s 24, s 25, s 26, s 27, s 28, s 29, s 30, s 31, s 32, s 33, s 34, s 35] = _
      rw [hk 0 (by kernel_rfl), hk 1 (by kernel_rfl), hk 2 (by kernel_rfl)]
      rfl
  case rest =>
    obtain ⟨B3, B4, rfl, rfl, HP⟩ := hcut
    have HBC := Lib.hid ((HP.out.bel.block _ (lt_of_block HBO.out)).trans HBO.out)
    have HBL2 := Lib.hid (below_stepB HBL.out (Nat.le_of_lt l0) HP.out.bel)
    clear HBL HBO HX HY
    go_wp2_with fail
    go_cut [2] (fun v wx => Sl5 wx wc.heap.size v (prsOf T) ∧ Below wc.heap.size wc wx)
    case first =>
      refine wp_region_inv (Pr2 wc w.heap.size B3 B4 T) (by kernel_rfl) (by kernel_rfl) ?_ ?_ ?_
      · exact ⟨(Below.refl _ _).drew, fun h => absurd h Bool.false_ne_true, fun h => absurd h Bool.false_ne_true, fun h => absurd h Bool.false_ne_true, fun h => absurd h Bool.false_ne_true, fun h => absurd h Bool.false_ne_true, fun h => absurd h Bool.false_ne_true, fun h => absurd h Bool.false_ne_true, fun h => absurd h Bool.false_ne_true, fun h => absurd h Bool.false_ne_true, fun h => absurd h Bool.false_ne_true, fun h => absurd h Bool.false_ne_true, fun h => absurd h Bool.false_ne_true, fun h => absurd h Bool.false_ne_true, fun h => absurd h Bool.false_ne_true, fun h => absurd h Bool.false_ne_true, fun h => absurd h Bool.false_ne_true, fun h => absurd h Bool.false_ne_true, fun h => absurd h Bool.false_ne_true, fun h => absurd h Bool.false_ne_true, fun h => absurd h Bool.false_ne_true, fun h => absurd h Bool.false_ne_true, fun h => absurd h Bool.false_ne_true, fun h => absurd h Bool.false_ne_true, fun h => absurd h Bool.false_ne_true, fun h => absurd h Bool.false_ne_true, fun h => absurd h Bool.false_ne_true⟩
      · refine AllS.cons ?_ (AllS.cons ?_ (AllS.cons ?_ (AllS.cons ?_ (AllS.cons ?_ (AllS.cons ?_ (AllS.cons ?_ (AllS.cons ?_ (AllS.cons ?_ (AllS.cons ?_ (AllS.cons ?_ (AllS.cons ?_ (AllS.cons ?_ (AllS.cons ?_ (AllS.cons ?_ (AllS.cons ?_ (AllS.cons ?_ (AllS.cons ?_ (AllS.cons ?_ (AllS.cons ?_ (AllS.cons ?_ (AllS.cons ?_ (AllS.cons ?_ (AllS.cons ?_ (AllS.cons ?_ (AllS.cons ?_ AllS.nil)))))))))))))))))))))))))
        · intro L s w2 h hk hd hn
          have s1 : s 1 = _ := hk 1 (by kernel_rfl)
          refine stepS rfl fun K hK => ?_
          go_simp
          exact hK _ _ { h with e0 := fun _ => rfl }
        · intro L s w2 h hk hd hn
          have s11 := h.e0 hd.1
          obtain ⟨k0, k1, k2, k3, k4, k5, k6, k7, k8, k9⟩ := tw_all ((h.bel.block _ (lt_of_block HBC.out)).trans HBC.out)
          refine stepS rfl fun K hK => ?_
          go_simp
          exact hK _ _ { h with e1 := fun _ => rfl }
        · intro L s w2 h hk hd hn
          have s1 : s 1 = _ := hk 1 (by kernel_rfl)
          refine stepS rfl fun K hK => ?_
          go_simp
          exact hK _ _ { h with e2 := fun _ => rfl }
        · intro L s w2 h hk hd hn
          have s13 := h.e2 hd.1
          obtain ⟨k0, k1, k2, k3, k4, k5, k6, k7, k8, k9⟩ := tw_all ((h.bel.block _ (lt_of_block HBC.out)).trans HBC.out)
          refine stepS rfl fun K hK => ?_
          go_simp
          exact hK _ _ { h with e3 := fun _ => rfl }
        · intro L s w2 h hk hd hn
          have s12 := h.e1 hd.1
          have s14 := h.e3 hd.2.1
          refine stepS rfl fun K hK => ?_
          go_simp
          exact hK _ _ { h with e4 := fun _ => rfl }
        · intro L s w2 h hk hd hn
          have s3 : s 3 = _ := hk 3 (by kernel_rfl)
          have b := (h.bel.block _ (lt_of_block HP.out.b3)).trans HP.out.b3
          have c0 := cell_two0 b
          have c1 := cell_two1 b
          refine stepS rfl fun K hK => ?_
          go_simp
          exact hK _ _ { h with e5 := fun _ => rfl }
        · intro L s w2 h hk hd hn
          have s4 : s 4 = _ := hk 4 (by kernel_rfl)
          have b := (h.bel.block _ (lt_of_block HP.out.b4)).trans HP.out.b4
          have c0 := cell_two0 b
          have c1 := cell_two1 b
          refine stepS rfl fun K hK => ?_
          go_simp
          exact hK _ _ { h with e6 := fun _ => rfl }
        · intro L s w2 h hk hd hn
          have s16 := h.e5 hd.1
          have s17 := h.e6 hd.2.1
          refine stepS rfl fun K hK => ?_
          go_simp
          exact hK _ _ { h with e7 := fun _ => rfl }
        · intro L s w2 h hk hd hn
          have s1 : s 1 = _ := hk 1 (by kernel_rfl)
          refine stepS rfl fun K hK => ?_
          go_simp
          exact hK _ _ { h with e8 := fun _ => rfl }
        · intro L s w2 h hk hd hn
          have s19 := h.e8 hd.1
          obtain ⟨k0, k1, k2, k3, k4, k5, k6, k7, k8, k9⟩ := tw_all ((h.bel.block _ (lt_of_block HBC.out)).trans HBC.out)
          refine stepS rfl fun K hK => ?_
          go_simp
          exact hK _ _ { h with e9 := fun _ => rfl }
        · intro L s w2 h hk hd hn
          have s20 := h.e9 hd.1
          refine stepS rfl fun K hK => ?_
          go_simp
          refine (HU.out _).mono ?_
          rintro e w3 ⟨rfl, hb⟩
          exact ⟨_, rfl, hK _ _ { h with bel := below_step h.bel hb, e24 := fun d => (h.e24 d).on hb, e25 := fun d => (h.e25 d).on hb, e10 := fun _ => rfl }⟩
        · intro L s w2 h hk hd hn
          have s1 : s 1 = _ := hk 1 (by kernel_rfl)
          refine stepS rfl fun K hK => ?_
          go_simp
          exact hK _ _ { h with e11 := fun _ => rfl }
        · intro L s w2 h hk hd hn
          have s22 := h.e11 hd.1
          obtain ⟨k0, k1, k2, k3, k4, k5, k6, k7, k8, k9⟩ := tw_all ((h.bel.block _ (lt_of_block HBC.out)).trans HBC.out)
          refine stepS rfl fun K hK => ?_
          go_simp
          exact hK _ _ { h with e12 := fun _ => rfl }
        · intro L s w2 h hk hd hn
          have s23 := h.e12 hd.1
          refine stepS rfl fun K hK => ?_
          go_simp
          refine (HV.out _).mono ?_
          rintro e w3 ⟨rfl, hb⟩
          exact ⟨_, rfl, hK _ _ { h with bel := below_step h.bel hb, e24 := fun d => (h.e24 d).on hb, e25 := fun d => (h.e25 d).on hb, e13 := fun _ => rfl }⟩
        · intro L s w2 h hk hd hn
          have s21 := h.e10 hd.1
          have s24 := h.e13 hd.2.1
          refine stepS rfl fun K hK => ?_
          go_simp
          exact hK _ _ { h with e14 := fun _ => rfl }
        · intro L s w2 h hk hd hn
          have s3 : s 3 = _ := hk 3 (by kernel_rfl)
          have b := (h.bel.block _ (lt_of_block HP.out.b3)).trans HP.out.b3
          have c0 := cell_two0 b
          have c1 := cell_two1 b
          refine stepS rfl fun K hK => ?_
          go_simp
          exact hK _ _ { h with e15 := fun _ => rfl }
        · intro L s w2 h hk hd hn
          have s1 : s 1 = _ := hk 1 (by kernel_rfl)
          refine stepS rfl fun K hK => ?_
          go_simp
          exact hK _ _ { h with e16 := fun _ => rfl }
        · intro L s w2 h hk hd hn
          have s27 := h.e16 hd.1
          obtain ⟨k0, k1, k2, k3, k4, k5, k6, k7, k8, k9⟩ := tw_all ((h.bel.block _ (lt_of_block HBC.out)).trans HBC.out)
          refine stepS rfl fun K hK => ?_
          go_simp
          exact hK _ _ { h with e17 := fun _ => rfl }
        · intro L s w2 h hk hd hn
          have s28 := h.e17 hd.1
          refine stepS rfl fun K hK => ?_
          go_simp
          refine (HV.out _).mono ?_
          rintro e w3 ⟨rfl, hb⟩
          exact ⟨_, rfl, hK _ _ { h with bel := below_step h.bel hb, e24 := fun d => (h.e24 d).on hb, e25 := fun d => (h.e25 d).on hb, e18 := fun _ => rfl }⟩
        · intro L s w2 h hk hd hn
          have s26 := h.e15 hd.1
          have s29 := h.e18 hd.2.1
          refine stepS rfl fun K hK => ?_
          go_simp
          exact hK _ _ { h with e19 := fun _ => rfl }
        · intro L s w2 h hk hd hn
          have s1 : s 1 = _ := hk 1 (by kernel_rfl)
          refine stepS rfl fun K hK => ?_
          go_simp
          exact hK _ _ { h with e20 := fun _ => rfl }
        · intro L s w2 h hk hd hn
          have s31 := h.e20 hd.1
          obtain ⟨k0, k1, k2, k3, k4, k5, k6, k7, k8, k9⟩ := tw_all ((h.bel.block _ (lt_of_block HBC.out)).trans HBC.out)
          refine stepS rfl fun K hK => ?_
          go_simp
          exact hK _ _ { h with e21 := fun _ => rfl }
        · intro L s w2 h hk hd hn
          have s4 : s 4 = _ := hk 4 (by kernel_rfl)
          have b := (h.bel.block _ (lt_of_block HP.out.b4)).trans HP.out.b4
          have c0 := cell_two0 b
          have c1 := cell_two1 b
          refine stepS rfl fun K hK => ?_
          go_simp
          exact hK _ _ { h with e22 := fun _ => rfl }
        · intro L s w2 h hk hd hn
          have s32 := h.e21 hd.1
          have s33 := h.e22 hd.2.1
          refine stepS rfl fun K hK => ?_
          go_simp
          exact hK _ _ { h with e23 := fun _ => rfl }
        · intro L s w2 h hk hd hn
          have s15 := h.e4 hd.1
          have s18 := h.e7 hd.2.1
          have s25 := h.e14 hd.2.2.1
          have s30 := h.e19 hd.2.2.2.1
          have s34 := h.e23 hd.2.2.2.2.1
          refine stepS rfl fun K hK => ?_
          go_simp
          exact hK _ _ { h with bel := below_alloc h.bel _, e24 := fun _ => ⟨_, rfl, h.bel.size, heap_at _ rfl⟩, e25 := fun d => (h.e25 d).on (below_alloc (Below.refl _ _) _) }
        · intro L s w2 h hk hd hn
          have z := h.e24 hd.1
          refine stepS rfl fun K hK => ?_
          go_simp
          exact hK _ _ { h with e25 := fun _ => z }
      · intro L s w2 h hk hl
        have z := h.e25 (hl 25 (by decide))
        rename_i J K' hR hM
        refine hM _ _ (Met.intro (hR _ _ ?_))
        refine ⟨s 2, s 5, s 6, s 7, s 8, s 9, s 10, s 11, s 12, s 13, s 14, s 15, s 16, s 17, s 18, s 19, s 20, s 21, s 22, s 23, s 24, s 25, s 26, s 27, s 28, s 29, s 30, s 31, s 32, s 33, s 34, s 35, ⟨z, h.bel⟩, ?_⟩
        refine congrArg (fun l => (⟨List.toArray l, []⟩ : Act)) ?_
        show [s 0, s 1, s 2, s 3, s 4, s 5, s 6, s 7, s 8, s 9, s 10, s 11, s 12, s 13, s 14, s 15, s 16, s 17, s 18, s 19, s 20, s 21, s 22, s 23, s 24, s 25, s 26, s 27, s 28, s 29, s 30, s 31, s 32, s 33, s 34, s 35] = _
        rw [hk 0 (by kernel_rfl), hk 1 (by kernel_rfl), hk 3 (by kernel_rfl), hk 4 (by kernel_rfl)]
        rfl
    case rest =>
      obtain ⟨⟨g, rfl, hg, hb⟩, hbel⟩ := hcut
      go_wp2_with fail
      go_ret
      exact ⟨⟨_, rfl, ⟨g, rfl, Nat.le_trans HBL2.out.size hg, hb⟩⟩, below_step HBL2.out hbel⟩
end Go.Proofs.YtjphhdfkkkdppaaDoor
