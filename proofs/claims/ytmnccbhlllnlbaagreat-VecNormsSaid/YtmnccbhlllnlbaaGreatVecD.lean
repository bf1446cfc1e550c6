/- Package vec: contracts of all, told, alike, turned; what a walk over package vec knows of its memory. Printed by wip/genVD.py. -/
import Derived.Deep.DeepCutAuto
import Derived.Deep.CutBlock
import Derived.Deep.QuietTactic
import Derived.BigQuiet
import Derived.Test.YtmnccbhlllnlbaaGreatVecC
import Derived.Test.YtmnccbhlllnlbaaGreatVecEq
namespace Mnc
open Go
def vfl (l : List V3) : List Value := l.flatMap fun a => flat (vl a)
theorem vfl_at : ∀ (l : List V3) (i j : Nat) (a : V3), l[i]? = some a → j < 6 → (vfl l)[i * 6 + j]? = (flat (vl a))[j]?
  | [], _, _, _, h, _ => by simp at h
  | x :: l, 0, j, a, h, hj => by
    have e : x = a := by simpa using h
    subst e
    rw [Nat.zero_mul, Nat.zero_add]
    show (flat (vl x) ++ vfl l)[j]? = _
    exact List.getElem?_append_left (by simpa [flat_len, vl] using hj)
  | x :: l, i + 1, j, a, h, hj => by
    show (flat (vl x) ++ vfl l)[(i + 1) * 6 + j]? = _
    rw [List.getElem?_append_right (by simp [flat_len, vl]; omega)]
    have := vfl_at l i j a (by simpa using h) hj
    rw [← this]
    congr 1
    simp [flat_len, vl]
    omega
/-- The error behind k vectors; behind j components of one more. -/
def eAt (l : List V3) (k : Nat) : Int := (l.take k).foldl vNote 0
def eIn (e : Int) (a : V3) (j : Nat) : Int := if j = 0 then e else if j = 1 then fst2 e (sChk a.1) else if j = 2 then fst2 (fst2 e (sChk a.1)) (sChk a.2.1) else vNote e a
theorem eAt_next {l : List V3} {k : Nat} {a : V3} (h : l[k]? = some a) : eAt l (k + 1) = vNote (eAt l k) a := by
  unfold eAt
  rw [List.take_add_one, h]
  simp
theorem eIn_next {e : Int} {a : V3} {j : Nat} {c : Int × Int} (hj : j < 3) (h : (vl a)[j]? = some c) : eIn e a (j + 1) = fst2 (eIn e a j) (sChk c) := by
  obtain rfl | rfl | rfl : j = 0 ∨ j = 1 ∨ j = 2 := by omega
  all_goals
    simp [vl] at h
    subst h
    rfl
theorem vNote_zero (e : Int) : vNote e v30 = e := by
  have : sChk (0, 0) = 0 := rfl
  unfold vNote v30
  simp only [this, fst2_self]
end Mnc
namespace Go.Proofs.YtmnccbhlllnlbaaGreat
open Go.RowKit Mnc
attribute [local go_sem] RunS_value RunS_skip RunS_enter evS_tmp evS_const evS_global evS_func

/-- What a function of package vec knows: all that lay there lies as it lay; the calculator's cell; blocks of its own. -/
structure Al (w W : World) (S : Nat) (e : Int) (bs : List (Nat × Obj)) : Prop where
  bel : Below w.heap.size w W
  ge : w.heap.size ≤ S
  st : W.heap[S]? = some (stp e)
  blk : ∀ p ∈ bs, p.1 ≠ S ∧ W.heap[p.1]? = some p.2
section
variable {w W W' : World} {S B k : Nat} {e e' : Int} {bs cs : List (Nat × Obj)} {l : List (Int × Int)} {c : Int × Int}
theorem Al.on (h : Al w W S e bs) (k : Below W.heap.size W W') : Al w W' S e bs :=
  ⟨below_step h.bel k, h.ge, (k.block S (lt_of_block h.st)).trans h.st, fun p hp => ⟨(h.blk p hp).1, (k.block _ (lt_of_block (h.blk p hp).2)).trans (h.blk p hp).2⟩⟩
theorem Al.next (h : Al w W S e bs) (k : Mv W W' S e') : Al w W' S e' bs :=
  ⟨h.bel.trans (k.bel.mono h.ge), h.ge, k.st, fun p hp => ⟨(h.blk p hp).1, (k.oth _ (lt_of_block (h.blk p hp).2) (h.blk p hp).1).trans (h.blk p hp).2⟩⟩
theorem Al.al (h : Al w W S e bs) (o : Obj) : Al w (W.alloc o) S e ((W.heap.size, o) :: bs) := by
  have k := h.on (below_alloc (Below.refl W.heap.size W) o)
  refine ⟨k.bel, k.ge, k.st, fun p hp => ?_⟩
  rcases List.mem_cons.1 hp with rfl | hp
  · exact ⟨Nat.ne_of_gt (lt_of_block h.st), heap_at _ rfl⟩
  · exact k.blk p hp
theorem Al.alN (h : Al w W S e bs) (o : Obj) {n : Nat} (hn : W.heap.size = n) : Al w (W.alloc o) S e ((n, o) :: bs) := hn ▸ h.al o
theorem Al.sub (h : Al w W S e bs) (k : ∀ p ∈ cs, p ∈ bs) : Al w W S e cs := ⟨h.bel, h.ge, h.st, fun p hp => h.blk p (k p hp)⟩
/-- A component of a vector's box is written. -/
theorem Al.setl (h : Al w W S e ((B, vobj l) :: bs)) (hB : w.heap.size ≤ B) (hb : ∀ p ∈ bs, p.1 ≠ B) (hc : l[k]? = some c) (z : Int × Int) :
    Al w ((W.setCell ⟨B, k * 2, none⟩ (.int .i64 z.1)).setCell ⟨B, k * 2 + 1, none⟩ (.int .i64 z.2)) S e ((B, vobj (l.set k z)) :: bs) := by
  obtain ⟨hne, h0⟩ := h.blk _ (List.mem_cons_self ..)
  have hs : B ≠ S := hne
  have oth : ∀ j, j ≠ B → ((W.setCell ⟨B, k * 2, none⟩ (.int .i64 z.1)).setCell ⟨B, k * 2 + 1, none⟩ (.int .i64 z.2)).heap[j]? = W.heap[j]? := fun j hj => by
    rw [heap_setCell_other _ _ _ _ (by simpa using hj), heap_setCell_other _ _ _ _ (by simpa using hj)]
  refine ⟨(h.bel.setCell hB _).setCell hB _, h.ge, (oth S (Ne.symm hs)).trans h.st, fun p hp => ?_⟩
  rcases List.mem_cons.1 hp with rfl | hp
  · refine ⟨hne, ?_⟩
    simp only
    unfold vobj at h0
    rw [heap_setCell_same _ _ _ _ _ _ (heap_setCell_same _ _ _ _ _ _ h0)]
    unfold vobj
    rw [← flat_setv l k c z hc]
    simp
  · have := h.blk p (List.mem_cons_of_mem _ hp)
    exact ⟨this.1, (oth _ (hb p hp)).trans this.2⟩
/-- A vector's box is written whole. -/
theorem Al.set6 {a : V3} (h : Al w W S e ((B, vobj (vl a)) :: bs)) (hB : w.heap.size ≤ B) (hb : ∀ p ∈ bs, p.1 ≠ B) (z : V3) :
    Al w ((((((W.setCell ⟨B, 0, none⟩ (.int .i64 z.1.1)).setCell ⟨B, 1, none⟩ (.int .i64 z.1.2)).setCell ⟨B, 2, none⟩ (.int .i64 z.2.1.1)).setCell ⟨B, 3, none⟩ (.int .i64 z.2.1.2)).setCell ⟨B, 4, none⟩ (.int .i64 z.2.2.1)).setCell ⟨B, 5, none⟩ (.int .i64 z.2.2.2)) S e ((B, vobj (vl z)) :: bs) :=
  ((h.setl (k := 0) hB hb rfl z.1).setl (k := 1) hB hb rfl z.2.1).setl (k := 2) hB hb rfl z.2.2
/-- A box of two cells is written. -/
theorem Al.st2 {x y : Value} {t : TypeId} (h : Al w W S e ((B, .cells #[x, y] t (0, 0)) :: bs)) (hB : w.heap.size ≤ B) (hb : ∀ p ∈ bs, p.1 ≠ B) (u v : Value) :
    Al w ((W.setCell ⟨B, 0, none⟩ u).setCell ⟨B, 1, none⟩ v) S e ((B, .cells #[u, v] t (0, 0)) :: bs) := by
  obtain ⟨hne, h0⟩ := h.blk _ (List.mem_cons_self ..)
  have hs : B ≠ S := hne
  have oth : ∀ j, j ≠ B → ((W.setCell ⟨B, 0, none⟩ u).setCell ⟨B, 1, none⟩ v).heap[j]? = W.heap[j]? := fun j hj => by
    rw [heap_setCell_other _ _ _ _ (by simpa using hj), heap_setCell_other _ _ _ _ (by simpa using hj)]
  refine ⟨(h.bel.setCell hB _).setCell hB _, h.ge, (oth S (Ne.symm hs)).trans h.st, fun p hp => ?_⟩
  rcases List.mem_cons.1 hp with rfl | hp
  · refine ⟨hne, ?_⟩
    simp only
    rw [heap_setCell_same _ _ _ _ _ _ (heap_setCell_same _ _ _ _ _ _ h0)]
    rfl
  · have := h.blk p (List.mem_cons_of_mem _ hp)
    exact ⟨this.1, (oth _ (hb p hp)).trans this.2⟩
end
theorem pickV_0 (x0 x1 x2 x3 x4 x5 : Value) (w : World) : (Instr.index 25 (.agg #[x0, x1, x2, x3, x4, x5]) (.int .i64 0)).run Tryz.prog w = .ok (.agg #[x0, x1]) w := by kernel_rfl
theorem pickV_1 (x0 x1 x2 x3 x4 x5 : Value) (w : World) : (Instr.index 25 (.agg #[x0, x1, x2, x3, x4, x5]) (.int .i64 1)).run Tryz.prog w = .ok (.agg #[x2, x3]) w := by kernel_rfl
theorem pickV_2 (x0 x1 x2 x3 x4 x5 : Value) (w : World) : (Instr.index 25 (.agg #[x0, x1, x2, x3, x4, x5]) (.int .i64 2)).run Tryz.prog w = .ok (.agg #[x4, x5]) w := by kernel_rfl
theorem pickV {a : V3} {j : Nat} {c : Int × Int} (hj : j < 3) (h : (vl a)[j]? = some c) (w : World) : (Instr.index 25 (.agg #[.int .i64 a.1.1, .int .i64 a.1.2, .int .i64 a.2.1.1, .int .i64 a.2.1.2, .int .i64 a.2.2.1, .int .i64 a.2.2.2]) (.int .i64 (j : Int))).run Tryz.prog w = .ok (.agg #[.int .i64 c.1, .int .i64 c.2]) w := by
  obtain rfl | rfl | rfl : j = 0 ∨ j = 1 ∨ j = 2 := by omega
  all_goals
    simp [vl] at h
    subst h
  · exact pickV_0 _ _ _ _ _ _ _
  · exact pickV_1 _ _ _ _ _ _ _
  · exact pickV_2 _ _ _ _ _ _ _
theorem vfl_cells {W : World} {g i : Nat} {l : List V3} {a : V3} (h : W.heap[g]? = some (.cells (vfl l).toArray 25 (0, 0))) (ha : l[i]? = some a) :
    W.cell? ⟨g, i * 6, none⟩ = some (.int .i64 a.1.1) ∧ W.cell? ⟨g, i * 6 + 1, none⟩ = some (.int .i64 a.1.2) ∧ W.cell? ⟨g, i * 6 + 2, none⟩ = some (.int .i64 a.2.1.1) ∧ W.cell? ⟨g, i * 6 + 3, none⟩ = some (.int .i64 a.2.1.2) ∧ W.cell? ⟨g, i * 6 + 4, none⟩ = some (.int .i64 a.2.2.1) ∧ W.cell? ⟨g, i * 6 + 5, none⟩ = some (.int .i64 a.2.2.2) := by
  have k : ∀ j v, j < 6 → (flat (vl a))[j]? = some v → W.cell? ⟨g, i * 6 + j, none⟩ = some v := fun j v hj hv => by
    rw [cell_of_row W g _ _ _ _ h]
    have := vfl_at l i j a ha hj
    simpa [this] using hv
  exact ⟨k 0 _ (by omega) rfl, k 1 _ (by omega) rfl, k 2 _ (by omega) rfl, k 3 _ (by omega) rfl, k 4 _ (by omega) rfl, k 5 _ (by omega) rfl⟩
theorem told_oth2 {W : World} {B k : Nat} (h : k ≠ B) (_ : Unit) : ((W.setCell ⟨B, 0, none⟩ (.int .i64 0)).setCell ⟨B, 1, none⟩ (.int .i64 0)).heap[k]? = W.heap[k]? := by
  rw [heap_setCell_other _ _ _ _ (by simpa using h), heap_setCell_other _ _ _ _ (by simpa using h)]
theorem told_same2 {W : World} {B : Nat} (h : W.heap[B]? = some (.cells #[.int .i64 0, .int .i64 0] 23 (0, 0))) : ((W.setCell ⟨B, 0, none⟩ (.int .i64 0)).setCell ⟨B, 1, none⟩ (.int .i64 0)).heap[B]? = some (.cells #[.int .i64 0, .int .i64 0] 23 (0, 0)) := by
  rw [heap_setCell_same _ _ _ _ _ _ (heap_setCell_same _ _ _ _ _ _ h)]
  rfl
theorem told_oth6 {W : World} {B k : Nat} (h : k ≠ B) (_ : Unit) : ((((((W.setCell ⟨B, 0, none⟩ (.int .i64 0)).setCell ⟨B, 1, none⟩ (.int .i64 0)).setCell ⟨B, 2, none⟩ (.int .i64 0)).setCell ⟨B, 3, none⟩ (.int .i64 0)).setCell ⟨B, 4, none⟩ (.int .i64 0)).setCell ⟨B, 5, none⟩ (.int .i64 0)).heap[k]? = W.heap[k]? := by
  rw [heap_setCell_other _ _ _ _ (by simpa using h), heap_setCell_other _ _ _ _ (by simpa using h), heap_setCell_other _ _ _ _ (by simpa using h), heap_setCell_other _ _ _ _ (by simpa using h), heap_setCell_other _ _ _ _ (by simpa using h), heap_setCell_other _ _ _ _ (by simpa using h)]
theorem told_same6 {W : World} {B : Nat} (h : W.heap[B]? = some (vobj (vl v30))) : ((((((W.setCell ⟨B, 0, none⟩ (.int .i64 0)).setCell ⟨B, 1, none⟩ (.int .i64 0)).setCell ⟨B, 2, none⟩ (.int .i64 0)).setCell ⟨B, 3, none⟩ (.int .i64 0)).setCell ⟨B, 4, none⟩ (.int .i64 0)).setCell ⟨B, 5, none⟩ (.int .i64 0)).heap[B]? = some (vobj (vl v30)) := by
  unfold vobj at h ⊢
  rw [heap_setCell_same _ _ _ _ _ _ (heap_setCell_same _ _ _ _ _ _ (heap_setCell_same _ _ _ _ _ _ (heap_setCell_same _ _ _ _ _ _ (heap_setCell_same _ _ _ _ _ _ (heap_setCell_same _ _ _ _ _ _ h)))))]
  rfl
structure Aq (W0 : World) (S K7 : Nat) (E : Int) (c : Int × Int) (L : Nat → Bool) (s : Nat → Value) (w : World) : Prop where
  st : L 4 = false → Al W0 w S E [(K7, .cells #[.int .i64 c.1, .int .i64 c.2] 23 (0, 0))]
  st4 : L 4 = true → Al W0 w S (fst2 E (sChk c)) []
  d1 : L 4 = true → L 1 = true
  d2 : L 4 = true → L 2 = true
  b3 : L 3 = true → L 2 = true
  e0 : L 0 = true → s 23 = .pointer (some ⟨S, 0, none⟩)
  e1 : L 1 = true → s 24 = .agg #[.int .i64 c.1, .int .i64 c.2]
  e2 : L 2 = true → s 25 = .agg #[.int .i64 c.1, .int .i64 c.2]
  e3 : L 3 = true → s 26 = .int .i64 (sChk c)
structure TqV (w0 : World) (S K4 K6 : Nat) (e : Int) (L : Nat → Bool) (s : Nat → Value) (w : World) : Prop where
  bel : Below w0.heap.size w0 w
  gs : w.heap[S]? = some (stp e)
  g4 : w.heap[K4]? = some (vobj (vl v30))
  g6 : w.heap[K6]? = some (vobj (vl v30))
  e0 : L 0 = true → s 12 = .agg #[.int .i64 0, .int .i64 0, .int .i64 0, .int .i64 0, .int .i64 0, .int .i64 0]
  e1 : L 1 = true → s 13 = .pointer (some ⟨S, 0, none⟩)
  e2 : L 2 = true → s 14 = .pointer (some ⟨S, 0, none⟩)
  e3 : L 3 = true → s 15 = .pointer (some ⟨S, 0, none⟩)
  e4 : L 4 = true → s 16 = .int .i64 e
  e6 : L 6 = true → s 5 = .int .i64 e
structure TqS (w0 : World) (S K4 K6 : Nat) (e : Int) (L : Nat → Bool) (s : Nat → Value) (w : World) : Prop where
  bel : Below w0.heap.size w0 w
  gs : w.heap[S]? = some (stp e)
  g4 : w.heap[K4]? = some (.cells #[.int .i64 0, .int .i64 0] 23 (0, 0))
  g6 : w.heap[K6]? = some (.cells #[.int .i64 0, .int .i64 0] 23 (0, 0))
  e0 : L 0 = true → s 12 = .agg #[.int .i64 0, .int .i64 0]
  e1 : L 1 = true → s 13 = .pointer (some ⟨S, 0, none⟩)
  e2 : L 2 = true → s 14 = .pointer (some ⟨S, 0, none⟩)
  e3 : L 3 = true → s 15 = .pointer (some ⟨S, 0, none⟩)
  e4 : L 4 = true → s 16 = .int .i64 e
  e6 : L 6 = true → s 5 = .int .i64 e

set_option maxRecDepth 100000 in
set_option maxHeartbeats 4000000 in
theorem vec_all (l : List V3) (n g : Nat) (w : World) (hn : l.length = n) (hn2 : n ≤ 2) (h : w.heap[g]? = some (.cells (vfl l).toArray 25 (0, 0))) :
    Calls Tryz.prog 35 #[.slice (some ⟨g, 0, none⟩) n n] w fun r w' => ∃ S, r = .returned (.pointer (some ⟨S, 0, none⟩)) ∧ Al w w' S (eAt l n) [] := by
  have HG := Lib.hid h
  have HN := Lib.hid hn
  have HA0 : Hid (Al w (w.alloc (.cells #[.int .i64 0] 69)) w.heap.size (eAt l 0) []) := Lib.hid ⟨below_alloc (Below.refl _ _) _, Nat.le_refl _, heap_at _ rfl, fun p hp => by simp at hp⟩
  clear h hn
  go_enter Tryz.func35, Tryz.ntmps35
  go_wp2_with fail
  obtain ⟨S, hS⟩ : ∃ S, S = w.heap.size := ⟨_, rfl⟩
  rw [← hS] at HA0
  rw [← hS]
  clear hS
  --M0
  go_loopw [12] (fun i wr => ∃ k : Nat, k ≤ n ∧ i = .int .i64 k ∧ Hid (Al w wr S (eAt l k) [])) (fun i _ => n - (intOf i).toNat)
  case atStart => exact ⟨0, by omega, rfl, HA0⟩
  case round =>
    clear HA0
    obtain ⟨k, hk, rfl, HA⟩ := hrel
    rcases Nat.lt_or_ge k n with hk' | hk'
    · obtain ⟨a, ha⟩ : ∃ a, l[k]? = some a := ⟨_, List.getElem?_eq_getElem (by rw [HN.out]; exact hk')⟩
      obtain ⟨c0, c1, c2, c3, c4, c5⟩ := vfl_cells ((HA.out.bel.block _ (lt_of_block HG.out)).trans HG.out) ha
      have HE := Lib.hid (eAt_next ha)
      have HM := Lib.hid ((HA.out.al (.cells #[.int .i64 a.1.1, .int .i64 a.1.2, .int .i64 a.2.1.1, .int .i64 a.2.1.2, .int .i64 a.2.2.1, .int .i64 a.2.2.2] 25 (0, 0))).sub (cs := []) (by simp))
      have hk0 : (0 : Int) ≤ (k : Int) := by omega
      have hk1 : (k : Int) < (n : Int) := by omega
      clear ha
      go_upto_region 5 with (fail)
      clear c0 c1 c2 c3 c4 c5
      by_cases hz : a = v30
      · have hq : ∀ W, (Op.equalIn 10000 25 (.agg #[.int .i64 a.1.1, .int .i64 a.1.2, .int .i64 a.2.1.1, .int .i64 a.2.1.2, .int .i64 a.2.2.1, .int .i64 a.2.2.2]) (.agg #[.int .i64 0, .int .i64 0, .int .i64 0, .int .i64 0, .int .i64 0, .int .i64 0])).run Tryz.prog W = .ok true W := fun W => (eqlV a v30 W).trans (by rw [decide_eq_true hz])
        have HZ : Hid (Al w (wr.alloc (.cells #[.int .i64 a.1.1, .int .i64 a.1.2, .int .i64 a.2.1.1, .int .i64 a.2.1.2, .int .i64 a.2.2.1, .int .i64 a.2.2.2] 25 (0, 0))) S (eAt l (k + 1)) []) := Lib.hid (by rw [HE.out, hz, vNote_zero]; rw [hz] at HM; exact HM.out)
        clear hz HE HM HA
        go_wp2_with fail
        go_roundw
        case rel => exact ⟨k + 1, by omega, by go_num, HZ⟩
        case measure => simp [intOf]; omega
      · have hq : ∀ W, (Op.equalIn 10000 25 (.agg #[.int .i64 a.1.1, .int .i64 a.1.2, .int .i64 a.2.1.1, .int .i64 a.2.1.2, .int .i64 a.2.2.1, .int .i64 a.2.2.2]) (.agg #[.int .i64 0, .int .i64 0, .int .i64 0, .int .i64 0, .int .i64 0, .int .i64 0])).run Tryz.prog W = .ok false W := fun W => (eqlV a v30 W).trans (by rw [decide_eq_false hz])
        have HI0 : Hid (Al w (wr.alloc (.cells #[.int .i64 a.1.1, .int .i64 a.1.2, .int .i64 a.2.1.1, .int .i64 a.2.1.2, .int .i64 a.2.2.1, .int .i64 a.2.2.2] 25 (0, 0))) S (eIn (eAt l k) a 0) []) := HM
        clear hz HM HA
        go_wp2_with fail
        clear hq
        generalize wr.alloc (.cells #[.int .i64 a.1.1, .int .i64 a.1.2, .int .i64 a.2.1.1, .int .i64 a.2.1.2, .int .i64 a.2.2.1, .int .i64 a.2.2.2] 25 (0, 0)) = W5 at *
        --M1
        go_loopw [20] (fun i wr => ∃ j : Nat, j ≤ 3 ∧ i = .int .i64 j ∧ Hid (Al w wr S (eIn (eAt l k) a j) [])) (fun i _ => 3 - (intOf i).toNat)
        case atStart => exact ⟨0, by omega, rfl, HI0⟩
        case round =>
          clear HI0
          obtain ⟨j, hj, rfl, HB⟩ := hrel
          rcases Nat.lt_or_ge j 3 with hj' | hj'
          · obtain ⟨c, hc⟩ := vl_at a hj'
            have HJ := Lib.hid (eIn_next (e := eAt l k) hj' hc)
            have hi := fun W => pickV hj' hc W
            clear hc
            have HS := Lib.hid (HB.out.al (.cells #[.int .i64 c.1, .int .i64 c.2] 23 (0, 0)))
            generalize eIn (eAt l k) a j = E at *
            go_upto_block 3 with (fail)
            --M2
            go_cut [] (fun wx => Hid (Al w wx S (fst2 E (sChk c)) []))
            case first =>
              go_upto_region 9 with (fail)
              --M3
              clear hi
              refine wp_region_inv (Aq w S wr.heap.size E c) (by kernel_rfl) (by kernel_rfl) ?_ ?_ ?_
              · exact ⟨fun _ => HS.out.on (Below.refl _ _).drew, fun h => absurd h Bool.false_ne_true, fun h => absurd h Bool.false_ne_true, fun h => absurd h Bool.false_ne_true, fun h => absurd h Bool.false_ne_true, fun h => absurd h Bool.false_ne_true, fun h => absurd h Bool.false_ne_true, fun h => absurd h Bool.false_ne_true, fun h => absurd h Bool.false_ne_true⟩
              · refine AllS.consN 1 (some 23) rfl rfl ?_ (AllS.consN 2 (some 24) rfl rfl ?_ (AllS.consN 3 (some 25) rfl rfl ?_ (AllS.consN 4 (some 26) rfl rfl ?_ (AllS.consN 5 (some 27) rfl rfl ?_ AllS.nil))))
                · intro L s w2 h hk hd hn
                  have s3 : s 3 = _ := hk 3 (by kernel_rfl)
                  refine stepS rfl fun K hK => ?_
                  go_simp
                  exact hK _ _ { h with e0 := fun _ => rfl }
                · intro L s w2 h hk hd hn
                  have s7 : s 7 = _ := hk 7 (by kernel_rfl)
                  have h4 : L 4 = false := (Bool.eq_false_or_eq_true (L 4)).elim (fun e => absurd (h.d1 e) (by rw [hn]; exact Bool.false_ne_true)) id
                  have b := ((h.st h4).blk _ (List.mem_cons_self ..)).2
                  have c0 := cell_two0 b
                  have c1 := cell_two1 b
                  refine stepS rfl fun K hK => ?_
                  go_simp
                  exact hK _ _ { h with e1 := fun _ => rfl, d1 := fun _ => rfl }
                · intro L s w2 h hk hd hn
                  have s7 : s 7 = _ := hk 7 (by kernel_rfl)
                  have h4 : L 4 = false := (Bool.eq_false_or_eq_true (L 4)).elim (fun e => absurd (h.d2 e) (by rw [hn]; exact Bool.false_ne_true)) id
                  have b := ((h.st h4).blk _ (List.mem_cons_self ..)).2
                  have c0 := cell_two0 b
                  have c1 := cell_two1 b
                  refine stepS rfl fun K hK => ?_
                  go_simp
                  exact hK _ _ { h with e2 := fun _ => rfl, d2 := fun _ => rfl, b3 := fun _ => rfl }
                · intro L s w2 h hk hd hn
                  have s25 := h.e2 hd.1
                  refine stepS rfl fun K hK => ?_
                  go_simp
                  refine (span_Check c _).mono ?_
                  rintro e w3 ⟨rfl, hb⟩
                  exact ⟨_, rfl, hK _ _ { h with b3 := fun _ => hd.1, st := fun a => (h.st a).on hb, st4 := fun a => (h.st4 a).on hb, e3 := fun _ => rfl }⟩
                · intro L s w2 h hk hd hn
                  have s23 := h.e0 hd.1
                  have s24 := h.e1 hd.2.1
                  have s26 := h.e3 hd.2.2.1
                  refine stepS rfl fun K hK => ?_
                  go_simp
                  refine (vec_take S E (sChk c) c _ (h.st hn).st).mono ?_
                  rintro e w3 ⟨rfl, hm⟩
                  exact ⟨_, rfl, hK _ _ { h with st := fun a => absurd a.symm Bool.false_ne_true, st4 := fun _ => ((h.st hn).next hm).sub (by simp), d1 := fun _ => hd.2.1, d2 := fun _ => h.b3 hd.2.2.1 }⟩
              · intro L s w2 h hk hl
                rename_i J K' hR hM
                refine hM _ _ (Met.intro (hR _ _ ?_))
                repeat apply Exists.intro
                refine ⟨Lib.hid (h.st4 (hl 4 (by decide))), ?_⟩
                refine congrArg (fun l => (⟨List.toArray l, []⟩ : Act)) ?_
                show [s 0, s 1, s 2, s 3, s 4, s 5, s 6, s 7, s 8, s 9, s 10, s 11, s 12, s 13, s 14, s 15, s 16, s 17, s 18, s 19, s 20, s 21, s 22, s 23, s 24, s 25, s 26, s 27, s 28, s 29, s 30] = _
                exact lc (hk 0 (by kernel_rfl)) (lc (hk 1 (by kernel_rfl)) (lc (hk 2 (by kernel_rfl)) (lc (hk 3 (by kernel_rfl)) (lc (hk 4 (by kernel_rfl)) (lc (hk 5 (by kernel_rfl)) (lc (hk 6 (by kernel_rfl)) (lc rfl (lc (hk 8 (by kernel_rfl)) (lc (hk 9 (by kernel_rfl)) (lc (hk 10 (by kernel_rfl)) (lc (hk 11 (by kernel_rfl)) (lc (hk 12 (by kernel_rfl)) (lc (hk 13 (by kernel_rfl)) (lc (hk 14 (by kernel_rfl)) (lc (hk 15 (by kernel_rfl)) (lc (hk 16 (by kernel_rfl)) (lc (hk 17 (by kernel_rfl)) (lc (hk 18 (by kernel_rfl)) (lc (hk 19 (by kernel_rfl)) (lc (hk 20 (by kernel_rfl)) (lc (hk 21 (by kernel_rfl)) (lc rfl (lc rfl (lc rfl (lc rfl (lc rfl (lc rfl (lc (hk 28 (by kernel_rfl)) (lc (hk 29 (by kernel_rfl)) (lc (hk 30 (by kernel_rfl)) rfl))))))))))))))))))))))))))))))

            case rest =>
              have HC := hcut
              clear hi HS HB
              go_wp2_with fail
              go_roundw
              case rel => exact ⟨j + 1, by omega, by go_num, Lib.hid (by rw [HJ.out]; exact HC.out)⟩
              case measure => simp [intOf]; omega
          · obtain rfl : j = 3 := by omega
            have HF : Hid (Al w _ S (eAt l (k + 1)) []) := Lib.hid (by rw [HE.out]; exact HB.out)
            clear HB HE
            go_wp2_with fail
            go_roundw
            case rel => exact ⟨k + 1, by omega, by go_num, HF⟩
            case measure => simp [intOf]; omega
    · obtain rfl : k = n := by omega
      go_wp2_with fail
      go_ret
      exact ⟨S, rfl, HA.out⟩

set_option maxHeartbeats 2000000 in
theorem vec_alike (s : Int × Int) (w : World) :
    Calls Tryz.prog 46 #[.agg #[.int .i64 s.1, .int .i64 s.2]] w fun r w' => r = .returned (alikeV s).val ∧ Below w.heap.size w w' := by
  go_enter Tryz.func46, Tryz.ntmps46
  go_wp2_with fail
  exact bodyPost_ret (v := (alikeV s).val) (by simp [results, Tryz.results46, go_sem, V3.val, alikeV]) rfl ⟨rfl, below_alloc (below_alloc (Below.refl _ _) _) _⟩
set_option maxHeartbeats 2000000 in
theorem vec_turned (a : V3) (w : World) :
    Calls Tryz.prog 53 #[.agg #[.int .i64 a.1.1, .int .i64 a.1.2, .int .i64 a.2.1.1, .int .i64 a.2.1.2, .int .i64 a.2.2.1, .int .i64 a.2.2.2]] w fun r w' => r = .returned (turnV a).val ∧ Below w.heap.size w w' := by
  go_enter Tryz.func53, Tryz.ntmps53
  go_wp2_with fail
  exact bodyPost_ret (v := (turnV a).val) (by simp [results, Tryz.results53, go_sem, V3.val, turnV]) rfl ⟨rfl, below_alloc (below_alloc (Below.refl _ _) _) _⟩
set_option maxHeartbeats 2000000 in
theorem vec_toldV (S : Nat) (e : Int) (a : V3) (w : World) (h : w.heap[S]? = some (stp e)) :
    Calls Tryz.prog 36 #[.pointer (some ⟨S, 0, none⟩), .agg #[.int .i64 a.1.1, .int .i64 a.1.2, .int .i64 a.2.1.1, .int .i64 a.2.1.2, .int .i64 a.2.2.1, .int .i64 a.2.2.2]] w fun r w' => r = .returned (.tuple #[(toldV a e).1.val, .int .i64 (toldV a e).2]) ∧ Below w.heap.size w w' := by
  have c0 := cell_of_one h
  have hl := lt_of_block h
  have HS := Lib.hid h
  clear h
  by_cases he : e = 0
  · have hz : (e != 0) = false := by simp [he]
    have HR : Hid (toldV a e = (a, 0)) := Lib.hid (if_pos he)
    clear he
    go_enter Tryz.func36, Tryz.ntmps36
    go_wp2_with fail
    exact bodyPost_ret (v := .tuple #[a.val, .int .i64 0]) (by simp [results, Tryz.results36, go_sem, V3.val]) rfl ⟨by rw [HR.out], below_alloc (below_alloc (Below.refl _ _) _) _⟩
  · have hz : (e != 0) = true := by simp [he]
    have HR : Hid (toldV a e = (v30, e)) := Lib.hid (if_neg he)
    clear he
    have G1 : Hid ((((w.alloc (.cells #[.int .i64 a.1.1, .int .i64 a.1.2, .int .i64 a.2.1.1, .int .i64 a.2.1.2, .int .i64 a.2.2.1, .int .i64 a.2.2.2] 25 (0, 0))).alloc (.cells #[.int .i64 0, .int .i64 0, .int .i64 0, .int .i64 0, .int .i64 0, .int .i64 0] 25 (0, 0))).alloc (.cells #[.int .i64 0, .int .i64 0, .int .i64 0, .int .i64 0, .int .i64 0, .int .i64 0] 25 (0, 0))).heap[S]? = some (stp e)) := Lib.hid (heap_up _ (heap_up _ (heap_up _ HS.out)))
    have G4 : Hid ((((w.alloc (.cells #[.int .i64 a.1.1, .int .i64 a.1.2, .int .i64 a.2.1.1, .int .i64 a.2.1.2, .int .i64 a.2.2.1, .int .i64 a.2.2.2] 25 (0, 0))).alloc (.cells #[.int .i64 0, .int .i64 0, .int .i64 0, .int .i64 0, .int .i64 0, .int .i64 0] 25 (0, 0))).alloc (.cells #[.int .i64 0, .int .i64 0, .int .i64 0, .int .i64 0, .int .i64 0, .int .i64 0] 25 (0, 0))).heap[w.heap.size + 1]? = some (vobj (vl v30))) := Lib.hid (heap_up _ (heap_at _ (by simp)))
    have G6 : Hid ((((w.alloc (.cells #[.int .i64 a.1.1, .int .i64 a.1.2, .int .i64 a.2.1.1, .int .i64 a.2.1.2, .int .i64 a.2.2.1, .int .i64 a.2.2.2] 25 (0, 0))).alloc (.cells #[.int .i64 0, .int .i64 0, .int .i64 0, .int .i64 0, .int .i64 0, .int .i64 0] 25 (0, 0))).alloc (.cells #[.int .i64 0, .int .i64 0, .int .i64 0, .int .i64 0, .int .i64 0, .int .i64 0] 25 (0, 0))).heap[w.heap.size + 1 + 1]? = some (vobj (vl v30))) := Lib.hid (heap_at _ (by simp))
    have HB1 : Hid (Below w.heap.size w (((w.alloc (.cells #[.int .i64 a.1.1, .int .i64 a.1.2, .int .i64 a.2.1.1, .int .i64 a.2.1.2, .int .i64 a.2.2.1, .int .i64 a.2.2.2] 25 (0, 0))).alloc (.cells #[.int .i64 0, .int .i64 0, .int .i64 0, .int .i64 0, .int .i64 0, .int .i64 0] 25 (0, 0))).alloc (.cells #[.int .i64 0, .int .i64 0, .int .i64 0, .int .i64 0, .int .i64 0, .int .i64 0] 25 (0, 0)))) := Lib.hid (below_alloc (below_alloc (below_alloc (Below.refl _ _) _) _) _)
    have HS4 : Hid (S ≠ w.heap.size + 1) := Lib.hid (by have := lt_of_block HS.out; omega)
    have H64 : Hid (w.heap.size + 1 + 1 ≠ w.heap.size + 1) := Lib.hid (by omega)
    have HB4 : Hid (w.heap.size ≤ w.heap.size + 1) := Lib.hid (by omega)
    go_enter Tryz.func36, Tryz.ntmps36
    go_upto_region 3 with (fail)
    clear c0
    generalize ((w.alloc (.cells #[.int .i64 a.1.1, .int .i64 a.1.2, .int .i64 a.2.1.1, .int .i64 a.2.1.2, .int .i64 a.2.2.1, .int .i64 a.2.2.2] 25 (0, 0))).alloc (.cells #[.int .i64 0, .int .i64 0, .int .i64 0, .int .i64 0, .int .i64 0, .int .i64 0] 25 (0, 0))).alloc (.cells #[.int .i64 0, .int .i64 0, .int .i64 0, .int .i64 0, .int .i64 0, .int .i64 0] 25 (0, 0)) = W1 at *
    go_cut [4, 5] (fun p v wx => p = .pointer (some ⟨w.heap.size + 1, 0, none⟩) ∧ v = .int .i64 e ∧ Hid (Below w.heap.size w wx ∧ wx.heap[w.heap.size + 1]? = some (vobj (vl v30))))
    case first =>
      refine wp_region_inv (TqV w S (w.heap.size + 1) (w.heap.size + 1 + 1) e) (by kernel_rfl) (by kernel_rfl) ?_ ?_ ?_
      · exact ⟨HB1.out.drew, G1.out, G4.out, G6.out, fun h => absurd h Bool.false_ne_true, fun h => absurd h Bool.false_ne_true, fun h => absurd h Bool.false_ne_true, fun h => absurd h Bool.false_ne_true, fun h => absurd h Bool.false_ne_true, fun h => absurd h Bool.false_ne_true⟩
      · refine AllS.consN 1 (some 12) rfl rfl ?_ (AllS.consN 2 (some 13) rfl rfl ?_ (AllS.consN 3 (some 14) rfl rfl ?_ (AllS.consN 4 (some 15) rfl rfl ?_ (AllS.consN 5 (some 16) rfl rfl ?_ (AllS.consN 6 none rfl rfl ?_ (AllS.consN 7 (some 5) rfl rfl ?_ AllS.nil))))))
        · intro L s w2 h hk hd hn
          have s6 : s 6 = _ := hk 6 (by kernel_rfl)
          have b := h.g6
          obtain ⟨c0, c1, c2, c3, c4, c5⟩ := vobj_six b
          refine stepS rfl fun K hK => ?_
          go_simp
          exact hK _ _ { h with e0 := fun _ => rfl }
        · intro L s w2 h hk hd hn
          have s0 : s 0 = _ := hk 0 (by kernel_rfl)
          refine stepS rfl fun K hK => ?_
          go_simp
          exact hK _ _ { h with e1 := fun _ => rfl }
        · intro L s w2 h hk hd hn
          have s13 := h.e1 hd.1
          have lS := lt_of_block h.gs
          refine stepS rfl fun K hK => ?_
          go_simp
          exact hK _ _ { h with e2 := fun _ => rfl }
        · intro L s w2 h hk hd hn
          have s14 := h.e2 hd.1
          refine stepS rfl fun K hK => ?_
          go_simp
          exact hK _ _ { h with e3 := fun _ => rfl }
        · intro L s w2 h hk hd hn
          have s15 := h.e3 hd.1
          have c0 := cell_of_one h.gs
          refine stepS rfl fun K hK => ?_
          go_simp
          exact hK _ _ { h with e4 := fun _ => rfl }
        · intro L s w2 h hk hd hn
          have s12 := h.e0 hd.1
          have s4 : s 4 = _ := hk 4 (by kernel_rfl)
          have b := h.g4
          obtain ⟨c0, c1, c2, c3, c4, c5⟩ := vobj_six b
          have f0 := vobj_free b 0
          have f1 := vobj_free b 1
          have f2 := vobj_free b 2
          have f3 := vobj_free b 3
          have f4 := vobj_free b 4
          have f5 := vobj_free b 5
          have lb := lt_of_block b
          refine stepS rfl fun K hK => ?_
          go_simp
          exact hK _ _ { h with bel := ((((((h.bel.setCell HB4.out _).setCell HB4.out _).setCell HB4.out _).setCell HB4.out _).setCell HB4.out _).setCell HB4.out _), gs := (told_oth6 HS4.out ()).trans h.gs, g4 := told_same6 h.g4, g6 := (told_oth6 H64.out ()).trans h.g6 }
        · intro L s w2 h hk hd hn
          have s16 := h.e4 hd.1
          refine stepS rfl fun K hK => ?_
          go_simp
          exact hK _ _ { h with e6 := fun _ => rfl }
      · intro L s w2 h hk hl
        rename_i J K' hR hM
        refine hM _ _ (Met.intro (hR _ _ ?_))
        repeat apply Exists.intro
        refine ⟨⟨hk 4 (by kernel_rfl), h.e6 (hl 6 (by decide)), Lib.hid ⟨h.bel, h.g4⟩⟩, ?_⟩
        refine congrArg (fun l => (⟨List.toArray l, []⟩ : Act)) ?_
        show [s 0, s 1, s 2, s 3, s 4, s 5, s 6, s 7, s 8, s 9, s 10, s 11, s 12, s 13, s 14, s 15, s 16, s 17] = _
        exact lc (hk 0 (by kernel_rfl)) (lc (hk 1 (by kernel_rfl)) (lc (hk 2 (by kernel_rfl)) (lc (hk 3 (by kernel_rfl)) (lc rfl (lc rfl (lc (hk 6 (by kernel_rfl)) (lc (hk 7 (by kernel_rfl)) (lc (hk 8 (by kernel_rfl)) (lc (hk 9 (by kernel_rfl)) (lc (hk 10 (by kernel_rfl)) (lc (hk 11 (by kernel_rfl)) (lc rfl (lc rfl (lc rfl (lc rfl (lc rfl (lc (hk 17 (by kernel_rfl)) rfl)))))))))))))))))
    case rest =>
      obtain ⟨rfl, rfl, HX⟩ := hcut
      have b := HX.out.2
      obtain ⟨c0, c1, c2, c3, c4, c5⟩ := vobj_six b
      go_wp2_with fail
      exact bodyPost_ret (v := .tuple #[v30.val, .int .i64 e]) (by simp [results, Tryz.results36, go_sem, c0, c1, c2, c3, c4, c5, V3.val]) rfl ⟨by rw [HR.out], HX.out.1⟩

set_option maxHeartbeats 2000000 in
theorem vec_toldS (S : Nat) (e : Int) (a : Int × Int) (w : World) (h : w.heap[S]? = some (stp e)) :
    Calls Tryz.prog 50 #[.pointer (some ⟨S, 0, none⟩), .agg #[.int .i64 a.1, .int .i64 a.2]] w fun r w' => r = .returned (.tuple #[.agg #[.int .i64 (toldS a e).1.1, .int .i64 (toldS a e).1.2], .int .i64 (toldS a e).2]) ∧ Below w.heap.size w w' := by
  have c0 := cell_of_one h
  have hl := lt_of_block h
  have HS := Lib.hid h
  clear h
  by_cases he : e = 0
  · have hz : (e != 0) = false := by simp [he]
    have HR : Hid (toldS a e = (a, 0)) := Lib.hid (if_pos he)
    clear he
    go_enter Tryz.func50, Tryz.ntmps50
    go_wp2_with fail
    exact bodyPost_ret (v := .tuple #[.agg #[.int .i64 a.1, .int .i64 a.2], .int .i64 0]) (by simp [results, Tryz.results50, go_sem]) rfl ⟨by rw [HR.out], below_alloc (below_alloc (Below.refl _ _) _) _⟩
  · have hz : (e != 0) = true := by simp [he]
    have HR : Hid (toldS a e = ((0, 0), e)) := Lib.hid (if_neg he)
    clear he
    have G1 : Hid ((((w.alloc (.cells #[.int .i64 a.1, .int .i64 a.2] 23 (0, 0))).alloc (.cells #[.int .i64 0, .int .i64 0] 23 (0, 0))).alloc (.cells #[.int .i64 0, .int .i64 0] 23 (0, 0))).heap[S]? = some (stp e)) := Lib.hid (heap_up _ (heap_up _ (heap_up _ HS.out)))
    have G4 : Hid ((((w.alloc (.cells #[.int .i64 a.1, .int .i64 a.2] 23 (0, 0))).alloc (.cells #[.int .i64 0, .int .i64 0] 23 (0, 0))).alloc (.cells #[.int .i64 0, .int .i64 0] 23 (0, 0))).heap[w.heap.size + 1]? = some (.cells #[.int .i64 0, .int .i64 0] 23 (0, 0))) := Lib.hid (heap_up _ (heap_at _ (by simp)))
    have G6 : Hid ((((w.alloc (.cells #[.int .i64 a.1, .int .i64 a.2] 23 (0, 0))).alloc (.cells #[.int .i64 0, .int .i64 0] 23 (0, 0))).alloc (.cells #[.int .i64 0, .int .i64 0] 23 (0, 0))).heap[w.heap.size + 1 + 1]? = some (.cells #[.int .i64 0, .int .i64 0] 23 (0, 0))) := Lib.hid (heap_at _ (by simp))
    have HB1 : Hid (Below w.heap.size w (((w.alloc (.cells #[.int .i64 a.1, .int .i64 a.2] 23 (0, 0))).alloc (.cells #[.int .i64 0, .int .i64 0] 23 (0, 0))).alloc (.cells #[.int .i64 0, .int .i64 0] 23 (0, 0)))) := Lib.hid (below_alloc (below_alloc (below_alloc (Below.refl _ _) _) _) _)
    have HS4 : Hid (S ≠ w.heap.size + 1) := Lib.hid (by have := lt_of_block HS.out; omega)
    have H64 : Hid (w.heap.size + 1 + 1 ≠ w.heap.size + 1) := Lib.hid (by omega)
    have HB4 : Hid (w.heap.size ≤ w.heap.size + 1) := Lib.hid (by omega)
    go_enter Tryz.func50, Tryz.ntmps50
    go_upto_region 3 with (fail)
    clear c0
    generalize ((w.alloc (.cells #[.int .i64 a.1, .int .i64 a.2] 23 (0, 0))).alloc (.cells #[.int .i64 0, .int .i64 0] 23 (0, 0))).alloc (.cells #[.int .i64 0, .int .i64 0] 23 (0, 0)) = W1 at *
    go_cut [4, 5] (fun p v wx => p = .pointer (some ⟨w.heap.size + 1, 0, none⟩) ∧ v = .int .i64 e ∧ Hid (Below w.heap.size w wx ∧ wx.heap[w.heap.size + 1]? = some (.cells #[.int .i64 0, .int .i64 0] 23 (0, 0))))
    case first =>
      refine wp_region_inv (TqS w S (w.heap.size + 1) (w.heap.size + 1 + 1) e) (by kernel_rfl) (by kernel_rfl) ?_ ?_ ?_
      · exact ⟨HB1.out.drew, G1.out, G4.out, G6.out, fun h => absurd h Bool.false_ne_true, fun h => absurd h Bool.false_ne_true, fun h => absurd h Bool.false_ne_true, fun h => absurd h Bool.false_ne_true, fun h => absurd h Bool.false_ne_true, fun h => absurd h Bool.false_ne_true⟩
      · refine AllS.consN 1 (some 12) rfl rfl ?_ (AllS.consN 2 (some 13) rfl rfl ?_ (AllS.consN 3 (some 14) rfl rfl ?_ (AllS.consN 4 (some 15) rfl rfl ?_ (AllS.consN 5 (some 16) rfl rfl ?_ (AllS.consN 6 none rfl rfl ?_ (AllS.consN 7 (some 5) rfl rfl ?_ AllS.nil))))))
        · intro L s w2 h hk hd hn
          have s6 : s 6 = _ := hk 6 (by kernel_rfl)
          have b := h.g6
          have c0 := cell_two0 b
          have c1 := cell_two1 b
          refine stepS rfl fun K hK => ?_
          go_simp
          exact hK _ _ { h with e0 := fun _ => rfl }
        · intro L s w2 h hk hd hn
          have s0 : s 0 = _ := hk 0 (by kernel_rfl)
          refine stepS rfl fun K hK => ?_
          go_simp
          exact hK _ _ { h with e1 := fun _ => rfl }
        · intro L s w2 h hk hd hn
          have s13 := h.e1 hd.1
          have lS := lt_of_block h.gs
          refine stepS rfl fun K hK => ?_
          go_simp
          exact hK _ _ { h with e2 := fun _ => rfl }
        · intro L s w2 h hk hd hn
          have s14 := h.e2 hd.1
          refine stepS rfl fun K hK => ?_
          go_simp
          exact hK _ _ { h with e3 := fun _ => rfl }
        · intro L s w2 h hk hd hn
          have s15 := h.e3 hd.1
          have c0 := cell_of_one h.gs
          refine stepS rfl fun K hK => ?_
          go_simp
          exact hK _ _ { h with e4 := fun _ => rfl }
        · intro L s w2 h hk hd hn
          have s12 := h.e0 hd.1
          have s4 : s 4 = _ := hk 4 (by kernel_rfl)
          have b := h.g4
          have c0 := cell_two0 b
          have c1 := cell_two1 b
          have f0 := free_two (i := 0) b
          have f1 := free_two (i := 1) b
          have lb := lt_of_block b
          refine stepS rfl fun K hK => ?_
          go_simp
          exact hK _ _ { h with bel := (h.bel.setCell HB4.out _).setCell HB4.out _, gs := (told_oth2 HS4.out ()).trans h.gs, g4 := told_same2 h.g4, g6 := (told_oth2 H64.out ()).trans h.g6 }
        · intro L s w2 h hk hd hn
          have s16 := h.e4 hd.1
          refine stepS rfl fun K hK => ?_
          go_simp
          exact hK _ _ { h with e6 := fun _ => rfl }
      · intro L s w2 h hk hl
        rename_i J K' hR hM
        refine hM _ _ (Met.intro (hR _ _ ?_))
        repeat apply Exists.intro
        refine ⟨⟨hk 4 (by kernel_rfl), h.e6 (hl 6 (by decide)), Lib.hid ⟨h.bel, h.g4⟩⟩, ?_⟩
        refine congrArg (fun l => (⟨List.toArray l, []⟩ : Act)) ?_
        show [s 0, s 1, s 2, s 3, s 4, s 5, s 6, s 7, s 8, s 9, s 10, s 11, s 12, s 13, s 14, s 15, s 16, s 17] = _
        exact lc (hk 0 (by kernel_rfl)) (lc (hk 1 (by kernel_rfl)) (lc (hk 2 (by kernel_rfl)) (lc (hk 3 (by kernel_rfl)) (lc rfl (lc rfl (lc (hk 6 (by kernel_rfl)) (lc (hk 7 (by kernel_rfl)) (lc (hk 8 (by kernel_rfl)) (lc (hk 9 (by kernel_rfl)) (lc (hk 10 (by kernel_rfl)) (lc (hk 11 (by kernel_rfl)) (lc rfl (lc rfl (lc rfl (lc rfl (lc rfl (lc (hk 17 (by kernel_rfl)) rfl)))))))))))))))))
    case rest =>
      obtain ⟨rfl, rfl, HX⟩ := hcut
      have b := HX.out.2
      have c0 := cell_two0 b
      have c1 := cell_two1 b
      go_wp2_with fail
      exact bodyPost_ret (v := .tuple #[.agg #[.int .i64 0, .int .i64 0], .int .i64 e]) (by simp [results, Tryz.results50, go_sem, c0, c1]) rfl ⟨by rw [HR.out], HX.out.1⟩
end Go.Proofs.YtmnccbhlllnlbaaGreat
