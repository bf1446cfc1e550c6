/- Package taylor: boxes that hold intervals one behind the other (models, intervals, totals): loads and stores of an interval and of a model. -/
import Derived.Deep.MidRow
import Derived.RangeFuncRecord
import Derived.Test.YthhkcfpljgdnhaaGreatFixX
import Derived.Test.YthhkcfpljgdnhaaGreatTayPl
namespace Go.Proofs.YthhkcfpljgdnhaaGreat
open Go.RowKit Mnc

def mc (a : List (Int × Int)) : List Value := a.flatMap fun x => [.int .i64 x.1, .int .i64 x.2]
def mval (a : List (Int × Int)) : Value := .agg (mc a).toArray
def cobj (t : TypeId) (a : List (Int × Int)) : Obj := .cells (mc a).toArray t (0, 0)
def sval (x : Int × Int) : Value := .agg #[.int .i64 x.1, .int .i64 x.2]
theorem mc_cons (x : Int × Int) (a : List (Int × Int)) : mc (x :: a) = .int .i64 x.1 :: .int .i64 x.2 :: mc a := rfl
theorem mc_length (a : List (Int × Int)) : (mc a).length = 2 * a.length := by
 induction a with
 | nil => rfl
 | cons x a ih => rw [mc_cons, List.length_cons, List.length_cons, ih, List.length_cons]; omega
theorem mc_get (a : List (Int × Int)) : ∀ p, p < a.length → (mc a)[p * 2]? = some (.int .i64 (tAt a p).1) ∧ (mc a)[p * 2 + 1]? = some (.int .i64 (tAt a p).2) := by
 induction a with
 | nil => intro p hp; simp at hp
 | cons x a ih =>
  intro p hp
  rw [mc_cons]
  cases p with
  | zero => exact ⟨rfl, rfl⟩
  | succ p =>
   have h := ih p (by simpa using hp)
   rw [show (p + 1) * 2 = p * 2 + 1 + 1 by omega]
   exact h
theorem mc_set (a : List (Int × Int)) (x : Int × Int) : ∀ p, p < a.length → mc (a.set p x) = ((mc a).set (p * 2) (.int .i64 x.1)).set (p * 2 + 1) (.int .i64 x.2) := by
 induction a with
 | nil => intro p hp; simp at hp
 | cons y a ih =>
  intro p hp
  cases p with
  | zero => rfl
  | succ p =>
   rw [show (p + 1) * 2 = p * 2 + 1 + 1 by omega]
   simp only [List.set_cons_succ, mc_cons]
   rw [ih p (by simpa using hp)]
theorem mc_one (a : List (Int × Int)) : ((mc a).toArray).all (·.oneCell') = true := by
 induction a with
 | nil => simp [mc]
 | cons x a ih =>
  rw [mc_cons]
  simp at ih ⊢
  exact ⟨rfl, rfl, ih⟩
section
variable {W : World} {B : Nat} {t : TypeId} {a : List (Int × Int)}
theorem cobj_cell (h : W.heap[B]? = some (cobj t a)) (j : Nat) : W.cell? ⟨B, j, none⟩ = (mc a)[j]? := by
 rw [cell_of_row W B j _ _ _ h]; simp
theorem cobj_range (h : W.heap[B]? = some (cobj t a)) {p : Nat} (hp : p < a.length) : W.rangeAt B (p * 2) [.int .i64 (tAt a p).1, .int .i64 (tAt a p).2] := by
 intro j v hv
 rw [cobj_cell h]
 obtain ⟨h0, h1⟩ := mc_get a p hp
 rcases j with _ | _ | j
 ·simpa [h0] using hv
 ·simpa [h1] using hv
 ·simp at hv
theorem cobj_all (h : W.heap[B]? = some (cobj t a)) : W.rangeAt B 0 (mc a) := by
 intro j v hv
 rw [cobj_cell h, Nat.zero_add]
 exact hv
theorem sp_load (h : W.heap[B]? = some (cobj t a)) {p : Nat} (hp : p < a.length) : (Instr.loadAt 31 (.pointer (some ⟨B, p * 2, none⟩))).run Tryz.prog W = .ok (sval (tAt a p)) W := by
 obtain ⟨d, hd⟩ := Option.isSome_iff_exists.1 (show (Tryz.prog.underlying 31).isSome = true by kernel_rfl)
 have hr : d.isRow = true := by
  have hm : (Tryz.prog.underlying 31).map TypeDesc.isRow = some true := by kernel_rfl
  rw [hd] at hm
  exact Option.some.inj hm
 exact run_loadAt_mid W B (p * 2) _ _ d (cobj_range h hp) hd hr (by kernel_rfl)
theorem md_load (h : W.heap[B]? = some (cobj t a)) (hl : a.length = 22) : (Instr.loadAt 34 (.pointer (some ⟨B, 0, none⟩))).run Tryz.prog W = .ok (mval a) W := by
 obtain ⟨d, hd⟩ := Option.isSome_iff_exists.1 (show (Tryz.prog.underlying 34).isSome = true by kernel_rfl)
 have hr : d.isRow = true := by
  have hm : (Tryz.prog.underlying 34).map TypeDesc.isRow = some true := by kernel_rfl
  rw [hd] at hm
  exact Option.some.inj hm
 exact run_loadAt_mid W B 0 _ _ d (cobj_all h) hd hr (by rw [mc_length, hl]; kernel_rfl)
theorem md_loadVar (h : W.heap[B]? = some (cobj t a)) (hl : a.length = 22) : (loadVar 34 ⟨B, 0, none⟩).run Tryz.prog W = .ok (mval a) W := by
 obtain ⟨d, hd⟩ := Option.isSome_iff_exists.1 (show (Tryz.prog.underlying 34).isSome = true by kernel_rfl)
 have hr : d.isRow = true := by
  have hm : (Tryz.prog.underlying 34).map TypeDesc.isRow = some true := by kernel_rfl
  rw [hd] at hm
  exact Option.some.inj hm
 exact run_loadVar_mid W B 0 _ _ d (cobj_all h) hd hr (by rw [mc_length, hl]; kernel_rfl)
theorem setCell_put {cs : Array Value} {fr : Nat × Nat} (h : W.heap[B]? = some (.cells cs t fr)) (o : Nat) (v : Value) : W.setCell ⟨B, o, none⟩ v = W.putObj B (.cells (cs.setIfInBounds o v) t fr) := by
 unfold World.setCell World.putObj
 congr 1
 apply Array.ext
 ·simp
 ·intro i h1 h2
  have hb := (Array.getElem?_eq_some_iff.1 h)
  by_cases hi : B = i
  ·subst hi
   rw [Array.getElem_modify_self, Array.getElem_setIfInBounds_self, hb.2]
   simp
  ·rw [Array.getElem_modify_of_ne hi, Array.getElem_setIfInBounds_ne _ hi]
theorem setRow_put {cs : Array Value} {fr : Nat × Nat} (h : W.heap[B]? = some (.cells cs t fr)) (vs : Array Value) : W.setRow B vs = W.putObj B (.cells vs t fr) := by
 unfold World.setRow World.putObj
 congr 1
 apply Array.ext
 ·simp
 ·intro i h1 h2
  have hb := (Array.getElem?_eq_some_iff.1 h)
  by_cases hi : B = i
  ·subst hi
   rw [Array.getElem_modify_self, Array.getElem_setIfInBounds_self, hb.2]
  ·rw [Array.getElem_modify_of_ne hi, Array.getElem_setIfInBounds_ne _ hi]
theorem put_put (o o' : Obj) : (W.putObj B o).putObj B o' = W.putObj B o' := by simp [World.putObj]
theorem sp_put (h : W.heap[B]? = some (cobj t a)) {p : Nat} (hp : p < a.length) (x : Int × Int) : (W.setCell ⟨B, p * 2, none⟩ (.int .i64 x.1)).setCell ⟨B, p * 2 + 1, none⟩ (.int .i64 x.2) = W.putObj B (cobj t (a.set p x)) := by
 have hlt := (Array.getElem?_eq_some_iff.1 h).1
 unfold cobj at h
 rw [setCell_put h, setCell_put (World.putObj_heap_same hlt), put_put]
 unfold cobj
 rw [mc_set a x p hp]
 simp
theorem sp_store (h : W.heap[B]? = some (cobj t a)) {p : Nat} (hp : p < a.length) (x : Int × Int) : (Instr.storeAt 31 (.pointer (some ⟨B, p * 2, none⟩)) (sval x)).run Tryz.prog W = .ok () (W.putObj B (cobj t (a.set p x))) := by
 have hc := cobj_range h hp
 have ht : W.there B (p * 2) 2 := by
  intro j hj
  refine ⟨?_, ?_⟩
  ·rcases j with _ | _ | j
   ·rw [hc 0 _ rfl]; rfl
   ·rw [hc 1 _ rfl]; rfl
   ·omega
  ·simp [World.frozen?, h, cobj]
 have hs := run_storeAt_mid (P := Tryz.prog) W B (p * 2) 31 #[.int .i64 x.1, .int .i64 x.2] ht (by kernel_rfl) (by simp; exact ⟨rfl, rfl⟩)
 rw [show sval x = .agg #[.int .i64 x.1, .int .i64 x.2] from rfl, hs]
 exact congrArg _ (sp_put h hp x)
theorem md_store (h : W.heap[B]? = some (cobj t a)) (hl : a.length = 22) (m : List (Int × Int)) (hm : m.length = 22) : (Instr.storeAt 34 (.pointer (some ⟨B, 0, none⟩)) (mval m)).run Tryz.prog W = .ok () (W.putObj B (cobj t m)) := by
 have hr := run_storeVar_row (P := Tryz.prog) W B t 34 (mc a).toArray (mc m).toArray h (by rw [List.size_toArray, mc_length, hm]; kernel_rfl) (by simp [mc_length, hl, hm]) (mc_one m)
 have e : W.setRow B (mc m).toArray = W.putObj B (cobj t m) := setRow_put h _
 rw [← e, ← hr]
 simp only [Instr.storeAt, Instr.sureAddr, Sem.run_bind, Sem.run_pure, Result.andThen_ok]
 rfl
theorem ix_model {W : World} (B k : Nat) (hk : k < 21) : (Instr.indexAt 32 (.pointer (some ⟨B, 0, none⟩)) (.int .i64 (k : Int))).run Tryz.prog W = .ok (.pointer (some ⟨B, k * 2, none⟩)) W := by
 rw [run_indexAt_array (h := by kernel_rfl)]
 have hn : Tryz.prog.arrayLen 32 = 21 := by kernel_rfl
 have hs : (sizeOf (Tryz.prog.elem 32)).run Tryz.prog W = .ok 2 W := by kernel_rfl
 rw [hn, if_pos (by omega), hs]
 simp only [Result.andThen, Int.toNat_natCast, Addr.add_mid, Nat.zero_add]
end
theorem put_bel {n B : Nat} {W W' : World} {o : Obj} (h : Below n W W') (hB : n ≤ B) : Below n W (W'.putObj B o) :=
 ⟨h.os, h.tape, h.output, by simpa using h.size, fun k hk => (World.putObj_heap_other (by omega)).trans (h.block k hk)⟩
end Go.Proofs.YthhkcfpljgdnhaaGreat
