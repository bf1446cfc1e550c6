/- From a walk to a plain row of law 21: drafts (structs that hold a slice of terms). -/
import Derived.Test.YthhkcfpljgdnhaaGreatLiftX
import Derived.Test.YthhkcfpljgdnhaaGreatDrT
namespace Go.Proofs.YthhkcfpljgdnhaaGreat
open Go.ChangeShapes Go.WideShapes Go.ChangeAt Go.RowKit Go.Deep Mnc
section
variable {H : Type} {enc : TypeId × Value → H} {P : Program}
/-- The elements of a slice of plain structs that is a cell. -/
theorem cell_elems {t e : TypeId} {ks : List IntKind} (ht : P.underlying t = some (.slice e)) (hk : kindsOf P 8 e = some ks) (hc : P.cellsOf e = ks.length) {W : World} {r : Reach} {b0 base fuel : Nat} {held : Bool} {x : Value} {y : DataW H × List MemPlace}
  (hv : Cell.okWide P W r b0 t x) (hf : DataW.trod enc P W base (fun _ => true) held fuel t [x] = some y) :
  x = .slice none 0 0 ∨ ∃ (b off n cap : Nat), x = .slice (some ⟨b, off, none⟩) n cap ∧ n ≤ cap ∧ cap ≤ 9223372036854775807 ∧
   ∀ i, i < n → ∃ l : List (IntKind × Int), l.map (·.1) = ks ∧ (∀ q ∈ l, (Lit.int q.1 q.2).wf = true) ∧ ∀ j u, (l.map toV)[j]? = some u → W.cell? ⟨b, off + (i * ks.length + j), none⟩ = some u := by
 obtain ⟨d, p⟩ := y
 rcases open_slice ht hf with ⟨hcs, _⟩ | ⟨a, len', cap', m, n, D, Pl, hcs, hb, hl, hm, hmm, hx, hi⟩
 ·left
  simpa using hcs
 ·right
  simp only [List.cons.injEq, and_true] at hcs
  subst hcs
  have hspot : a.spot = none := by
   simp only [Cell.okWide, Cell.ok, ht] at hv
   exact hv.2.2.2.1
  obtain ⟨b, off, sp⟩ := a
  simp only at hspot
  subst hspot
  have hcap : cap' ≤ 9223372036854775807 := by unfold maxLen at hm; omega
  refine ⟨b, off, len', cap', rfl, hl, hcap, fun i hin => ?_⟩
  obtain ⟨cs', hc', ht'⟩ := hi i (by rw [hmm]; simp; omega)
  obtain ⟨_, ⟨l, e1, e2, e3⟩, _⟩ := plain_trod 8 e ks hk W base _ held n cs' _ ht'
  refine ⟨l, e1, e3, fun j u hu => ?_⟩
  obtain ⟨_, hlen, hcell⟩ := World.cells?_some hc'
  have hj : j < ks.length := by
   have := (List.getElem?_eq_some_iff.1 hu).1
   rw [List.length_map] at this
   rw [← e1, List.length_map]
   exact this
  have := hcell j (by rw [hc]; exact hj)
  rw [← e2] at hu
  rw [hu, add_plain, add_plain] at this
  rw [hc] at this
  rw [← Nat.add_assoc]
  exact this
end
theorem b8 {n : Int} (h : 0 ≤ n ∧ n < 256) : 0 ≤ n ∧ n ≤ 255 := ⟨h.1, by omega⟩
theorem wf_i16 {n : Int} (h : (Lit.int .i16 n).wf = true) : -32768 ≤ n ∧ n ≤ 32767 := by
 simp only [Lit.wf, Bool.and_eq_true, decide_eq_true_eq] at h
 have h1 := h.1
 have h2 := h.2
 simp [IntKind.min, IntKind.max, IntKind.bits, IntKind.signed] at h1 h2
 omega
theorem wf_u16 {n : Int} (h : (Lit.int .u16 n).wf = true) : 0 ≤ n ∧ n ≤ 65535 := by
 simp only [Lit.wf, Bool.and_eq_true, decide_eq_true_eq] at h
 have h1 := h.1
 have h2 := h.2
 simp [IntKind.min, IntKind.max, IntKind.bits, IntKind.signed] at h1 h2
 omega
theorem wf_u8' {n : Int} (h : (Lit.int .u8 n).wf = true) : 0 ≤ n ∧ n ≤ 255 := by
 simp only [Lit.wf, Bool.and_eq_true, decide_eq_true_eq] at h
 have h1 := h.1
 have h2 := h.2
 simp [IntKind.min, IntKind.max, IntKind.bits, IntKind.signed] at h1 h2
 omega
theorem kinds_Bend : kindsOf Tryz.prog 8 28 = some [.u8, .i64, .i64] := by kernel_rfl
theorem kinds_Term : kindsOf Tryz.prog 8 68 = some [.u8, .i16, .u8] := by kernel_rfl
section
variable {H : Type} {enc : TypeId × Value → H} {W : World} {r : Reach} {b0 base : Nat} {held : Bool} {v : Value} {d : DataW H} {p : List MemPlace}
theorem list_ofT {α : Type} {R : Nat → α → Prop} : ∀ n : Nat, (∀ i, i < n → ∃ x, R i x) → ∃ l : List α, l.length = n ∧ ∀ i x, l[i]? = some x → R i x
 | 0, _ => ⟨[], rfl, fun i x h => by simp at h⟩
 | n + 1, h => by
  obtain ⟨l, h1, h2⟩ := list_ofT n fun i hi => h i (by omega)
  obtain ⟨x, hx⟩ := h n (by omega)
  refine ⟨l ++ [x], by simp [h1], fun i y hy => ?_⟩
  rcases Nat.lt_or_ge i n with hi | hi
  ·rw [List.getElem?_append_left (by omega)] at hy
   exact h2 i y hy
  ·rw [List.getElem?_append_right (by omega), h1] at hy
   obtain rfl : i = n := by
    have := (List.getElem?_eq_some_iff.1 hy).1
    simp at this
    omega
   simp at hy
   subst hy
   exact hx
theorem three_kindsT {k0 k1 k2 : IntKind} {l : List (IntKind × Int)} (h : l.map (·.1) = [k0, k1, k2]) : ∃ x y z, l = [(k0, x), (k1, y), (k2, z)] := by
 match l, h with
 | [(a, x), (b, y), (c, z)], h =>
  simp only [List.map_cons, List.map_nil, List.cons.injEq, and_true] at h
  obtain ⟨rfl, rfl, rfl⟩ := h
  exact ⟨x, y, z, rfl⟩
set_option maxRecDepth 100000 in
/-- A draft by value, opened. -/
theorem open_draft (hv : Value.okWide Tryz.prog W r b0 26 v) (h : DataW.Trod enc Tryz.prog W base (fun _ => true) held 26 v d p) :
  ∃ (c z : Int) (ao : Option Addr) (cap : Nat) (ts : List Tm), v = .agg #[.int .i16 c, .slice ao ts.length cap, .int .u16 z] ∧ (-32768 ≤ c ∧ c ≤ 32767) ∧ (0 ≤ z ∧ z ≤ 65535) ∧ TmSl W ao cap ts := by
 have hv2 := hv
 obtain ⟨cs, rfl, hsz⟩ := okWide_struct Tryz.underlying26 hv
 obtain ⟨fuel, hf⟩ := h
 have hf' : DataW.trod enc Tryz.prog W base (fun _ => true) held fuel 26 cs.toList = some (d, p) := hf
 rw [show Tryz.prog.cellsOf 26 = 3 by kernel_rfl] at hsz
 obtain ⟨v0, v1, v2, rfl⟩ : ∃ v0 v1 v2, cs = #[v0, v1, v2] := by
  obtain ⟨l⟩ := cs
  match l, hsz with
  | [x, y, z], _ => exact ⟨x, y, z, rfl⟩
 obtain ⟨xs, n, _, hx, hl, hlen, hfd⟩ := DataW.trod_struct Tryz.underlying26 hf'
 obtain ⟨y0, y1, y2, rfl⟩ : ∃ y0 y1 y2, xs = [y0, y1, y2] := by
  match xs, hlen with
  | [y0, y1, y2], _ => exact ⟨y0, y1, y2, rfl⟩
 have f0 : DataW.trod enc Tryz.prog W base (fun _ => true) held n 22 ((([v0, v1, v2] : List Value).drop 0).take (Tryz.prog.cellsOf 22)) = some y0 := hfd 0 _ rfl
 have f1 : DataW.trod enc Tryz.prog W base (fun _ => true) held n 23 ((([v0, v1, v2] : List Value).drop 1).take (Tryz.prog.cellsOf 23)) = some y1 := hfd 1 _ rfl
 have f2 : DataW.trod enc Tryz.prog W base (fun _ => true) held n 24 ((([v0, v1, v2] : List Value).drop 2).take (Tryz.prog.cellsOf 24)) = some y2 := hfd 2 _ rfl
 rw [show Tryz.prog.cellsOf 22 = 1 by kernel_rfl] at f0
 rw [show Tryz.prog.cellsOf 23 = 1 by kernel_rfl] at f1
 rw [show Tryz.prog.cellsOf 24 = 1 by kernel_rfl] at f2
 obtain ⟨c, e0, _, w0⟩ := DataW.trod_int Tryz.underlying22 f0
 obtain ⟨z, e2, _, w2⟩ := DataW.trod_int Tryz.underlying24 f2
 simp only [List.drop_zero, List.take_succ_cons, List.take_zero, List.drop_succ_cons, List.cons.injEq, and_true] at e0 e2 f1
 subst e0 e2
 have hcell : Cell.okWide Tryz.prog W r b0 23 v1 := by
  simp only [Value.okWide, Tryz.underlying26] at hv2
  obtain ⟨cs, hcs, _, tys, ht, _, hrow⟩ := hv2
  rw [show Tryz.prog.cellTypes Tryz.prog.depth 26 = some [22, 23, 24] by kernel_rfl] at ht
  cases ht
  cases hcs
  obtain ⟨u, hu, hc⟩ := hrow 1 v1 rfl
  have : u = 23 := (Option.some.inj hu).symm
  subst this
  exact hc
 rcases cell_elems Tryz.underlying23 kinds_Term (by kernel_rfl) hcell f1 with rfl | ⟨b, off, m, cap, rfl, hm, hcap, hel⟩
 ·exact ⟨c, z, none, 0, [], rfl, wf_i16 w0, wf_u16 w2, ⟨Nat.le_refl _, by omega, fun _ => rfl, fun a e => by (cases e), by simp, fun a e => by (cases e)⟩⟩
 ·obtain ⟨l, h1, h2⟩ := list_ofT m (R := fun i (s : Tm) => s.wf ∧ W.cell? ⟨b, off + i * 3, none⟩ = some (.int .u8 s.1) ∧ W.cell? ⟨b, off + i * 3 + 1, none⟩ = some (.int .i16 s.2.1) ∧ W.cell? ⟨b, off + i * 3 + 2, none⟩ = some (.int .u8 s.2.2)) (fun i hi => by
   obtain ⟨q, e1, e2, e3⟩ := hel i hi
   obtain ⟨x, y, z, rfl⟩ := three_kindsT e1
   refine ⟨(x, y, z), ⟨wf_u8' (e2 (.u8, x) (by simp)), wf_i16 (e2 (.i16, y) (by simp)), wf_u8' (e2 (.u8, z) (by simp))⟩, e3 0 _ rfl, e3 1 _ rfl, e3 2 _ rfl⟩)
  refine ⟨c, z, some ⟨b, off, none⟩, cap, l, by rw [h1], wf_i16 w0, wf_u16 w2, ⟨by omega, hcap, fun e => by (cases e), fun a e => by cases e; rfl, fun x hx => ?_, fun a e i s hs => ?_⟩⟩
  ·obtain ⟨i, hi⟩ := List.mem_iff_getElem?.1 hx
   exact (h2 i x hi).1
  ·cases e
   exact (h2 i s hs).2
end
end Go.Proofs.YthhkcfpljgdnhaaGreat
