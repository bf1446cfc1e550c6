/- From a walk to a plain row: what is common to the laws of this seat: arguments opened (slices of plain structs), a witness, the last step. -/
import Derived.Test.YtgpaillkekhmdaaRows
import Derived.Test.YtgpaillkekhmdaaOpen
import Derived.Test.YtgpaillkekhmdaaRef8
import Derived.ProofKit
import Derived.OpenShut
import Derived.ChangeSame
import Derived.ChangeVars
import Derived.Carry
import Derived.Deep.Slices
namespace Go.Proofs.Ytgpaillkekhmdaa
open Go.ChangeShapes Go.WideShapes Go.ChangeAt Go.RowKit Go.Deep Mnc

theorem own : ownKnob Try.prog.godebug = none := by kernel_rfl
theorem laidOut : laidOutB Try.prog = true := by kernel_rfl

section
variable {H : Type} {enc : TypeId × Value → H} {P : Program}

theorem trodAll_stays (hl : laidOutB P = true) {W W' : World} (hb : Below W.heap.size W W') (sp : Nat → Bool) : ∀ (ts : List TypeId) (vs : List Value) (ds : List (DataW H)) (ps : List MemPlace),
    (∀ t ∈ ts, P.readableRec t = true ∧ t < P.types.size) → DataW.TrodAll enc P W 0 (fun _ => true) true ts vs ds ps → (∀ x ∈ ps, x.block < W.heap.size) → (∀ x ∈ ps, sp x.block = true) → DataW.TrodAll enc P W' 0 sp true ts vs ds ps
  | [], [], [], ps, _, h, _, _ => h
  | t :: ts, v :: vs, d :: ds, ps, ht, h, hlt, hsp => by
    obtain ⟨p, q, h1, h2, rfl⟩ := h
    obtain ⟨r1, r2⟩ := ht t (by simp)
    refine ⟨p, q, WideElems.Trod_stays hl r1 r2 h1 (fun x hx => hb.same (hlt x (by simp [hx]))) (fun x hx => hsp x (by simp [hx])), ?_, rfl⟩
    exact trodAll_stays hl hb sp ts vs ds q (fun x hx => ht x (by simp [hx])) h2 (fun x hx => hlt x (by simp [hx])) (fun x hx => hsp x (by simp [hx]))
  | [], _ :: _, _, _, _, h, _, _ => by cases h
  | [], [], _ :: _, _, _, h, _, _ => by cases h
  | _ :: _, [], _, _, _, h, _, _ => by cases h
  | _ :: _, _ :: _, [], _, _, h, _, _ => by cases h

/-- The last step of a row of which 'Below' alone is known. -/
theorem post_below {f : Func} {s : ChangeSpec} {apart fresh handsOn again : Bool} {W W' : World} {args : Array Value} {v : Value} {ds gs : List (DataW H)} {before pa pv : List MemPlace}
    (hW : DataW.Whole enc P f.params.toList s.vars apart W args.toList ds gs before)
    (hres : ∀ (b : Nat) (sp : Nat → Bool) (hd : Bool), DataW.TrodAll enc P W' b sp hd f.resultTypes.toList (v.resultList f.resultTypes.size) (s.fn H (ds ++ gs)).results [])
    (hargs : ∀ sp : Nat → Bool, (∀ p ∈ before, sp p.block = true) → DataW.TrodAll enc P W' 0 sp true f.params.toList args.toList (s.fn H (ds ++ gs)).args pa)
    (hvars : ∀ sp : Nat → Bool, (∀ p ∈ before, sp p.block = true) → DataW.TrodVars enc P W' sp s.vars (s.fn H (ds ++ gs)).vars pv)
    (hps : before = pa ++ pv) (hb : Below W.heap.size W W')
    (hok : ∀ (j : Nat) (t : TypeId) (r : Value), f.resultTypes[j]? = some t → (v.resultList f.resultTypes.size)[j]? = some r → Value.okWide P W' .any 0 t r) :
    s.post enc P f apart fresh handsOn again W args v W' := by
  have hin : ∀ p ∈ before, p.block < W.heap.size := fun p hp => hW.lt p hp
  have hsp : ∀ p ∈ before, (fun b => decide (b < W.heap.size)) p.block = true := fun p hp => by simpa using hin p hp
  refine ⟨ds, gs, before, [], pa, pv, hW, hres _ _ _, hargs _ hsp, hvars _ hsp, World.keptBut_mono (fun p hp => ⟨hp, ?_⟩) (hb.frame (· ∈ before)), fun _ => ?_⟩
  · rw [hps, List.mem_append] at hp
    exact Or.inr hp
  · obtain ⟨_, _, _, _, _, hz, hn⟩ := hW
    refine ⟨hok, _, _, ([] ++ pa) ++ pv, ⟨[] ++ pa, pv, trodAll_append (hargs _ (fun _ _ => rfl)) (hres _ _ _), hvars _ (fun _ _ => rfl), rfl, fun b off hp => ?_, fun ha => ?_⟩, fun p hp _ => ?_⟩
    · have hi : MemPlace.cell b off ∈ before := by rw [hps]; simpa using hp
      rw [hb.frozen (hin _ hi)]
      exact hz b off hi
    · have := hn ha
      rw [hps] at this
      simpa using this
    · rw [hps]
      simpa using hp

/-- The elements of a slice of plain structs. -/
theorem open_elems {t e : TypeId} {ks : List IntKind} (ht : P.underlying t = some (.slice e)) (hk : kindsOf P 8 e = some ks) (hc : P.cellsOf e = ks.length) {W : World} {r : Reach} {b0 base : Nat} {held : Bool} {v : Value} {d : DataW H} {p : List MemPlace}
    (hv : Value.okWide P W r b0 t v) (h : DataW.Trod enc P W base (fun _ => true) held t v d p) :
    v = .slice none 0 0 ∨ ∃ (b off n cap : Nat), v = .slice (some ⟨b, off, none⟩) n cap ∧ n ≤ cap ∧ cap ≤ 9223372036854775807 ∧
      ∀ i, i < n → ∃ l : List (IntKind × Int), l.map (·.1) = ks ∧ (∀ q ∈ l, (Lit.int q.1 q.2).wf = true) ∧ ∀ j u, (l.map toV)[j]? = some u → W.cell? ⟨b, off + (i * ks.length + j), none⟩ = some u := by
  obtain ⟨a0, len, cap, rfl⟩ := okWide_slice ht hv
  obtain ⟨fuel, hf⟩ := h
  have hf' : DataW.trod enc P W base (fun _ => true) held fuel t [.slice a0 len cap] = some (d, p) := hf
  rcases open_slice ht hf' with ⟨hcs, _⟩ | ⟨a, len', cap', m, n, D, Pl, hcs, hb, hl, hm, hmm, hx, hi⟩
  · left
    simpa using hcs
  · right
    simp only [List.cons.injEq, and_true, Value.slice.injEq] at hcs
    obtain ⟨rfl, rfl, rfl⟩ := hcs
    have hspot : a.spot = none := by
      unfold Value.okWide at hv
      rw [ht] at hv
      simp only [Cell.okWide, Cell.ok, ht] at hv
      exact hv.2.2.2.1
    obtain ⟨b, off, sp⟩ := a
    simp only at hspot
    subst hspot
    have hcap : cap ≤ 9223372036854775807 := by unfold maxLen at hm; omega
    refine ⟨b, off, len, cap, rfl, hl, hcap, fun i hin => ?_⟩
    obtain ⟨cs', hc', ht'⟩ := hi i (by rw [hmm]; simp; omega)
    obtain ⟨_, ⟨l, e1, e2, e3⟩, _⟩ := plain_trod 8 e ks hk W base _ held n cs' _ ht'
    refine ⟨l, e1, e3, fun j u hu => ?_⟩
    obtain ⟨_, hlen, hcell⟩ := World.cells?_some hc'
    have hj : j < ks.length := by
      have := (List.getElem?_eq_some_iff.1 hu).1
      rw [List.length_map] at this
      rw [← e1, List.length_map]
      exact this
    have := hcell j (by rw [hc]; exact hj)
    rw [← e2] at hu
    rw [hu, add_plain, add_plain] at this
    rw [hc] at this
    rw [← Nat.add_assoc]
    exact this
end

theorem kinds_Span : kindsOf Try.prog 8 33 = some [.i64, .i64] := by kernel_rfl
theorem kinds_Draft02 : kindsOf Try.prog 8 25 = some [.i64, .u8, .u32] := by kernel_rfl

section
variable {H : Type} {enc : TypeId × Value → H} {W : World} {r : Reach} {b0 base : Nat} {held : Bool} {v : Value} {d : DataW H} {p : List MemPlace}

theorem two_kinds {k0 k1 : IntKind} {l : List (IntKind × Int)} (h : l.map (·.1) = [k0, k1]) : ∃ x y, l = [(k0, x), (k1, y)] := by
  obtain ⟨x, l1, rfl, h1⟩ := map_cons_inv h
  obtain ⟨y, l2, rfl, h2⟩ := map_cons_inv h1
  obtain rfl := map_nil_inv h2
  exact ⟨x, y, rfl⟩
theorem three_kinds {k0 k1 k2 : IntKind} {l : List (IntKind × Int)} (h : l.map (·.1) = [k0, k1, k2]) : ∃ x y z, l = [(k0, x), (k1, y), (k2, z)] := by
  obtain ⟨x, l1, rfl, h1⟩ := map_cons_inv h
  obtain ⟨y, l2, rfl, h2⟩ := map_cons_inv h1
  obtain ⟨z, l3, rfl, h3⟩ := map_cons_inv h2
  obtain rfl := map_nil_inv h3
  exact ⟨x, y, z, rfl⟩

theorem flat_inv (l : List (Int × Int)) (j : Nat) (u : Value) (h : (flat l)[j]? = some u) : ∃ i s, l[i]? = some s ∧ ((j = i * 2 ∧ u = .int .i64 s.1) ∨ (j = i * 2 + 1 ∧ u = .int .i64 s.2)) := by
  induction l generalizing j with
  | nil => simp [flat] at h
  | cons a r ih =>
    rw [show flat (a :: r) = .int .i64 a.1 :: .int .i64 a.2 :: flat r from rfl] at h
    match j, h with
    | 0, h => exact ⟨0, a, rfl, .inl ⟨rfl, by simpa using h.symm⟩⟩
    | 1, h => exact ⟨0, a, rfl, .inr ⟨rfl, by simpa using h.symm⟩⟩
    | j + 2, h =>
      obtain ⟨i, s, h1, h2⟩ := ih j (by simpa using h)
      refine ⟨i + 1, s, by simpa using h1, ?_⟩
      rcases h2 with ⟨rfl, rfl⟩ | ⟨rfl, rfl⟩
      · exact .inl ⟨by omega, rfl⟩
      · exact .inr ⟨by omega, rfl⟩
theorem flatD_inv (l : List Dr) (j : Nat) (u : Value) (h : (flatD l)[j]? = some u) : ∃ i s, l[i]? = some s ∧ ((j = i * 3 ∧ u = .int .i64 s.1) ∨ (j = i * 3 + 1 ∧ u = .int .u8 s.2.1) ∨ (j = i * 3 + 2 ∧ u = .int .u32 s.2.2)) := by
  induction l generalizing j with
  | nil => simp [flatD] at h
  | cons a r ih =>
    rw [flatD_cons] at h
    match j, h with
    | 0, h => exact ⟨0, a, rfl, .inl ⟨rfl, by simpa using h.symm⟩⟩
    | 1, h => exact ⟨0, a, rfl, .inr (.inl ⟨rfl, by simpa using h.symm⟩)⟩
    | 2, h => exact ⟨0, a, rfl, .inr (.inr ⟨rfl, by simpa using h.symm⟩)⟩
    | j + 3, h =>
      obtain ⟨i, s, h1, h2⟩ := ih j (by simpa using h)
      refine ⟨i + 1, s, by simpa using h1, ?_⟩
      rcases h2 with ⟨rfl, rfl⟩ | ⟨rfl, rfl⟩ | ⟨rfl, rfl⟩
      · exact .inl ⟨by omega, rfl⟩
      · exact .inr (.inl ⟨by omega, rfl⟩)
      · exact .inr (.inr ⟨by omega, rfl⟩)

theorem list_of {α : Type} (m : Nat) {R : Nat → α → Prop} (h : ∀ i, i < m → ∃ x, R i x) : ∃ l : List α, l.length = m ∧ ∀ i x, l[i]? = some x → R i x := by
  induction m with
  | zero => exact ⟨[], rfl, fun i x hx => by simp at hx⟩
  | succ m ih =>
    obtain ⟨l, h1, h2⟩ := ih (fun i hi => h i (by omega))
    obtain ⟨x, hx⟩ := h m (by omega)
    refine ⟨l ++ [x], by simp [h1], fun i y hy => ?_⟩
    rcases Nat.lt_or_ge i l.length with hlt | hge
    · rw [List.getElem?_append_left hlt] at hy
      exact h2 i y hy
    · rw [List.getElem?_append_right hge] at hy
      have : i - l.length = 0 := by
        have := (List.getElem?_eq_some_iff.1 hy).1
        simp at this
        omega
      rw [this] at hy
      simp at hy
      subst hy
      rw [show i = m by omega]
      exact hx

set_option maxRecDepth 100000 in
theorem open_spans (hv : Value.okWide Try.prog W r b0 30 v) (h : DataW.Trod enc Try.prog W base (fun _ => true) held 30 v d p) :
    ∃ ao n cap, v = .slice ao n cap ∧ n ≤ cap ∧ cap ≤ 9223372036854775807 ∧ ∀ m, m ≤ n → m ≤ 1000000 → ∃ l, l.length = m ∧ SpSl W ao cap l := by
  rcases open_elems Try.underlying30 kinds_Span (by kernel_rfl) hv h with rfl | ⟨b, off, n, cap, rfl, hn, hc, hel⟩
  · exact ⟨none, 0, 0, rfl, Nat.le_refl _, by omega, fun m hm _ => ⟨[], by simp; omega, SpSl.none_ W⟩⟩
  · refine ⟨_, n, cap, rfl, hn, hc, fun m hm hM => ?_⟩
    obtain ⟨l, h1, h2⟩ := list_of m (R := fun i (s : Int × Int) => W.cell? ⟨b, off + i * 2, none⟩ = some (.int .i64 s.1) ∧ W.cell? ⟨b, off + (i * 2 + 1), none⟩ = some (.int .i64 s.2)) (fun i hi => by
      obtain ⟨q, e1, _, e3⟩ := hel i (by omega)
      obtain ⟨x, y, rfl⟩ := two_kinds e1
      exact ⟨(x, y), e3 0 _ rfl, e3 1 _ rfl⟩)
    refine ⟨l, h1, by omega, by omega, hc, fun e => by (cases e), fun a e => by cases e; rfl, fun a e j u hu => ?_⟩
    cases e
    obtain ⟨i, s, h3, h4⟩ := flat_inv l j u hu
    obtain ⟨g1, g2⟩ := h2 i s h3
    rw [add_plain]
    rcases h4 with ⟨rfl, rfl⟩ | ⟨rfl, rfl⟩
    · exact g1
    · exact g2

theorem wf_u8 {n : Int} (h : (Lit.int .u8 n).wf = true) : 0 ≤ n ∧ n < 256 := by
  simp only [Lit.wf, Bool.and_eq_true, decide_eq_true_eq] at h
  have h1 := h.1
  have h2 := h.2
  simp [IntKind.min, IntKind.max, IntKind.bits, IntKind.signed] at h1 h2
  omega
theorem wf_u32 {n : Int} (h : (Lit.int .u32 n).wf = true) : 0 ≤ n ∧ n < 4294967296 := by
  simp only [Lit.wf, Bool.and_eq_true, decide_eq_true_eq] at h
  have h1 := h.1
  have h2 := h.2
  simp [IntKind.min, IntKind.max, IntKind.bits, IntKind.signed] at h1 h2
  omega
theorem wf_u64 {n : Int} (h : (Lit.int .u64 n).wf = true) : 0 ≤ n ∧ n < 18446744073709551616 := by
  simp only [Lit.wf, Bool.and_eq_true, decide_eq_true_eq] at h
  have h1 := h.1
  have h2 := h.2
  simp [IntKind.min, IntKind.max, IntKind.bits, IntKind.signed] at h1 h2
  omega

set_option maxRecDepth 100000 in
theorem open_drafts (hv : Value.okWide Try.prog W r b0 22 v) (h : DataW.Trod enc Try.prog W base (fun _ => true) held 22 v d p) :
    ∃ ao cap l, v = .slice ao l.length cap ∧ DrSl W ao cap l := by
  rcases open_elems Try.underlying22 kinds_Draft02 (by kernel_rfl) hv h with rfl | ⟨b, off, n, cap, rfl, hn, hc, hel⟩
  · exact ⟨none, 0, [], rfl, Nat.le_refl _, by omega, fun _ => ⟨rfl, rfl⟩, fun a e => by (cases e), by simp, fun a e => by (cases e)⟩
  · obtain ⟨l, h1, h2⟩ := list_of n (R := fun i (s : Dr) => s.wf ∧ W.cell? ⟨b, off + i * 3, none⟩ = some (.int .i64 s.1) ∧ W.cell? ⟨b, off + (i * 3 + 1), none⟩ = some (.int .u8 s.2.1) ∧ W.cell? ⟨b, off + (i * 3 + 2), none⟩ = some (.int .u32 s.2.2)) (fun i hi => by
      obtain ⟨q, e1, e2, e3⟩ := hel i hi
      obtain ⟨x, y, z, rfl⟩ := three_kinds e1
      exact ⟨(x, y, z), ⟨wf_u8 (e2 (.u8, y) (by simp)), wf_u32 (e2 (.u32, z) (by simp))⟩, e3 0 _ rfl, e3 1 _ rfl, e3 2 _ rfl⟩)
    refine ⟨_, cap, l, by rw [h1], by omega, hc, fun e => by (cases e), fun a e => by cases e; rfl, fun x hx => ?_, fun a e j u hu => ?_⟩
    · obtain ⟨i, hi⟩ := List.mem_iff_getElem?.1 hx
      exact (h2 i x hi).1
    · cases e
      obtain ⟨i, s, h3, h4⟩ := flatD_inv l j u hu
      obtain ⟨_, g1, g2, g3⟩ := h2 i s h3
      rw [add_plain]
      rcases h4 with ⟨rfl, rfl⟩ | ⟨rfl, rfl⟩ | ⟨rfl, rfl⟩
      · exact g1
      · exact g2
      · exact g3
end
end Go.Proofs.Ytgpaillkekhmdaa
