/- From a walk to a plain row where no argument is a slice. Printed by wip/genLW.py. -/
import Derived.Test.YtmnccbhlllnlbaaGreatRows
import Derived.Test.YtmnccbhlllnlbaaGreatOpen
import Derived.ProofKit
import Derived.OpenShut
import Derived.ChangeSame
import Derived.ChangeVars
import Derived.Carry
import Derived.Deep.Slices
namespace Go.Proofs.YtmnccbhlllnlbaaGreat
open Go.ChangeShapes Go.WideShapes Go.ChangeAt Go.RowKit Go.Deep

theorem own : ownKnob Tryz.prog.godebug = none := by kernel_rfl
theorem laidOut : laidOutB Tryz.prog = true := by kernel_rfl

section
variable {H : Type} {enc : TypeId × Value → H} {P : Program}

theorem trodAll_stays (hl : laidOutB P = true) {W W' : World} (hb : Below W.heap.size W W') (sp : Nat → Bool) : ∀ (ts : List TypeId) (vs : List Value) (ds : List (DataW H)) (ps : List MemPlace),
    (∀ t ∈ ts, P.readableRec t = true ∧ t < P.types.size) → DataW.TrodAll enc P W 0 (fun _ => true) true ts vs ds ps → (∀ x ∈ ps, x.block < W.heap.size) → (∀ x ∈ ps, sp x.block = true) → DataW.TrodAll enc P W' 0 sp true ts vs ds ps
  | [], [], [], ps, _, h, _, _ => h
  | t :: ts, v :: vs, d :: ds, ps, ht, h, hlt, hsp => by
    obtain ⟨p, q, h1, h2, rfl⟩ := h
    obtain ⟨r1, r2⟩ := ht t (by simp)
    refine ⟨p, q, WideElems.Trod_stays hl r1 r2 h1 (fun x hx => hb.same (hlt x (by simp [hx]))) (fun x hx => hsp x (by simp [hx])), ?_, rfl⟩
    exact trodAll_stays hl hb sp ts vs ds q (fun x hx => ht x (by simp [hx])) h2 (fun x hx => hlt x (by simp [hx])) (fun x hx => hsp x (by simp [hx]))
  | [], _ :: _, _, _, _, h, _, _ => by cases h
  | [], [], _ :: _, _, _, h, _, _ => by cases h
  | _ :: _, [], _, _, _, h, _, _ => by cases h
  | _ :: _, _ :: _, [], _, _, h, _, _ => by cases h

/-- The last step of a row of which 'Below' alone is known. -/
theorem post_below {f : Func} {s : ChangeSpec} {apart fresh handsOn again : Bool} {W W' : World} {args : Array Value} {v : Value} {ds gs : List (DataW H)} {before pa pv : List MemPlace}
    (hW : DataW.Whole enc P f.params.toList s.vars apart W args.toList ds gs before)
    (hres : ∀ (b : Nat) (sp : Nat → Bool) (hd : Bool), DataW.TrodAll enc P W' b sp hd f.resultTypes.toList (v.resultList f.resultTypes.size) (s.fn H (ds ++ gs)).results [])
    (hargs : ∀ sp : Nat → Bool, (∀ p ∈ before, sp p.block = true) → DataW.TrodAll enc P W' 0 sp true f.params.toList args.toList (s.fn H (ds ++ gs)).args pa)
    (hvars : ∀ sp : Nat → Bool, (∀ p ∈ before, sp p.block = true) → DataW.TrodVars enc P W' sp s.vars (s.fn H (ds ++ gs)).vars pv)
    (hps : before = pa ++ pv) (hb : Below W.heap.size W W')
    (hok : ∀ (j : Nat) (t : TypeId) (r : Value), f.resultTypes[j]? = some t → (v.resultList f.resultTypes.size)[j]? = some r → Value.okWide P W' .any 0 t r) :
    s.post enc P f apart fresh handsOn again W args v W' := by
  have hin : ∀ p ∈ before, p.block < W.heap.size := fun p hp => hW.lt p hp
  have hsp : ∀ p ∈ before, (fun b => decide (b < W.heap.size)) p.block = true := fun p hp => by simpa using hin p hp
  refine ⟨ds, gs, before, [], pa, pv, hW, hres _ _ _, hargs _ hsp, hvars _ hsp, World.keptBut_mono (fun p hp => ⟨hp, ?_⟩) (hb.frame (· ∈ before)), fun _ => ?_⟩
  · rw [hps, List.mem_append] at hp
    exact Or.inr hp
  · obtain ⟨_, _, _, _, _, hz, hn⟩ := hW
    refine ⟨hok, _, _, ([] ++ pa) ++ pv, ⟨[] ++ pa, pv, trodAll_append (hargs _ (fun _ _ => rfl)) (hres _ _ _), hvars _ (fun _ _ => rfl), rfl, fun b off hp => ?_, fun ha => ?_⟩, fun p hp _ => ?_⟩
    · have hi : MemPlace.cell b off ∈ before := by rw [hps]; simpa using hp
      rw [hb.frozen (hin _ hi)]
      exact hz b off hi
    · have := hn ha
      rw [hps] at this
      simpa using this
    · rw [hps]
      simpa using hp

end
theorem wf_u8 {n : Int} (h : (Lit.int .u8 n).wf = true) : 0 ≤ n ∧ n < 256 := by
  simp only [Lit.wf, Bool.and_eq_true, decide_eq_true_eq] at h
  have h1 := h.1
  have h2 := h.2
  simp [IntKind.min, IntKind.max, IntKind.bits, IntKind.signed] at h1 h2
  omega
theorem wf_u32 {n : Int} (h : (Lit.int .u32 n).wf = true) : 0 ≤ n ∧ n < 4294967296 := by
  simp only [Lit.wf, Bool.and_eq_true, decide_eq_true_eq] at h
  have h1 := h.1
  have h2 := h.2
  simp [IntKind.min, IntKind.max, IntKind.bits, IntKind.signed] at h1 h2
  omega
theorem wf_u64 {n : Int} (h : (Lit.int .u64 n).wf = true) : 0 ≤ n ∧ n < 18446744073709551616 := by
  simp only [Lit.wf, Bool.and_eq_true, decide_eq_true_eq] at h
  have h1 := h.1
  have h2 := h.2
  simp [IntKind.min, IntKind.max, IntKind.bits, IntKind.signed] at h1 h2
  omega

section
variable {H : Type} {enc : TypeId × Value → H} {P : Program}
theorem okWide_array' {n : Nat} {e t : TypeId} {w : World} {r : Reach} {base : Nat} {v : Value} (ht : P.underlying t = some (.array n e)) (h : Value.okWide P w r base t v) : ∃ cs, v = .agg cs ∧ cs.size = P.cellsOf t := by
  simp only [Value.okWide, ht] at h
  obtain ⟨cs, h1, h2, _⟩ := h
  exact ⟨cs, h1, h2⟩
/-- An array by value, opened: its cells are integers; it reads the same in every world. -/
theorem open_array {m n : Nat} {e t : TypeId} {ks : List IntKind} (hk : kindsOf P m t = some ks) (hs : P.underlying t = some (.array n e)) {w : World} {base b0 : Nat} {sp : Nat → Bool} {held : Bool} {r : Reach} {v : Value} {d : DataW H} {p : List MemPlace}
    (hv : Value.okWide P w r b0 t v) (h : DataW.Trod enc P w base sp held t v d p) :
    p = [] ∧ (∃ l : List (IntKind × Int), l.map (·.1) = ks ∧ v = .agg (l.map toV).toArray ∧ ∀ p ∈ l, (Lit.int p.1 p.2).wf = true) ∧ ∀ (w' : World) (base' : Nat) (sp' : Nat → Bool) (held' : Bool), DataW.Trod enc P w' base' sp' held' t v d [] := by
  obtain ⟨cs, rfl, hsz⟩ := okWide_array' hs hv
  obtain ⟨fuel, hf⟩ := h
  obtain ⟨h1, ⟨l, e1, e2, e3⟩, h3⟩ := plain_trod m t ks hk w base sp held fuel _ _ hf
  simp only at h1
  subst h1
  refine ⟨rfl, ⟨l, e1, ?_, e3⟩, fun w' base' sp' held' => ⟨fuel, h3 w' base' sp' held'⟩⟩
  have e4 : cs.toList = l.map toV := e2
  rw [← e4]
theorem one_kind {k : IntKind} : ∀ {m : Nat} {l : List (IntKind × Int)}, l.map (·.1) = List.replicate m k → ∃ ps : List Int, ps.length = m ∧ l = ps.map (fun n => (k, n))
  | 0, l, h => by
    have : l = [] := by simpa using h
    subst this
    exact ⟨[], rfl, rfl⟩
  | m + 1, [], h => by simp [List.replicate_succ] at h
  | m + 1, p :: l, h => by
    rw [List.replicate_succ, List.map_cons, List.cons.injEq] at h
    obtain ⟨ps, h1, rfl⟩ := one_kind h.2
    obtain ⟨k', n⟩ := p
    have e : k' = k := h.1
    subst e
    exact ⟨n :: ps, by simp [h1], rfl⟩
/-- An array of integers of one kind. -/
theorem open_one {m n c : Nat} {k : IntKind} {e t : TypeId} (hk : kindsOf P m t = some (List.replicate c k)) (hs : P.underlying t = some (.array n e)) {w : World} {base b0 : Nat} {sp : Nat → Bool} {held : Bool} {r : Reach} {v : Value} {d : DataW H} {p : List MemPlace}
    (hv : Value.okWide P w r b0 t v) (h : DataW.Trod enc P w base sp held t v d p) :
    p = [] ∧ (∃ ps : List Int, ps.length = c ∧ v = .agg (ps.map (Value.int k)).toArray ∧ ∀ n ∈ ps, (Lit.int k n).wf = true) ∧ ∀ (w' : World) (base' : Nat) (sp' : Nat → Bool) (held' : Bool), DataW.Trod enc P w' base' sp' held' t v d [] := by
  obtain ⟨h1, ⟨l, e1, e2, e3⟩, h3⟩ := open_array hk hs hv h
  obtain ⟨ps, g1, rfl⟩ := one_kind e1
  refine ⟨h1, ⟨ps, g1, ?_, fun n hn => e3 (k, n) (List.mem_map.2 ⟨n, hn, rfl⟩)⟩, h3⟩
  rw [e2, List.map_map]
  rfl
end

theorem kinds_Two : kindsOf Tryz.prog 8 32 = some [.i64, .i64, .i64, .i64, .i64, .i64, .i64, .i64, .i64, .i64, .i64, .i64, .i64, .u8, .u32, .i64, .u8, .u32, .i64, .u8, .u32, .i64, .u8, .u32, .i64, .u8, .u32, .i64, .u8, .u32] := by kernel_rfl
theorem kinds_Span6 : kindsOf Tryz.prog 8 23 = some [.i64, .i64] := by kernel_rfl
theorem kinds_Dr6 : kindsOf Tryz.prog 8 28 = some [.i64, .u8, .u32] := by kernel_rfl
end Go.Proofs.YtmnccbhlllnlbaaGreat
