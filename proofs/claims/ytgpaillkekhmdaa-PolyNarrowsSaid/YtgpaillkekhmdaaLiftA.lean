/- Arguments that are arrays, by value, of integers of one kind: opened. -/
import Derived.Test.YtgpaillkekhmdaaLiftM
namespace Go.Proofs.Ytgpaillkekhmdaa
open Go.ChangeShapes Go.WideShapes Go.ChangeAt Go.RowKit Go.Deep Mnc
section
variable {H : Type} {enc : TypeId × Value → H} {P : Program}
theorem okWide_array' {n : Nat} {e t : TypeId} {w : World} {r : Reach} {base : Nat} {v : Value} (ht : P.underlying t = some (.array n e)) (h : Value.okWide P w r base t v) : ∃ cs, v = .agg cs ∧ cs.size = P.cellsOf t := by
  simp only [Value.okWide, ht] at h
  obtain ⟨cs, h1, h2, _⟩ := h
  exact ⟨cs, h1, h2⟩
/-- An array by value, opened: its cells are integers; it reads the same in every world. -/
theorem open_array {m n : Nat} {e t : TypeId} {ks : List IntKind} (hk : kindsOf P m t = some ks) (hs : P.underlying t = some (.array n e)) {w : World} {base b0 : Nat} {sp : Nat → Bool} {held : Bool} {r : Reach} {v : Value} {d : DataW H} {p : List MemPlace}
    (hv : Value.okWide P w r b0 t v) (h : DataW.Trod enc P w base sp held t v d p) :
    p = [] ∧ (∃ l : List (IntKind × Int), l.map (·.1) = ks ∧ v = .agg (l.map toV).toArray ∧ ∀ p ∈ l, (Lit.int p.1 p.2).wf = true) ∧ ∀ (w' : World) (base' : Nat) (sp' : Nat → Bool) (held' : Bool), DataW.Trod enc P w' base' sp' held' t v d [] := by
  obtain ⟨cs, rfl, hsz⟩ := okWide_array' hs hv
  obtain ⟨fuel, hf⟩ := h
  obtain ⟨h1, ⟨l, e1, e2, e3⟩, h3⟩ := plain_trod m t ks hk w base sp held fuel _ _ hf
  simp only at h1
  subst h1
  refine ⟨rfl, ⟨l, e1, ?_, e3⟩, fun w' base' sp' held' => ⟨fuel, h3 w' base' sp' held'⟩⟩
  have e4 : cs.toList = l.map toV := e2
  rw [← e4]
theorem one_kind {k : IntKind} : ∀ {m : Nat} {l : List (IntKind × Int)}, l.map (·.1) = List.replicate m k → ∃ ps : List Int, ps.length = m ∧ l = ps.map (fun n => (k, n))
  | 0, l, h => by
    have : l = [] := by simpa using h
    subst this
    exact ⟨[], rfl, rfl⟩
  | m + 1, [], h => by simp [List.replicate_succ] at h
  | m + 1, p :: l, h => by
    rw [List.replicate_succ, List.map_cons, List.cons.injEq] at h
    obtain ⟨ps, h1, rfl⟩ := one_kind h.2
    obtain ⟨k', n⟩ := p
    have e : k' = k := h.1
    subst e
    exact ⟨n :: ps, by simp [h1], rfl⟩
/-- An array of integers of one kind. -/
theorem open_one {m n c : Nat} {k : IntKind} {e t : TypeId} (hk : kindsOf P m t = some (List.replicate c k)) (hs : P.underlying t = some (.array n e)) {w : World} {base b0 : Nat} {sp : Nat → Bool} {held : Bool} {r : Reach} {v : Value} {d : DataW H} {p : List MemPlace}
    (hv : Value.okWide P w r b0 t v) (h : DataW.Trod enc P w base sp held t v d p) :
    p = [] ∧ (∃ ps : List Int, ps.length = c ∧ v = .agg (ps.map (Value.int k)).toArray ∧ ∀ n ∈ ps, (Lit.int k n).wf = true) ∧ ∀ (w' : World) (base' : Nat) (sp' : Nat → Bool) (held' : Bool), DataW.Trod enc P w' base' sp' held' t v d [] := by
  obtain ⟨h1, ⟨l, e1, e2, e3⟩, h3⟩ := open_array hk hs hv h
  obtain ⟨ps, g1, rfl⟩ := one_kind e1
  refine ⟨h1, ⟨ps, g1, ?_, fun n hn => e3 (k, n) (List.mem_map.2 ⟨n, hn, rfl⟩)⟩, h3⟩
  rw [e2, List.map_map]
  rfl
end
end Go.Proofs.Ytgpaillkekhmdaa
