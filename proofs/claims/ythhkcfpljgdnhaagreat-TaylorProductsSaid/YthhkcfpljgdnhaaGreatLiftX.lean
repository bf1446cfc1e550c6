/- Plain data by value: a struct or an array, at any depth, of integers alone: its cells, and that its reading does not depend on the world. -/
import Derived.Test.YthhkcfpljgdnhaaGreatProg
import Derived.DeepKeys2
import Derived.ProofKit
import Derived.OpenShut
import Derived.Lib.SmallJoins
import Derived.Test.YthhkcfpljgdnhaaGreatRows
import Derived.ChangeSame
import Derived.ChangeVars
import Derived.Carry
import Derived.Deep.Slices
namespace Go.Proofs.YthhkcfpljgdnhaaGreat
open Go.ChangeShapes Go.WideShapes Go.RowKit Go.Joins

/-- The kinds of the cells of a plain type, in order. -/
def kindsOf (P : Program) : Nat → TypeId → Option (List IntKind)
 | 0, _ => none
 | m + 1, t =>
  match P.underlying t with
  | some (.int k) => some [k]
  | some (.array n e) => if P.cellsOf t = n * P.cellsOf e then (kindsOf P m e).map fun ks => ((List.range n).map fun _ => ks).flatten else none
  | some (.struct fs) => if P.runs 0 fs.toList = some (P.cellsOf t) then (fs.toList.mapM fun f => kindsOf P m f.type).map List.flatten else none
  | _ => none

def toV (p : IntKind × Int) : Value := .int p.1 p.2
def Cells (ks : List IntKind) (cs : List Value) : Prop := ∃ l : List (IntKind × Int), l.map (·.1) = ks ∧ cs = l.map toV ∧ ∀ p ∈ l, (Lit.int p.1 p.2).wf = true

theorem Cells.append {ks ks' : List IntKind} {cs cs' : List Value} (h : Cells ks cs) (h' : Cells ks' cs') : Cells (ks ++ ks') (cs ++ cs') := by
 obtain ⟨l, h1, h2, h3⟩ := h
 obtain ⟨l', h1', h2', h3'⟩ := h'
 refine ⟨l ++ l', by simp [h1, h1'], by simp [h2, h2'], fun p hp => ?_⟩
 rcases List.mem_append.1 hp with k | k
 ·exact h3 p k
 ·exact h3' p k

theorem gather {α : Type} {ch : α → List Value} {kk : α → List IntKind} : ∀ {L : List α}, (∀ x ∈ L, Cells (kk x) (ch x)) → Cells (L.map kk).flatten (L.map ch).flatten
 | [], _ => ⟨[], rfl, rfl, fun _ h => by cases h⟩
 | x :: L, h => by
  rw [List.map_cons, List.map_cons, List.flatten_cons, List.flatten_cons]
  exact (h x (by simp)).append (gather fun y hy => h y (by simp [hy]))

theorem mapM_to {α β : Type} {f g : α → Option β} : ∀ {L : List α} {xs : List β}, L.mapM f = some xs → (∀ x ∈ L, ∀ y, f x = some y → g x = some y) → L.mapM g = some xs
 | [], xs, h, _ => h
 | x :: L, xs, h, hall => by
  rw [List.mapM_cons] at h ⊢
  simp only [bind, Option.bind_eq_some_iff, pure, Option.some.injEq] at h ⊢
  obtain ⟨a, ha, as', has, rfl⟩ := h
  exact ⟨a, hall x (by simp) a ha, as', mapM_to has (fun y hy => hall y (by simp [hy])), rfl⟩

theorem mapM_has {α β : Type} {f : α → Option β} : ∀ {L : List α} {xs : List β}, L.mapM f = some xs → (∀ x ∈ L, ∃ y ∈ xs, f x = some y) ∧ ∀ y ∈ xs, ∃ x ∈ L, f x = some y
 | [], xs, h => by
  simp at h
  subst h
  exact ⟨fun _ h => (by cases h), fun _ h => by cases h⟩
 | x :: L, xs, h => by
  rw [List.mapM_cons] at h
  simp only [bind, Option.bind_eq_some_iff, pure, Option.some.injEq] at h
  obtain ⟨a, ha, as', has, rfl⟩ := h
  obtain ⟨i1, i2⟩ := mapM_has has
  constructor
  ·intro y hy
   rcases List.mem_cons.1 hy with rfl | hy
   ·exact ⟨a, by simp, ha⟩
   ·obtain ⟨z, hz, e⟩ := i1 y hy
    exact ⟨z, by simp [hz], e⟩
  ·intro y hy
   rcases List.mem_cons.1 hy with rfl | hy
   ·exact ⟨x, by simp, ha⟩
   ·obtain ⟨z, hz, e⟩ := i2 y hy
    exact ⟨z, by simp [hz], e⟩

theorem mapM_kinds {α : Type} {f : α → Option (List IntKind)} : ∀ {L : List α} {kss : List (List IntKind)}, L.mapM f = some kss → kss = L.map fun x => (f x).getD []
 | [], kss, h => by simp at h; subst h; rfl
 | x :: L, kss, h => by
  rw [List.mapM_cons] at h
  simp only [bind, Option.bind_eq_some_iff, pure, Option.some.injEq] at h
  obtain ⟨a, ha, as', has, rfl⟩ := h
  rw [List.map_cons, ha, mapM_kinds has]
  rfl

section
variable {H : Type} {enc : TypeId × Value → H} {P : Program}

theorem plain_trod : ∀ (m : Nat) (t : TypeId) (ks : List IntKind), kindsOf P m t = some ks → ∀ (w : World) (base : Nat) (sp : Nat → Bool) (held : Bool) (f : Nat) (cs : List Value) (x : DataW H × List MemPlace), DataW.trod enc P w base sp held f t cs = some x →
  x.2 = [] ∧ Cells ks cs ∧ ∀ (w' : World) (base' : Nat) (sp' : Nat → Bool) (held' : Bool), DataW.trod enc P w' base' sp' held' f t cs = some x
 | 0, _, _, h => by simp [kindsOf] at h
 | m + 1, t, ks, hk => by
  intro w base sp held f cs x h
  unfold kindsOf at hk
  cases f with
  | zero => simp [DataW.trod] at h
  | succ f =>
   cases hu : P.underlying t with
   | none => simp [hu] at hk
   | some kd =>
    cases kd
    case int k =>
     simp only [hu, Option.some.injEq] at hk
     subst hk
     obtain ⟨n, rfl, rfl, hw⟩ := DataW.trod_int hu h
     refine ⟨rfl, ⟨[(k, n)], rfl, rfl, fun p hp => ?_⟩, fun w' base' sp' held' => ?_⟩
     ·rw [List.mem_singleton] at hp
      subst hp
      exact hw
     ·simp [DataW.trod, hu, hw]
    case array n e =>
     simp only [hu] at hk
     split at hk
     ·rename_i hc
      obtain ⟨ks', hk', rfl⟩ := Option.map_eq_some_iff.1 hk
      unfold DataW.trod at h
      simp only [hu] at h
      split at h
      ·rename_i hl
       obtain ⟨xs, hxs, rfl⟩ := Option.map_eq_some_iff.1 h
       obtain ⟨g1, g2⟩ := mapM_has hxs
       have ih := fun i (_ : i ∈ List.range n) y (hy : DataW.trod enc P w base sp held f e ((cs.drop (i * P.cellsOf e)).take (P.cellsOf e)) = some y) => plain_trod m e ks' hk' w base sp held f _ y hy
       refine ⟨?_, ?_, fun w' base' sp' held' => ?_⟩
       ·show xs.flatMap (·.2) = []
        rw [List.flatMap_eq_nil_iff]
        intro y hy
        obtain ⟨i, hi, e1⟩ := g2 y hy
        exact (ih i hi y e1).1
       ·have := gather (L := List.range n) (ch := fun i => (cs.drop (i * P.cellsOf e)).take (P.cellsOf e)) (kk := fun _ => ks') (fun i hi => by
         obtain ⟨y, _, e1⟩ := g1 i hi
         exact (ih i hi y e1).2.1)
        rw [chunks_flatten _ n cs (by rw [hl, hc])] at this
        exact this
       ·unfold DataW.trod
        simp only [hu]
        rw [if_pos hl, mapM_to hxs (fun i hi y hy => (ih i hi y hy).2.2 w' base' sp' held')]
        rfl
      ·cases h
     ·cases hk
    case struct fs =>
     simp only [hu] at hk
     split at hk
     ·rename_i hc
      obtain ⟨kss, hk', rfl⟩ := Option.map_eq_some_iff.1 hk
      unfold DataW.trod at h
      simp only [hu] at h
      split at h
      ·rename_i hl
       obtain ⟨xs, hxs, rfl⟩ := Option.map_eq_some_iff.1 h
       obtain ⟨g1, g2⟩ := mapM_has hxs
       obtain ⟨k1, _⟩ := mapM_has hk'
       have ih : ∀ (fd : Field), fd ∈ fs.toList → ∀ y, DataW.trod enc P w base sp held f fd.type ((cs.drop fd.offset).take (P.cellsOf fd.type)) = some y →
         y.2 = [] ∧ Cells ((kindsOf P m fd.type).getD []) ((cs.drop fd.offset).take (P.cellsOf fd.type)) ∧ ∀ (w' : World) (base' : Nat) (sp' : Nat → Bool) (held' : Bool), DataW.trod enc P w' base' sp' held' f fd.type ((cs.drop fd.offset).take (P.cellsOf fd.type)) = some y := by
        intro fd hfd y hy
        obtain ⟨kz, _, e2⟩ := k1 fd hfd
        have h3 := plain_trod m fd.type kz e2 w base sp held f _ y hy
        have e3 : (kindsOf P m fd.type).getD [] = kz := by rw [e2]; rfl
        rw [← e3] at h3
        exact h3
       refine ⟨?_, ?_, fun w' base' sp' held' => ?_⟩
       ·show xs.flatMap (·.2) = []
        rw [List.flatMap_eq_nil_iff]
        intro y hy
        obtain ⟨i, hi, e1⟩ := g2 y hy
        exact (ih i hi y e1).1
       ·have := gather (L := fs.toList) (ch := fun fd : Field => (cs.drop fd.offset).take (P.cellsOf fd.type)) (kk := fun fd : Field => (kindsOf P m fd.type).getD []) (fun fd hfd => by
         obtain ⟨y, _, e1⟩ := g1 fd hfd
         exact (ih fd hfd y e1).2.1)
        rw [fields_flatten cs fs.toList 0 _ hc hl, ← mapM_kinds hk'] at this
        exact this
       ·unfold DataW.trod
        simp only [hu]
        rw [if_pos hl, mapM_to hxs (fun fd hfd y hy => (ih fd hfd y hy).2.2 w' base' sp' held')]
        rfl
      ·cases h
     ·cases hk
    all_goals (simp [hu] at hk; done)

/-- A struct by value, opened: its cells are integers; it reads the same in every world. -/
theorem open_struct {m : Nat} {t : TypeId} {ks : List IntKind} {fs : Array Field} (hk : kindsOf P m t = some ks) (hs : P.underlying t = some (.struct fs)) {w : World} {base b0 : Nat} {sp : Nat → Bool} {held : Bool} {r : Reach} {v : Value} {d : DataW H} {p : List MemPlace}
  (hv : Value.okWide P w r b0 t v) (h : DataW.Trod enc P w base sp held t v d p) :
  p = [] ∧ (∃ l : List (IntKind × Int), l.map (·.1) = ks ∧ v = .agg (l.map toV).toArray ∧ ∀ p ∈ l, (Lit.int p.1 p.2).wf = true) ∧ ∀ (w' : World) (base' : Nat) (sp' : Nat → Bool) (held' : Bool), DataW.Trod enc P w' base' sp' held' t v d [] := by
 obtain ⟨cs, rfl, hsz⟩ := okWide_struct hs hv
 obtain ⟨fuel, hf⟩ := h
 obtain ⟨h1, ⟨l, e1, e2, e3⟩, h3⟩ := plain_trod m t ks hk w base sp held fuel _ _ hf
 simp only at h1
 subst h1
 refine ⟨rfl, ⟨l, e1, ?_, e3⟩, fun w' base' sp' held' => ⟨fuel, h3 w' base' sp' held'⟩⟩
 have e4 : cs.toList = l.map toV := e2
 rw [← e4]

theorem map_cons_inv {k : IntKind} {ks : List IntKind} {l : List (IntKind × Int)} (h : l.map (·.1) = k :: ks) : ∃ (n : Int) (l' : List (IntKind × Int)), l = (k, n) :: l' ∧ l'.map (·.1) = ks := by
 cases l with
 | nil => cases h
 | cons p l' =>
  obtain ⟨k', n⟩ := p
  simp only [List.map_cons, List.cons.injEq] at h
  obtain ⟨rfl, h⟩ := h
  exact ⟨n, l', rfl, h⟩
theorem map_nil_inv {l : List (IntKind × Int)} (h : l.map (·.1) = []) : l = [] := by simpa using h
theorem wf_i64 {n : Int} (h : (Lit.int .i64 n).wf = true) : -9223372036854775808 ≤ n ∧ n ≤ 9223372036854775807 := by
 simp only [Lit.wf, Bool.and_eq_true, decide_eq_true_eq] at h
 exact h
end
end Go.Proofs.YthhkcfpljgdnhaaGreat

/- From a walk to a plain row where no argument is a slice. Printed by wip/genLW.py. -/
namespace Go.Proofs.YthhkcfpljgdnhaaGreat
open Go.ChangeShapes Go.WideShapes Go.ChangeAt Go.RowKit Go.Deep

theorem own : ownKnob Tryz.prog.godebug = none := by kernel_rfl
theorem laidOut : laidOutB Tryz.prog = true := by kernel_rfl

section
variable {H : Type} {enc : TypeId × Value → H} {P : Program}

theorem trodAll_stays (hl : laidOutB P = true) {W W' : World} (hb : Below W.heap.size W W') (sp : Nat → Bool) : ∀ (ts : List TypeId) (vs : List Value) (ds : List (DataW H)) (ps : List MemPlace),
  (∀ t ∈ ts, P.readableRec t = true ∧ t < P.types.size) → DataW.TrodAll enc P W 0 (fun _ => true) true ts vs ds ps → (∀ x ∈ ps, x.block < W.heap.size) → (∀ x ∈ ps, sp x.block = true) → DataW.TrodAll enc P W' 0 sp true ts vs ds ps
 | [], [], [], ps, _, h, _, _ => h
 | t :: ts, v :: vs, d :: ds, ps, ht, h, hlt, hsp => by
  obtain ⟨p, q, h1, h2, rfl⟩ := h
  obtain ⟨r1, r2⟩ := ht t (by simp)
  refine ⟨p, q, WideElems.Trod_stays hl r1 r2 h1 (fun x hx => hb.same (hlt x (by simp [hx]))) (fun x hx => hsp x (by simp [hx])), ?_, rfl⟩
  exact trodAll_stays hl hb sp ts vs ds q (fun x hx => ht x (by simp [hx])) h2 (fun x hx => hlt x (by simp [hx])) (fun x hx => hsp x (by simp [hx]))
 | [], _ :: _, _, _, _, h, _, _ => by cases h
 | [], [], _ :: _, _, _, h, _, _ => by cases h
 | _ :: _, [], _, _, _, h, _, _ => by cases h
 | _ :: _, _ :: _, [], _, _, h, _, _ => by cases h

/-- The last step of a row of which 'Below' alone is known. -/
theorem post_below {f : Func} {s : ChangeSpec} {apart fresh handsOn again : Bool} {W W' : World} {args : Array Value} {v : Value} {ds gs : List (DataW H)} {before pa pv : List MemPlace}
  (hW : DataW.Whole enc P f.params.toList s.vars apart W args.toList ds gs before)
  (hres : ∀ (b : Nat) (sp : Nat → Bool) (hd : Bool), DataW.TrodAll enc P W' b sp hd f.resultTypes.toList (v.resultList f.resultTypes.size) (s.fn H (ds ++ gs)).results [])
  (hargs : ∀ sp : Nat → Bool, (∀ p ∈ before, sp p.block = true) → DataW.TrodAll enc P W' 0 sp true f.params.toList args.toList (s.fn H (ds ++ gs)).args pa)
  (hvars : ∀ sp : Nat → Bool, (∀ p ∈ before, sp p.block = true) → DataW.TrodVars enc P W' sp s.vars (s.fn H (ds ++ gs)).vars pv)
  (hps : before = pa ++ pv) (hb : Below W.heap.size W W')
  (hok : ∀ (j : Nat) (t : TypeId) (r : Value), f.resultTypes[j]? = some t → (v.resultList f.resultTypes.size)[j]? = some r → Value.okWide P W' .any 0 t r) :
  s.post enc P f apart fresh handsOn again W args v W' := by
 have hin : ∀ p ∈ before, p.block < W.heap.size := fun p hp => hW.lt p hp
 have hsp : ∀ p ∈ before, (fun b => decide (b < W.heap.size)) p.block = true := fun p hp => by simpa using hin p hp
 refine ⟨ds, gs, before, [], pa, pv, hW, hres _ _ _, hargs _ hsp, hvars _ hsp, World.keptBut_mono (fun p hp => ⟨hp, ?_⟩) (hb.frame (· ∈ before)), fun _ => ?_⟩
 ·rw [hps, List.mem_append] at hp
  exact Or.inr hp
 ·obtain ⟨_, _, _, _, _, hz, hn⟩ := hW
  refine ⟨hok, _, _, ([] ++ pa) ++ pv, ⟨[] ++ pa, pv, trodAll_append (hargs _ (fun _ _ => rfl)) (hres _ _ _), hvars _ (fun _ _ => rfl), rfl, fun b off hp => ?_, fun ha => ?_⟩, fun p hp _ => ?_⟩
  ·have hi : MemPlace.cell b off ∈ before := by rw [hps]; simpa using hp
   rw [hb.frozen (hin _ hi)]
   exact hz b off hi
  ·have := hn ha
   rw [hps] at this
   simpa using this
  ·rw [hps]
   simpa using hp

end
theorem wf_u8 {n : Int} (h : (Lit.int .u8 n).wf = true) : 0 ≤ n ∧ n < 256 := by
 simp only [Lit.wf, Bool.and_eq_true, decide_eq_true_eq] at h
 have h1 := h.1
 have h2 := h.2
 simp [IntKind.min, IntKind.max, IntKind.bits, IntKind.signed] at h1 h2
 omega
section
variable {H : Type} {enc : TypeId × Value → H} {P : Program}
end

end Go.Proofs.YthhkcfpljgdnhaaGreat
