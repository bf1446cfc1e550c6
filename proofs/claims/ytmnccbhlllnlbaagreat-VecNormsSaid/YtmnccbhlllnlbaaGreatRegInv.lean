/- A rule for a region that draws its order: an invariant over what has come up, the slots and the world; one proof an operation, whatever the order. -/
import Derived.Orders
import Derived.Laws.World
namespace Mnc
open Go

def upB (L : Nat → Bool) (i : Nat) : Nat → Bool := fun j => Nat.beq j i || L j
def upV (s : Nat → Value) (d : Option Tmp) (v : Value) : Nat → Value := match d with
  | none => s
  | some d => fun t => cond (Nat.beq t d) v (s t)
def evS (s : Nat → Value) : Operand → Value
  | .tmp t => s t
  | .const v => v
  | .global g => .pointer (some ⟨g, 0, none⟩)
  | .func f => .func (.func f) #[] #[]
def actS (N : Nat) (s : Nat → Value) (ds : List Deferred) : Act := ⟨((List.range N).map s).toArray, ds⟩
def yieldS (ops : Array Oper) (s : Nat → Value) (j : Nat) : Option Bool := match (ops[j]?).bind (·.dst) with
  | some d => match s d with
    | .bool b => some b
    | _ => none
  | none => none
/-- Behind a call: it returned, and what follows holds of its value. -/
def RetS (K : Value → World → Prop) (e : Ending) (w : World) : Prop := ∃ v, e = .returned v ∧ K v w
theorem RetS.mk {K : Value → World → Prop} {v : Value} {w : World} (h : K v w) : RetS K (.returned v) w := ⟨v, rfl, h⟩
def RunS (P : Program) (K : Value → World → Prop) : Result Next → Prop
  | .ok (.value v) w' => K v w'
  | .ok .skip w' => K undef w'
  | .ok (.enter f args) w' => Calls P f args w' (RetS K)
  | .ok (.row row args) w' => Rows P row args w' K
  | _ => False
def StepS (P : Program) (ops : Array Oper) (o : Oper) (s : Nat → Value) (w : World) (K : Value → World → Prop) : Prop :=
  (Region.wanted o (yieldS ops s) = true ∧ RunS P K ((execOp (evS s) o).run P w)) ∨ (Region.wanted o (yieldS ops s) = false ∧ K undef w)
section
variable {P : Program} {ops : Array Oper} {o : Oper} {s : Nat → Value} {w w' : World} {K : Value → World → Prop}
theorem RunS_value (v : Value) : RunS P K (.ok (.value v) w) = K v w := rfl
theorem RunS_skip : RunS P K (.ok .skip w) = K undef w := rfl
theorem RunS_enter (f : FuncId) (args : Array Value) : RunS P K (.ok (.enter f args) w) = Calls P f args w (RetS K) := rfl
theorem evS_tmp (t : Nat) : evS s (.tmp t) = s t := rfl
theorem evS_const (v : Value) : evS s (.const v) = v := rfl
theorem evS_global (g : Nat) : evS s (.global g) = .pointer (some ⟨g, 0, none⟩) := rfl
theorem evS_func (f : Nat) : evS s (.func f) = .func (.func f) #[] #[] := rfl
/-- An operation that is carried out. -/
theorem stepS {K0 : Value → World → Prop} (hw : Region.wanted o (yieldS ops s) = true) (h : ∀ K : Value → World → Prop, (∀ v w', K0 v w' → K v w') → RunS P K ((execOp (evS s) o).run P w)) : StepS P ops o s w K0 :=
  Or.inl ⟨hw, h K0 fun _ _ h => h⟩
/-- One that its guard passes over. -/
theorem stepS_not {K0 : Value → World → Prop} (hw : Region.wanted o (yieldS ops s) = false) (h : K0 undef w) : StepS P ops o s w K0 := Or.inr ⟨hw, h⟩
end
def AfterL : List Edge → (Nat → Bool) → Prop
  | [], _ => True
  | e :: l, L => (match Region.binds .any e with
    | true => L e.on = true
    | false => True) ∧ AfterL l L
theorem afterL_of {L : Nat → Bool} : ∀ {l : List Edge}, (∀ e ∈ l, Region.binds .any e = true → L e.on = true) → AfterL l L
  | [], _ => trivial
  | e :: l, h => ⟨by
      cases hb : Region.binds .any e
      · trivial
      · exact h e (by simp) hb, afterL_of fun x hx => h x (by simp [hx])⟩
/-- What no operation of the region writes is as it was. -/
def KeepS (ops : Array Oper) (s0 s : Nat → Value) : Prop := ∀ t, (ops.toList.any fun o => o.dst == some t) = false → s t = s0 t
def AllS (P : Program) (ops : Array Oper) (s0 : Nat → Value) (I : (Nat → Bool) → (Nat → Value) → World → Prop) : List Oper → Nat → Prop
  | [], _ => True
  | o :: l, k => (∀ L s w, I L s w → KeepS ops s0 s → AfterL o.after.toList L → L k = false → StepS P ops o s w (fun v w' => I (upB L k) (upV s o.dst v) w')) ∧ AllS P ops s0 I l (k + 1)
section
variable {P : Program} {ops : Array Oper} {s0 : Nat → Value} {I : (Nat → Bool) → (Nat → Value) → World → Prop} {N : Nat} {ds : List Deferred} {Q : Exit → Act → World → Prop}
theorem AllS.nil {k : Nat} : AllS P ops s0 I [] k := trivial
theorem AllS.cons {o : Oper} {l : List Oper} {k : Nat} (h : ∀ L s w, I L s w → KeepS ops s0 s → AfterL o.after.toList L → L k = false → StepS P ops o s w (fun v w' => I (upB L k) (upV s o.dst v) w'))
    (t : AllS P ops s0 I l (k + 1)) : AllS P ops s0 I (o :: l) k := ⟨h, t⟩
theorem AllS.at {l : List Oper} {k i : Nat} {o : Oper} (h : AllS P ops s0 I l k) (hi : l[i]? = some o) :
    ∀ L s w, I L s w → KeepS ops s0 s → AfterL o.after.toList L → L (k + i) = false → StepS P ops o s w (fun v w' => I (upB L (k + i)) (upV s o.dst v) w') := by
  induction l generalizing k i with
  | nil => simp at hi
  | cons x l ih =>
    cases i with
    | zero =>
      obtain rfl : x = o := by simpa using hi
      exact h.1
    | succ i =>
      have := ih h.2 (i := i) (by simpa using hi)
      rw [show k + (i + 1) = k + 1 + i by omega]
      exact this
/-- What is looked at and written lies in the frame; nobody waits for a later one; no select, no defer. -/
def okOp (N : Nat) (i : Nat) (o : Oper) : Bool :=
  (o.op.operands.toList.all fun | .tmp t => decide (t < N) | _ => true) && (match o.dst with
    | some d => decide (d < N)
    | none => true) && (o.after.toList.all fun e => !Region.binds .any e || decide (e.on < i)) && (match o.op with
    | .select _ _ => false
    | .defer _ => false
    | _ => true)
def okOps (N : Nat) : List Oper → Nat → Bool
  | [], _ => true
  | o :: l, i => okOp N i o && okOps N l (i + 1)
theorem okOps_at {l : List Oper} {k i : Nat} {o : Oper} (h : okOps N l k = true) (hi : l[i]? = some o) : okOp N (k + i) o = true := by
  induction l generalizing k i with
  | nil => simp at hi
  | cons x l ih =>
    simp only [okOps, Bool.and_eq_true] at h
    cases i with
    | zero =>
      obtain rfl : x = o := by simpa using hi
      exact h.1
    | succ i =>
      have := ih h.2 (i := i) (by simpa using hi)
      rw [show k + (i + 1) = k + 1 + i by omega]
      exact this
theorem actS_at {s : Nat → Value} {t : Nat} (h : t < N) : (actS N s ds).tmps[t]? = some (s t) := by
  simp [actS, h]
theorem actS_eval {s : Nat → Value} {x : Operand} (h : ∀ t, x = .tmp t → t < N) : (actS N s ds).eval x = evS s x := by
  cases x with
  | tmp t =>
    have := actS_at (N := N) (ds := ds) (s := s) (h t rfl)
    simp only [Act.eval, evS]
    simp [actS, h t rfl]
  | const v => rfl
  | global g => rfl
  | func f => rfl
theorem actS_put {s : Nat → Value} {d : Option Tmp} {v : Value} (h : ∀ t, d = some t → t < N) : (actS N s ds).put d v = actS N (upV s d v) ds := by
  cases d with
  | none => rfl
  | some d =>
    have hd := h d rfl
    simp only [Act.put, actS, upV, Act.mk.injEq, and_true]
    apply Array.ext
    · simp
    · intro i h1 h2
      have hi : i < N := by simpa using h2
      simp only [List.getElem_toArray, List.getElem_map, List.getElem_range]
      by_cases hid : d = i
      · subst hid
        simp
      · have : Nat.beq i d = false := by
          cases hb : Nat.beq i d
          · rfl
          · exact absurd (Nat.eq_of_beq_eq_true hb).symm hid
        simp [hid, this]
theorem actS_yield {s : Nat → Value} (hk : okOps N ops.toList 0 = true) : yielded ops (actS N s ds).tmps = yieldS ops s := by
  funext j
  unfold yielded yieldS
  cases ho : ops[j]? with
  | none => rfl
  | some o =>
    have h1 := okOps_at hk (i := j) (o := o) (by simpa using ho)
    simp only [okOp, Bool.and_eq_true] at h1
    cases hd : o.dst with
    | none => simp [hd]
    | some d =>
      have h2 := h1.1.1.2
      simp only [hd, decide_eq_true_eq] at h2
      simp only [Option.bind_some, hd, actS_at h2]
      cases s d <;> rfl
theorem upB_of {listed : Array Bool} {i : Nat} (h : i < listed.size) : (fun j => (listed.setIfInBounds i true).getD j false) = upB (fun j => listed.getD j false) i := by
  funext j
  unfold upB
  by_cases hij : j = i
  · subst hij
    have hb : Nat.beq j j = true := Nat.beq_refl j
    rw [hb]
    simp [h]
  · have hb : Nat.beq j i = false := by
      cases hb : Nat.beq j i
      · rfl
      · exact absurd (Nat.eq_of_beq_eq_true hb) hij
    rw [getD_set_ne false (Ne.symm hij), hb, Bool.false_or]
theorem count_set {l : List Bool} {i : Nat} (h : l[i]? = some false) : (l.set i true).count false + 1 = l.count false := by
  induction l generalizing i with
  | nil => simp at h
  | cons x l ih =>
    cases i with
    | zero =>
      obtain rfl : x = false := by simpa using h
      simp
    | succ i =>
      have := ih (i := i) (by simpa using h)
      cases x <;> simp <;> omega
theorem all_listed {listed : Array Bool} (hk : okOps N ops.toList 0 = true) (hz : listed.size = ops.size) (h : Region.ready .any ops listed = []) : ∀ i, i < ops.size → listed.getD i false = true := by
  intro i
  induction i using Nat.strongRecOn with
  | _ i ih =>
    intro hi
    cases hl : listed.getD i false with
    | true => rfl
    | false =>
      exfalso
      have ho : ops[i]? = some ops[i] := by simp [hi]
      have : i ∈ Region.ready .any ops listed := by
        refine mem_ready.2 ⟨?_, ops[i], ho, fun e he hb => ?_⟩
        · have : i < listed.size := by omega
          simp [this] at hl ⊢
          exact hl
        · have h1 := okOps_at hk (i := i) (o := ops[i]) (by simp [hi])
          simp only [okOp, Bool.and_eq_true, List.all_eq_true, Bool.or_eq_true, Bool.not_eq_true', decide_eq_true_eq] at h1
          have h2 := (h1.1.2 e (by simpa using he)).resolve_left (by rw [hb]; exact Bool.noConfusion)
          exact ih e.on (by omega) (by omega)
      rw [h] at this
      cases this
theorem keepS_put {s : Nat → Value} {i : Nat} {o : Oper} {v : Value} (h : KeepS ops s0 s) (ho : ops[i]? = some o) : KeepS ops s0 (upV s o.dst v) := by
  intro t ht
  rw [← h t ht]
  cases hd : o.dst with
  | none => rfl
  | some d =>
    have h1 := List.any_eq_false.1 ht o (by simpa using Array.mem_of_getElem? ho)
    rw [hd] at h1
    have hne : t ≠ d := fun e => h1 (by simp [e])
    have : Nat.beq t d = false := by
      cases hb : Nat.beq t d
      · rfl
      · exact absurd (Nat.eq_of_beq_eq_true hb) hne
    simp only [upV, this, cond_false]
theorem wpAny_inv (hk : okOps N ops.toList 0 = true) (hs : AllS P ops s0 I ops.toList 0)
    (hQ : ∀ L s w, I L s w → KeepS ops s0 s → (∀ i, i < ops.size → L i = true) → Q .normal (actS N s ds) w) :
    ∀ (fuel : Nat) (listed : Array Bool) (s : Nat → Value) (w : World), listed.size = ops.size → listed.toList.count false ≤ fuel → I (fun j => listed.getD j false) s w → KeepS ops s0 s →
      wpAny P .any ops Q fuel listed (actS N s ds) w := by
  intro fuel
  induction fuel with
  | zero =>
    intro listed s w hz hc hI hkp
    have hr : Region.ready .any ops listed = [] := by
      cases hr : Region.ready .any ops listed with
      | nil => rfl
      | cons i l =>
        exfalso
        have hi : i ∈ Region.ready .any ops listed := by rw [hr]; simp
        have h0 := (mem_ready.1 hi).1
        have hlt : i < listed.size := by
          rcases Nat.lt_or_ge i listed.size with h' | h'
          · exact h'
          · simp [Array.getElem?_eq_none h'] at h0
        have : listed.toList[i]? = some false := by
          simp [hlt] at h0 ⊢
          exact h0
        have := List.count_pos_iff.2 (List.mem_of_getElem? this)
        omega
    exact ⟨hr, hQ _ _ _ hI hkp (all_listed hk hz hr)⟩
  | succ fuel ih =>
    intro listed s w hz hc hI hkp
    refine ⟨fun hr => hQ _ _ _ hI hkp (all_listed hk hz hr), fun i hi => ?_⟩
    obtain ⟨h0, o, ho, haf⟩ := mem_ready.1 hi
    have hlt : i < listed.size := by
      rcases Nat.lt_or_ge i listed.size with h' | h'
      · exact h'
      · simp [Array.getElem?_eq_none h'] at h0
    have hli : listed.toList[i]? = some false := by
      simp [hlt] at h0 ⊢
      exact h0
    have hcount := count_set hli
    have hok := okOps_at hk (i := i) (o := o) (by simpa using ho)
    simp only [okOp, Bool.and_eq_true, List.all_eq_true] at hok
    obtain ⟨⟨⟨hrd, hdst⟩, -⟩, hkind⟩ := hok
    have hdst' : ∀ t, o.dst = some t → t < N := fun t ht => by
      rw [ht] at hdst
      simpa using hdst
    have hev : execOp (actS N s ds).eval o = execOp (evS s) o := by
      refine execOp_congr o (fun cs b hb => ?_) fun x hx => actS_eval fun t ht => ?_
      · rw [hb] at hkind; cases hkind
      · have := hrd x (by simpa using hx)
        rw [ht] at this
        simpa using this
    have hst := hs.at (i := i) (o := o) (by simpa using ho) (fun j => listed.getD j false) s w hI hkp (afterL_of fun e he hb => haf e (by simpa using he) hb) (by
      rw [Nat.zero_add]
      simp [hlt] at h0 ⊢
      exact h0)
    rw [Nat.zero_add] at hst
    have next : ∀ v w', I (upB (fun j => listed.getD j false) i) (upV s o.dst v) w' → wpAny P .any ops Q fuel (listed.setIfInBounds i true) ((actS N s ds).put o.dst v) w' := by
      intro v w' h
      rw [actS_put hdst']
      refine ih _ _ _ (by simpa using hz) ?_ ?_ (keepS_put hkp ho)
      · have : (listed.setIfInBounds i true).toList = listed.toList.set i true := by simp
        rw [this]
        omega
      · rw [upB_of hlt]
        exact h
    unfold wpOp
    simp only [ho]
    rw [actS_yield hk]
    rcases hst with ⟨hw, hrun⟩ | ⟨hw, hK⟩
    · rw [if_pos hw]
      refine Or.inl ?_
      unfold Oper.wp
      rw [hev]
      generalize (execOp (evS s) o).run P w = r at *
      cases r with
      | ok n w' =>
        cases n <;> simp only [RunS] at hrun <;> simp only [Oper.upon]
        case value v => exact next _ _ hrun
        case skip => exact next _ _ hrun
        case enter f args =>
          refine Calls.mono hrun ?_
          rintro e w'' ⟨v, rfl, h⟩
          exact next _ _ h
        case row row args => exact hrun.mono fun v w'' h => next _ _ h
      | halt x w' => cases x <;> simp only [RunS] at hrun
    · rw [if_neg (by rw [hw]; exact Bool.false_ne_true)]
      exact next _ _ hK
/-- **A region that draws its order, by an invariant.** -/
theorem wp_region_inv {id : Nat} {l : List Value} {w : World} (I : (Nat → Bool) → (Nat → Value) → World → Prop) (hm : P.follows .mixedOrders = true) (hk : okOps l.length ops.toList 0 = true)
    (h0 : I (fun _ => false) (fun t => l.getD t undef) w.drew) (hs : AllS P ops (fun t => l.getD t undef) I ops.toList 0)
    (hQ : ∀ L s w, I L s w → KeepS ops (fun t => l.getD t undef) s → (∀ i, i < ops.size → L i = true) → Q .normal (actS l.length s ds) w) : (Code.region id ops true).wp P Q ⟨l.toArray, ds⟩ w := by
  refine wp_region_any hm ?_
  have ha : (⟨l.toArray, ds⟩ : Act) = actS l.length (fun t => l.getD t undef) ds := by
    simp only [actS, Act.mk.injEq, and_true]
    apply Array.ext
    · simp
    · intro i h1 h2
      have : i < l.length := by simpa using h1
      simp [this]
  rw [ha]
  refine wpAny_inv hk hs hQ _ _ _ _ (by simp) (by simp) ?_ (fun _ _ => rfl)
  have : (fun j => (Array.replicate ops.size false).getD j false) = fun _ => false := by
    funext j
    by_cases h : j < ops.size <;> simp [h]
  rw [this]
  exact h0
end
end Mnc
