/- A rule for a region that draws its order: an invariant over what has come up, the slots and the world; one proof an operation, whatever the order. -/
import Derived.Lib.Hide
import Derived.Orders
import Derived.Laws.World
import Derived.RangeFuncLeaves
import Derived.RangeFuncNested
import Derived.OrdersIn
import Derived.RangeFuncCalls
import Derived.Tactics
namespace Mnc
open Go

def upB (L:Nat->Bool) (i:Nat):Nat->Bool:=fun j=>Nat.beq j i || L j
def upV (s:Nat->Value) (d:Option Tmp) (v:Value):Nat->Value:=match d with
 | none=>s
 | some d=>fun t=>cond (Nat.beq t d) v (s t)
def evS (s:Nat->Value):Operand->Value
 | .tmp t=>s t
 | .const v=>v
 | .global g=>.pointer (some ⟨g,0,none⟩)
 | .func f=>.func (.func f) #[] #[]
def actS (N:Nat) (s:Nat->Value) (ds:List Deferred):Act:=⟨((List.range N).map s).toArray,ds⟩
def yieldS (ops:Array Oper) (s:Nat->Value) (j:Nat):Option Bool:=match (ops[j]?).bind (·.dst) with
 | some d=>match s d with
  | .bool b=>some b
  | _=>none
 | none=>none
/-- Behind a call: it returned, and what follows holds of its value. -/
def RetS (K:Value->World->Prop) (e:Ending) (w:World):Prop:=∃v,e=.returned v/\K v w
theorem RetS.mk {K:Value->World->Prop} {v:Value} {w:World} (h:K v w):RetS K (.returned v) w:=⟨v,rfl,h⟩
def RunS (P:Program) (K:Value->World->Prop):Result Next->Prop
 | .ok (.value v) w'=>K v w'
 | .ok .skip w'=>K undef w'
 | .ok (.enter f args) w'=>Calls P f args w' (RetS K)
 | .ok (.row row args) w'=>Rows P row args w' K
 | _=>False
def StepS (P:Program) (ops:Array Oper) (o:Oper) (s:Nat->Value) (w:World) (K:Value->World->Prop):Prop :=
 (Region.wanted o (yieldS ops s)=true/\RunS P K ((execOp (evS s) o).run P w))∨(Region.wanted o (yieldS ops s)=false/\K undef w)
section
variable {P:Program} {ops:Array Oper} {o:Oper} {s:Nat->Value} {w w':World} {K:Value->World->Prop}
theorem RunS_value (v:Value):RunS P K (.ok (.value v) w)=K v w:=rfl
theorem RunS_skip:RunS P K (.ok .skip w)=K undef w:=rfl
theorem RunS_enter (f:FuncId) (args:Array Value):RunS P K (.ok (.enter f args) w)=Calls P f args w (RetS K):=rfl
theorem evS_tmp (t:Nat):evS s (.tmp t)=s t:=rfl
theorem evS_const (v:Value):evS s (.const v)=v:=rfl
theorem evS_global (g:Nat):evS s (.global g)=.pointer (some ⟨g,0,none⟩):=rfl
theorem evS_func (f:Nat):evS s (.func f)=.func (.func f) #[] #[]:=rfl
/-- An operation that is carried out. -/
theorem stepS {K0:Value->World->Prop} (hw:Region.wanted o (yieldS ops s)=true) (h:∀K:Value->World->Prop,(∀v w',K0 v w'->K v w')->RunS P K ((execOp (evS s) o).run P w)):StepS P ops o s w K0 :=
 Or.inl ⟨hw,h K0 fun _ _ h=>h⟩
end
def AfterL:List Edge->(Nat->Bool)->Prop
 | [],_=>True
 | e::l,L=>(match Region.binds .any e with
  | true=>L e.on=true
  | false=>True)/\AfterL l L
theorem afterL_of {L:Nat->Bool}:∀{l:List Edge},(∀e∈l,Region.binds .any e=true->L e.on=true)->AfterL l L
 | [],_=>trivial
 | e::l,h=>⟨by
   cases hb:Region.binds .any e
   ·trivial
   ·exact h e (by simp) hb,afterL_of fun x hx=>h x (by simp [hx])⟩
/-- What no operation of the region writes is as it was. -/
def KeepS (ops:Array Oper) (s0 s:Nat->Value):Prop:=∀t,(ops.toList.any fun o=>o.dst==some t)=false->s t=s0 t
def AllS (P:Program) (ops:Array Oper) (s0:Nat->Value) (I:(Nat->Bool)->(Nat->Value)->World->Prop):List Oper->Nat->Prop
 | [],_=>True
 | o::l,k=>(∀L s w,I L s w->KeepS ops s0 s->AfterL o.after.toList L->L k=false->StepS P ops o s w (fun v w'=>I (upB L k) (upV s o.dst v) w'))/\AllS P ops s0 I l (k+1)
section
variable {P:Program} {ops:Array Oper} {s0:Nat->Value} {I:(Nat->Bool)->(Nat->Value)->World->Prop} {N:Nat} {ds:List Deferred} {Q:Exit->Act->World->Prop}
theorem AllS.nil {k:Nat}:AllS P ops s0 I [] k:=trivial
theorem AllS.cons {o:Oper} {l:List Oper} {k:Nat} (h:∀L s w,I L s w->KeepS ops s0 s->AfterL o.after.toList L->L k=false->StepS P ops o s w (fun v w'=>I (upB L k) (upV s o.dst v) w'))
  (t:AllS P ops s0 I l (k+1)):AllS P ops s0 I (o::l) k:=⟨h,t⟩
theorem AllS.at {l:List Oper} {k i:Nat} {o:Oper} (h:AllS P ops s0 I l k) (hi:l[i]?=some o) :
  ∀L s w,I L s w->KeepS ops s0 s->AfterL o.after.toList L->L (k+i)=false->StepS P ops o s w (fun v w'=>I (upB L (k+i)) (upV s o.dst v) w'):=by
 induction l generalizing k i with
 | nil=>simp at hi
 | cons x l ih =>
  cases i with
  | zero =>
   obtain rfl:x=o:=by simpa using hi
   exact h.1
  | succ i =>
   have:=ih h.2 (i:=i) (by simpa using hi)
   rw [show k+(i+1)=k+1+i by omega]
   exact this
/-- What is looked at and written lies in the frame; nobody waits for a later one; no select, no defer. -/
def okOp (N:Nat) (i:Nat) (o:Oper):Bool :=
 (o.op.operands.toList.all fun | .tmp t=>decide (t<N) | _=>true) && (match o.dst with
  | some d=>decide (d<N)
  | none=>true) && (o.after.toList.all fun e=>!Region.binds .any e || decide (e.on<i)) && (match o.op with
  | .select _ _=>false
  | .defer _=>false
  | _=>true)
def okOps (N:Nat):List Oper->Nat->Bool
 | [],_=>true
 | o::l,i=>okOp N i o && okOps N l (i+1)
theorem okOps_at {l:List Oper} {k i:Nat} {o:Oper} (h:okOps N l k=true) (hi:l[i]?=some o):okOp N (k+i) o=true:=by
 induction l generalizing k i with
 | nil=>simp at hi
 | cons x l ih =>
  simp only [okOps,Bool.and_eq_true] at h
  cases i with
  | zero =>
   obtain rfl:x=o:=by simpa using hi
   exact h.1
  | succ i =>
   have:=ih h.2 (i:=i) (by simpa using hi)
   rw [show k+(i+1)=k+1+i by omega]
   exact this
theorem actS_at {s:Nat->Value} {t:Nat} (h:t<N):(actS N s ds).tmps[t]?=some (s t):=by
 simp [actS,h]
theorem actS_eval {s:Nat->Value} {x:Operand} (h:∀t,x=.tmp t->t<N):(actS N s ds).eval x=evS s x:=by
 cases x with
 | tmp t =>
  have:=actS_at (N:=N) (ds:=ds) (s:=s) (h t rfl)
  simp only [Act.eval,evS]
  simp [actS,h t rfl]
 | const v=>rfl
 | global g=>rfl
 | func f=>rfl
theorem actS_put {s:Nat->Value} {d:Option Tmp} {v:Value} (h:∀t,d=some t->t<N):(actS N s ds).put d v=actS N (upV s d v) ds:=by
 cases d with
 | none=>rfl
 | some d =>
  have hd:=h d rfl
  simp only [Act.put,actS,upV,Act.mk.injEq,and_true]
  apply Array.ext
  ·simp
  ·intro i h1 h2
   have hi:i<N:=by simpa using h2
   simp only [List.getElem_toArray,List.getElem_map,List.getElem_range]
   by_cases hid:d=i
   ·subst hid
    simp
   ·have:Nat.beq i d=false:=by
     cases hb:Nat.beq i d
     ·rfl
     ·exact absurd (Nat.eq_of_beq_eq_true hb).symm hid
    simp [hid,this]
theorem actS_yield {s:Nat->Value} (hk:okOps N ops.toList 0=true):yielded ops (actS N s ds).tmps=yieldS ops s:=by
 funext j
 unfold yielded yieldS
 cases ho:ops[j]? with
 | none=>rfl
 | some o =>
  have h1:=okOps_at hk (i:=j) (o:=o) (by simpa using ho)
  simp only [okOp,Bool.and_eq_true] at h1
  cases hd:o.dst with
  | none=>simp [hd]
  | some d =>
   have h2:=h1.1.1.2
   simp only [hd,decide_eq_true_eq] at h2
   simp only [Option.bind_some,hd,actS_at h2]
   cases s d<;>rfl
theorem upB_of {listed:Array Bool} {i:Nat} (h:i<listed.size):(fun j=>(listed.setIfInBounds i true).getD j false)=upB (fun j=>listed.getD j false) i:=by
 funext j
 unfold upB
 by_cases hij:j=i
 ·subst hij
  have hb:Nat.beq j j=true:=Nat.beq_refl j
  rw [hb]
  simp [h]
 ·have hb:Nat.beq j i=false:=by
   cases hb:Nat.beq j i
   ·rfl
   ·exact absurd (Nat.eq_of_beq_eq_true hb) hij
  rw [getD_set_ne false (Ne.symm hij),hb,Bool.false_or]
theorem count_set {l:List Bool} {i:Nat} (h:l[i]?=some false):(l.set i true).count false+1=l.count false:=by
 induction l generalizing i with
 | nil=>simp at h
 | cons x l ih =>
  cases i with
  | zero =>
   obtain rfl:x=false:=by simpa using h
   simp
  | succ i =>
   have:=ih (i:=i) (by simpa using h)
   cases x<;>simp<;>omega
theorem all_listed {listed:Array Bool} (hk:okOps N ops.toList 0=true) (hz:listed.size=ops.size) (h:Region.ready .any ops listed=[]):∀i,i<ops.size->listed.getD i false=true:=by
 intro i
 induction i using Nat.strongRecOn with
 | _ i ih =>
  intro hi
  cases hl:listed.getD i false with
  | true=>rfl
  | false =>
   exfalso
   have ho:ops[i]?=some ops[i]:=by simp [hi]
   have:i∈Region.ready .any ops listed:=by
    refine mem_ready.2 ⟨?_,ops[i],ho,fun e he hb=>?_⟩
    ·have:i<listed.size:=by omega
     simp [this] at hl ⊢
     exact hl
    ·have h1:=okOps_at hk (i:=i) (o:=ops[i]) (by simp [hi])
     simp only [okOp,Bool.and_eq_true,List.all_eq_true,Bool.or_eq_true,Bool.not_eq_true',decide_eq_true_eq] at h1
     have h2:=(h1.1.2 e (by simpa using he)).resolve_left (by rw [hb];exact Bool.noConfusion)
     exact ih e.on (by omega) (by omega)
   rw [h] at this
   cases this
theorem keepS_put {s:Nat->Value} {i:Nat} {o:Oper} {v:Value} (h:KeepS ops s0 s) (ho:ops[i]?=some o):KeepS ops s0 (upV s o.dst v):=by
 intro t ht
 rw [←h t ht]
 cases hd:o.dst with
 | none=>rfl
 | some d =>
  have h1:=List.any_eq_false.1 ht o (by simpa using Array.mem_of_getElem? ho)
  rw [hd] at h1
  have hne:t≠d:=fun e=>h1 (by simp [e])
  have:Nat.beq t d=false:=by
   cases hb:Nat.beq t d
   ·rfl
   ·exact absurd (Nat.eq_of_beq_eq_true hb) hne
  simp only [upV,this,cond_false]
theorem wpAny_inv (hk:okOps N ops.toList 0=true) (hs:AllS P ops s0 I ops.toList 0)
  (hQ:∀L s w,I L s w->KeepS ops s0 s->(∀i,i<ops.size->L i=true)->Q .normal (actS N s ds) w) :
  ∀(fuel:Nat) (listed:Array Bool) (s:Nat->Value) (w:World),listed.size=ops.size->listed.toList.count false<=fuel->I (fun j=>listed.getD j false) s w->KeepS ops s0 s ->
   wpAny P .any ops Q fuel listed (actS N s ds) w:=by
 intro fuel
 induction fuel with
 | zero =>
  intro listed s w hz hc hI hkp
  have hr:Region.ready .any ops listed=[]:=by
   cases hr:Region.ready .any ops listed with
   | nil=>rfl
   | cons i l =>
    exfalso
    have hi:i∈Region.ready .any ops listed:=by rw [hr];simp
    have h0:=(mem_ready.1 hi).1
    have hlt:i<listed.size:=by
     rcases Nat.lt_or_ge i listed.size with h' | h'
     ·exact h'
     ·simp [Array.getElem?_eq_none h'] at h0
    have:listed.toList[i]?=some false:=by
     simp [hlt] at h0 ⊢
     exact h0
    have:=List.count_pos_iff.2 (List.mem_of_getElem? this)
    omega
  exact ⟨hr,hQ _ _ _ hI hkp (all_listed hk hz hr)⟩
 | succ fuel ih =>
  intro listed s w hz hc hI hkp
  refine ⟨fun hr=>hQ _ _ _ hI hkp (all_listed hk hz hr),fun i hi=>?_⟩
  obtain ⟨h0,o,ho,haf⟩:=mem_ready.1 hi
  have hlt:i<listed.size:=by
   rcases Nat.lt_or_ge i listed.size with h' | h'
   ·exact h'
   ·simp [Array.getElem?_eq_none h'] at h0
  have hli:listed.toList[i]?=some false:=by
   simp [hlt] at h0 ⊢
   exact h0
  have hcount:=count_set hli
  have hok:=okOps_at hk (i:=i) (o:=o) (by simpa using ho)
  simp only [okOp,Bool.and_eq_true,List.all_eq_true] at hok
  obtain ⟨⟨⟨hrd,hdst⟩,-⟩,hkind⟩:=hok
  have hdst':∀t,o.dst=some t->t<N:=fun t ht=>by
   rw [ht] at hdst
   simpa using hdst
  have hev:execOp (actS N s ds).eval o=execOp (evS s) o:=by
   refine execOp_congr o (fun cs b hb=>?_) fun x hx=>actS_eval fun t ht=>?_
   ·rw [hb] at hkind;cases hkind
   ·have:=hrd x (by simpa using hx)
    rw [ht] at this
    simpa using this
  have hst:=hs.at (i:=i) (o:=o) (by simpa using ho) (fun j=>listed.getD j false) s w hI hkp (afterL_of fun e he hb=>haf e (by simpa using he) hb) (by
   rw [Nat.zero_add]
   simp [hlt] at h0 ⊢
   exact h0)
  rw [Nat.zero_add] at hst
  have next:∀v w',I (upB (fun j=>listed.getD j false) i) (upV s o.dst v) w'->wpAny P .any ops Q fuel (listed.setIfInBounds i true) ((actS N s ds).put o.dst v) w':=by
   intro v w' h
   rw [actS_put hdst']
   refine ih _ _ _ (by simpa using hz) ?_ ?_ (keepS_put hkp ho)
   ·have:(listed.setIfInBounds i true).toList=listed.toList.set i true:=by simp
    rw [this]
    omega
   ·rw [upB_of hlt]
    exact h
  unfold wpOp
  simp only [ho]
  rw [actS_yield hk]
  rcases hst with ⟨hw,hrun⟩ | ⟨hw,hK⟩
  ·rw [if_pos hw]
   refine Or.inl ?_
   unfold Oper.wp
   rw [hev]
   generalize (execOp (evS s) o).run P w=r at *
   cases r with
   | ok n w' =>
    cases n<;>simp only [RunS] at hrun<;>simp only [Oper.upon]
    case value v=>exact next _ _ hrun
    case skip=>exact next _ _ hrun
    case enter f args =>
     refine Calls.mono hrun ?_
     rintro e w'' ⟨v,rfl,h⟩
     exact next _ _ h
    case row row args=>exact hrun.mono fun v w'' h=>next _ _ h
   | halt x w'=>cases x<;>simp only [RunS] at hrun
  ·rw [if_neg (by rw [hw];exact Bool.false_ne_true)]
   exact next _ _ hK
/-- **A region that draws its order, by an invariant.** -/
theorem wp_region_inv {id:Nat} {l:List Value} {w:World} (I:(Nat->Bool)->(Nat->Value)->World->Prop) (hm:P.follows .mixedOrders=true) (hk:okOps l.length ops.toList 0=true)
  (h0:I (fun _=>false) (fun t=>l.getD t undef) w.drew) (hs:AllS P ops (fun t=>l.getD t undef) I ops.toList 0)
  (hQ:∀L s w,I L s w->KeepS ops (fun t=>l.getD t undef) s->(∀i,i<ops.size->L i=true)->Q .normal (actS l.length s ds) w):(Code.region id ops true).wp P Q ⟨l.toArray,ds⟩ w:=by
 refine wp_region_any hm ?_
 have ha:(⟨l.toArray,ds⟩:Act)=actS l.length (fun t=>l.getD t undef) ds:=by
  simp only [actS,Act.mk.injEq,and_true]
  apply Array.ext
  ·simp
  ·intro i h1 h2
   have:i<l.length:=by simpa using h1
   simp [this]
 rw [ha]
 refine wpAny_inv hk hs hQ _ _ _ _ (by simp) (by simp) ?_ (fun _ _=>rfl)
 have:(fun j=>(Array.replicate ops.size false).getD j false)=fun _=>false:=by
  funext j
  by_cases h:j<ops.size<;>simp [h]
 rw [this]
 exact h0
end
end Mnc

/- A rule for a region that draws its order and in which a call may panic: RegInv, with a word on the world at a panic. Made of XRegInv by a program. -/
namespace Mnc
open Go
/-- Behind a call: it returned, and what follows holds of its value; or it panicked. -/
def RetSP (Pn:List PanicEntry->World->Prop) (K:Value->World->Prop) (e:Ending) (w:World):Prop:=(∃v,e=.returned v/\K v w)∨∃c,e=.panicked c/\Pn c w
theorem RetSP.mk {Pn:List PanicEntry->World->Prop} {K:Value->World->Prop} {v:Value} {w:World} (h:K v w):RetSP Pn K (.returned v) w:=.inl ⟨v,rfl,h⟩
def RunSP (P:Program) (Pn:List PanicEntry->World->Prop) (K:Value->World->Prop):Result Next->Prop
 | .ok (.value v) w'=>K v w'
 | .ok .skip w'=>K undef w'
 | .ok (.enter f args) w'=>Calls P f args w' (RetSP Pn K)
 | _=>False
def StepSP (P:Program) (Pn:List PanicEntry->World->Prop) (ops:Array Oper) (o:Oper) (s:Nat->Value) (w:World) (K:Value->World->Prop):Prop :=
 (Region.wanted o (yieldS ops s)=true/\RunSP P Pn K ((execOp (evS s) o).run P w))∨(Region.wanted o (yieldS ops s)=false/\K undef w)
section
variable {P:Program} {Pn:List PanicEntry->World->Prop} {ops:Array Oper} {o:Oper} {s:Nat->Value} {w w':World} {K:Value->World->Prop}
theorem RunSP_value (v:Value):RunSP P Pn K (.ok (.value v) w)=K v w:=rfl
theorem RunSP_skip:RunSP P Pn K (.ok .skip w)=K undef w:=rfl
theorem RunSP_enter (f:FuncId) (args:Array Value):RunSP P Pn K (.ok (.enter f args) w)=Calls P f args w (RetSP Pn K):=rfl
/-- An operation that is carried out. -/
theorem stepSP {K0:Value->World->Prop} (hw:Region.wanted o (yieldS ops s)=true) (h:∀K:Value->World->Prop,(∀v w',K0 v w'->K v w')->RunSP P Pn K ((execOp (evS s) o).run P w)):StepSP P Pn ops o s w K0 :=
 Or.inl ⟨hw,h K0 fun _ _ h=>h⟩
end
def AllSP (P:Program) (Pn:List PanicEntry->World->Prop) (ops:Array Oper) (s0:Nat->Value) (I:(Nat->Bool)->(Nat->Value)->World->Prop):List Oper->Nat->Prop
 | [],_=>True
 | o::l,k=>(∀L s w,I L s w->KeepS ops s0 s->AfterL o.after.toList L->L k=false->StepSP P Pn ops o s w (fun v w'=>I (upB L k) (upV s o.dst v) w'))/\AllSP P Pn ops s0 I l (k+1)
section
variable {P:Program} {Pn:List PanicEntry->World->Prop} {ops:Array Oper} {s0:Nat->Value} {I:(Nat->Bool)->(Nat->Value)->World->Prop} {N:Nat} {ds:List Deferred} {Q:Exit->Act->World->Prop}
theorem AllSP.nil {k:Nat}:AllSP P Pn ops s0 I [] k:=trivial
theorem AllSP.cons {o:Oper} {l:List Oper} {k:Nat} (h:∀L s w,I L s w->KeepS ops s0 s->AfterL o.after.toList L->L k=false->StepSP P Pn ops o s w (fun v w'=>I (upB L k) (upV s o.dst v) w'))
  (t:AllSP P Pn ops s0 I l (k+1)):AllSP P Pn ops s0 I (o::l) k:=⟨h,t⟩
theorem AllSP.at {l:List Oper} {k i:Nat} {o:Oper} (h:AllSP P Pn ops s0 I l k) (hi:l[i]?=some o) :
  ∀L s w,I L s w->KeepS ops s0 s->AfterL o.after.toList L->L (k+i)=false->StepSP P Pn ops o s w (fun v w'=>I (upB L (k+i)) (upV s o.dst v) w'):=by
 induction l generalizing k i with
 | nil=>simp at hi
 | cons x l ih =>
  cases i with
  | zero =>
   obtain rfl:x=o:=by simpa using hi
   exact h.1
  | succ i =>
   have:=ih h.2 (i:=i) (by simpa using hi)
   rw [show k+(i+1)=k+1+i by omega]
   exact this
end
end Mnc

/- A round of a range over a function whose body may panic: the panic goes on through the function that is ranged over. -/
namespace Mnc
open Go
section
variable {F:Fence} {n l:Nat} {P:Program} {R:Ending->World->Prop}
/-- What a round's body is to bring about: at a panic no deferred call is open, and R holds of the panic; else as the kit has it. -/
def roundPostP (P:Program) (l:Nat) (R:Ending->World->Prop) (e:Exit) (a:Act) (w:World):Prop :=
 match e with
 | .panic chain=>a.defers=[]/\R (.panicked chain) w
 | _=>roundPost P l R e a w
/-- Where a round's machine comes out. -/
def roundOut (c:Frame) (cs:List Frame) (w:World):Ending->Machine
 | .returned v=>lone (c.finish v) cs w
 | .panicked chain=>lone (c.raise chain) cs w
 | .outgrown=>lone c cs w
/-- The end of a round, whatever way its body is left. -/
theorem round_ends {b c:Frame} {cs:List Frame} {fn:Func} (hb:F.fn b.fn) (hf:P.funcs[b.fn]?=some fn) (hk:b.kind=.normal) (hl:b.roundOf=some l) (hr:F.room ((c::cs).length+1+n))
  {e:Exit} {a:Act} {w:World} {m:Machine} (hq:roundPostP P l R e a w) (h:ArrivesIn (Machine.fenced P F) P m b [] (c::cs) e a w) :
  ∃e' w',R e' w'/\ComesIn (Machine.fenced P F) P m (roundOut c cs w' e') e':=by
 cases e
 case outgrown=>exact hq.elim
 case panic chain =>
  obtain ⟨todo,hs⟩:=h
  have hout:Frame.leaving P ({b.atR a todo with mode:=.panicking chain}:Frame) w (.panicked chain):=⟨rfl,hq.1,fn,hf⟩
  exact ⟨_,w,hq.2,hs.trans (.one (fenced_leaving hb hr hout) (step_leave_panicked hout))⟩
 all_goals
  obtain ⟨v,w₄,hend,hR⟩:=hq
  refine ⟨.returned v,w₄,hR,?_⟩
 case normal=>exact StepsIn.trans h (.one (fenced_calm (fr:=b.atR a []) hb hr rfl) (stepR_round_end hl hk hend))
 case ret =>
  obtain ⟨k₁,hs⟩:=h.2 (by rw [hl];rfl)
  exact hs.trans (.one (fenced_calm (fr:=b.atR a (.code .ret::k₁)) hb hr rfl) (stepR_round_ret hl hk hend))
 case exit id =>
  obtain ⟨k₁,hx,hs⟩:=h.2 (by rw [hl];rfl) rfl
  exact hs.trans (.one (fenced_calm (fr:=b.atR a (.code (.exit id)::k₁)) hb hr rfl) (stepR_round_exit hl hk hx hend))
 case goto t =>
  obtain ⟨k₁,hx,hs⟩:=h.2 (by rw [hl];rfl) rfl
  exact hs.trans (.one (fenced_calm (fr:=b.atR a (.code (.goto t)::k₁)) hb hr rfl) (stepR_round_goto hl hk hx hend))
end
end Mnc

/- A range over a function whose rounds may panic: walks of a frame whose function is known to be the program's. -/
namespace Mnc
open Go
/-- 'wpIn' of the wide fence, for frames of one function alone. -/
def wpF (f:FuncId) (ro:Option Nat) (P:Program) (c:Code) (Q:Exit->Act->World->Prop) (a:Act) (w:World):Prop :=
 ∀(b:Frame) (k:List Item) (cs:List Frame),b.roundOf=ro->b.fn=f ->
  ∃e a' w',Q e a' w'/\ArrivesIn (Machine.fenced P Fence.wide) P (lone (b.atR a (.code c::k)) cs w) b k cs e a' w'
section
variable {f:FuncId} {ro:Option Nat} {n l:Nat} {P:Program} {Q Q':Exit->Act->World->Prop} {a:Act} {w:World}
theorem wpF_of {c:Code} (h:c.wpIn Fence.wide n P Q a w):wpF f none P c Q a w :=
 fun b k cs hr _=>h b k cs hr trivial (room_wide _)
theorem wpF_ofR {c:Code} (h:c.wpIn (Fence.wide.inRound l) n P Q a w):wpF f (some l) P c Q a w :=
 fun b k cs hr _=>h b k cs hr trivial (fun _ h=>by simp [Fence.wide] at h)
theorem wpF_mono {c:Code} (h:wpF f ro P c Q a w) (hq:∀e a w,Q e a w->Q' e a w):wpF f ro P c Q' a w :=
 fun b k cs hr hf=>let ⟨e,a',w',q,r⟩:=h b k cs hr hf;⟨e,a',w',hq _ _ _ q,r⟩
theorem wpF_world {c:Code} (F:World->Prop) (h:∀W,F W->wpF f ro P c Q a W) (h0:F w):wpF f ro P c Q a w:=h w h0
theorem wp_world {c:Code} (R:World->Prop) (h:∀W,R W->c.wp P Q a W) (h0:R w):c.wp P Q a w:=h w h0
theorem wpF_seq {x y:Code} (h:wpF f ro P x (Exit.then (wpF f ro P y Q) Q) a w):wpF f ro P (Code.seq x y) Q a w:=by
 intro b k cs hr hf
 have h0:(lone (b.atR a (.code (.seq x y)::k)) cs w).fenced P Fence.wide:=fenced_wide _ _
 obtain ⟨e,a₁,w₁,hq,harr⟩:=h b (.code y::k) cs hr hf
 cases e with
 | normal =>
  obtain ⟨e₂,a₂,w₂,hq₂,harr₂⟩:=hq b k cs hr hf
  exact ⟨e₂,a₂,w₂,hq₂,.of_steps (.head h0 stepR_seq harr) harr₂⟩
 | exit id=>exact ⟨_,a₁,w₁,hq,.of_steps (.one h0 stepR_seq) (.pass (x:=.code y) rfl (fun _ _=>.inl (by simp)) harr)⟩
 | goto l=>exact ⟨_,a₁,w₁,hq,.of_steps (.one h0 stepR_seq) (.pass (x:=.code y) rfl (fun _ _=>.inl (by simp)) harr)⟩
 | ret=>exact ⟨_,a₁,w₁,hq,.of_steps (.one h0 stepR_seq) (.pass (x:=.code y) rfl (fun _ _=>.inl (by simp)) harr)⟩
 | panic ch=>exact ⟨_,a₁,w₁,hq,.of_steps (.one h0 stepR_seq) (.pass (x:=.code y) rfl (fun _ _=>.inl (by simp)) harr)⟩
 | outgrown=>exact ⟨_,a₁,w₁,hq,.of_steps (.one h0 stepR_seq) (.pass (x:=.code y) rfl (fun _ _=>.inl (by simp)) harr)⟩
theorem wpF_block {id:Nat} {c:Code} (h:wpF f ro P c (Exit.inBlock id Q) a w):wpF f ro P (Code.block id c) Q a w:=by
 intro b k cs hro hb
 have h0:(lone (b.atR a (.code (.block id c)::k)) cs w).fenced P Fence.wide:=fenced_wide _ _
 obtain ⟨e,a₁,w₁,hq,harr⟩:=h b (.inBlock id::k) cs hro hb
 cases e with
 | normal=>exact ⟨.normal,a₁,w₁,hq,.head h0 stepR_block (StepsIn.trans harr (.one (fenced_wide _ _) stepR_inBlock))⟩
 | exit id' =>
  by_cases hid:id'=id
  ·simp only [Exit.inBlock,hid,if_true] at hq
   exact ⟨.normal,a₁,w₁,hq,.head h0 stepR_block (harr.1 k (by simp [exitTo,hid]))⟩
  ·simp only [Exit.inBlock,hid,if_false] at hq
   have this:(id==id')=false:=by simp;exact fun h=>hid h.symm
   have hx:exitTo id' (.inBlock id::k)=exitTo id' k:=by simp [exitTo,this]
   exact ⟨.exit id',a₁,w₁,hq,fun k' hk=>.head h0 stepR_block (harr.1 k' (by rw [hx];exact hk)),
    fun hr' hk=>let ⟨k₁,h1,h2⟩:=harr.2 hr' (by rw [hx];exact hk);⟨k₁,h1,.head h0 stepR_block h2⟩⟩
 | goto l =>
  have hx:gotoIn l (.inBlock id::k)=gotoIn l k:=by simp [gotoIn]
  exact ⟨.goto l,a₁,w₁,hq,fun k' hk=>.head h0 stepR_block (harr.1 k' (by rw [hx];exact hk)),
   fun hr' hk=>let ⟨k₁,h1,h2⟩:=harr.2 hr' (by rw [hx];exact hk);⟨k₁,h1,.head h0 stepR_block h2⟩⟩
 | ret=>exact ⟨_,a₁,w₁,hq,.of_steps (.one h0 stepR_block) harr⟩
 | panic ch=>exact ⟨_,a₁,w₁,hq,.of_steps (.one h0 stepR_block) harr⟩
 | outgrown=>exact ⟨_,a₁,w₁,hq,.of_steps (.one h0 stepR_block) harr⟩
/-- The end of a round's frame, in this setting. -/
theorem round_endsF {R:Ending->World->Prop} {b c:Frame} {cs:List Frame} {fn:Func} (hf:P.funcs[b.fn]?=some fn) (hk:b.kind=.normal) (hl:b.roundOf=some l)
  {e:Exit} {a:Act} {w:World} {m:Machine} (hq:roundPostP P l R e a w) (h:ArrivesIn (Machine.fenced P Fence.wide) P m b [] (c::cs) e a w) :
  ∃e' w',R e' w'/\ComesIn (Machine.fenced P Fence.wide) P m (roundOut c cs w' e') e' :=
 round_ends (F:=Fence.wide) (n:=0) trivial hf hk hl (room_wide _) hq h
/-- A round out of the walks of its assignments and of its body. -/
theorem roundIn_of_wpF {fn:Func} {tmps:Array Value} {assign body:Code} {R:Ending->World->Prop} (hf:P.funcs[f]?=some fn)
  (h:wpF f (some l) P assign (Exit.then (fun a₁ w₁=>∃w₂,(Instr.beginRound l).run P w₁=.ok () w₂/\wpF f (some l) P body (roundPostP P l R) a₁ w₂) (fun _ _ _=>False))
   {tmps:=tmps,defers:=[]} w) :
  RoundIn Fence.wide n P l f tmps assign body w R:=⟨trivial,fun c cs hr=>by
 obtain ⟨b,hbf,hbk,hbr,hb0⟩:∃b:Frame,b.fn=f/\b.kind=.normal/\b.roundOf=some l/\Frame.round l f tmps assign body .normal=b.atR {tmps:=tmps,defers:=[]} [.code assign,.beginRound,.code body] :=
  ⟨{(default:Frame) with fn:=f,kind:=.normal,roundOf:=some l},rfl,rfl,rfl,by simp [Frame.round,Frame.atR]⟩
 rw [hb0]
 obtain ⟨e,a₁,w₁,hq,harr⟩:=h b [.beginRound,.code body] (c::cs) hbr hbf
 cases e
 case normal =>
  obtain ⟨w₂,hbg,hbody⟩:=hq
  obtain ⟨e₂,a₂,w₃,hq₂,harr₂⟩:=hbody b [] (c::cs) hbr hbf
  obtain ⟨e',w',hR,hc⟩:=round_endsF (hbf ▸ hf) hbk hbr hq₂
   (ArrivesIn.of_steps (StepsIn.trans harr (.one (fenced_wide _ _) (stepR_beginRound hbr hbg))) harr₂)
  exact ⟨e',w',hR,by cases e'<;>exact hc⟩
 all_goals exact hq.elim⟩
/-- What is asked behind the function that was ranged over. -/
def rangePostF (f:FuncId) (ro:Option Nat) (P:Program) (l:Nat) (Q:Exit->Act->World->Prop) (a':Act):Ending->World->Prop
 | .returned _,w₃=>∃jump w₄,(Instr.endLoop l).run P w₃=.ok jump w₄ /\
   (match jump with
    | none=>Q .normal a' w₄
    | some c=>wpF f ro P c Q a' w₄)
 | .panicked chain,w₃=>Q (.panic chain) a' w₃
 | .outgrown,_=>LetsOut Q
/-- The statement. -/
theorem wpF_rangeFunc {g:Operand} {ps:Array Tmp} {assign body:Code} (l:Nat) (mark:List Deferred) (w₁:World) (d:Deferred) (w₁':World) (gf:FuncId) (args:Array Value) (w₂:World)
  (he:(Instr.enterLoop f a.tmps ps assign body ro).run P w=.ok (l,mark) w₁)
  (hres:(resolve a.eval (rangeCall g l) 0).run P w₁=.ok d w₁')
  (hinv:(invoke d.target d.args).run P w₁'=.ok (.enter gf args) w₂)
  (hcall':CallsIn Fence.wide n P gf args w₂ (rangePostF f ro P l Q {a with defers:=mark++a.defers})) :
  wpF f ro P (Code.rangeFunc g ps assign body) Q a w:=by
 intro b k cs hro hbf
 obtain ⟨hF,hcall⟩:=hcall'
 rw [←hro,←hbf] at he
 have h0:(lone (b.atR a (.code (.rangeFunc g ps assign body)::k)) cs w).fenced P Fence.wide:=fenced_wide _ _
 have henter:=stepR_rangeFunc (P:=P) (b:=b) (a:=a) (k:=k) (cs:=cs) (w:=w) he hres hinv
 obtain ⟨e,w₃,fr,hR,hsteps,hfn,hleave⟩:=hcall (b.atR {a with defers:=mark++a.defers} (.inRangeFunc l::k)::cs) (room_wide _)
 cases e with
 | outgrown =>
  obtain ⟨a₀,w₀,hq⟩:=hR
  exact ⟨.outgrown,a₀,w₀,hq,.inr (Outgrown.of_steps (.one henter) hsteps)⟩
 | returned v =>
  obtain ⟨jump,w₄,hend,hj⟩:=hR
  have sback:StepsIn (Machine.fenced P Fence.wide) P (lone (b.atR a (.code (.rangeFunc g ps assign body)::k)) cs w) (lone (b.atR {a with defers:=mark++a.defers} ((jump.map Item.code).toList++k)) cs w₄):=by
   refine .head h0 henter (StepsIn.trans hsteps (.head (fenced_wide _ _) ?_ (.one (fenced_wide _ _) (stepR_endRangeFunc hend))))
   rw [←finish_atR_inRangeFunc l v];exact step_leave_returned hleave
  cases jump with
  | none=>exact ⟨.normal,_,w₄,hj,sback⟩
  | some c =>
   obtain ⟨e',a'',w₅,hq,harr⟩:=hj b k cs hro hbf
   exact ⟨e',a'',w₅,hq,.of_steps sback harr⟩
 | panicked chain =>
  refine ⟨.panic chain,_,w₃,hR,.inRangeFunc l::k,.head h0 henter (StepsIn.trans hsteps (.one (fenced_wide _ _) ?_))⟩
  rw [←Frame.raise_atR];exact step_leave_panicked hleave
/-- A function's contract out of its body, where the body ranges over functions. -/
theorem callsIn_of_wpF {fn:Func} {c:Code} {args:Array Value} {w:World} {R:Ending->World->Prop}
  (hf:P.funcs[f]?=some fn) (hb:fn.body=some c)
  (h:wpF f none P c (bodyPostM Fence.wide n P fn R) {tmps:=args++Array.replicate (fn.ntmps-args.size) undef,defers:=[]} w):CallsIn Fence.wide n P f args w R:=by
 refine ⟨trivial,fun cs hr=>?_⟩
 let b:Frame:={(default:Frame) with fn:=f,kind:=.normal,roundOf:=none}
 have henter:Frame.enter P f args .normal =
   b.atR {tmps:=args++Array.replicate (fn.ntmps-args.size) undef,defers:=[]} [.code c]:=by
  simp [Frame.enter,Frame.atR,hf,hb,b]
 obtain ⟨e,a',w',hq,harr⟩:=h b [] cs rfl rfl
 rw [←henter] at harr
 cases e with
 | normal =>
  obtain ⟨e',w'',fr',hR,hs,hfn,hl⟩:=leaves_stepsInM (F:=Fence.wide) a'.defers .returning w' {b.atR a' [] with mode:=.returning} cs rfl rfl rfl hf rfl trivial hr hq
  exact ⟨e',w'',fr',hR,ComesIn.of_steps (StepsIn.trans harr (.one (fenced_wide _ _) (stepR_end rfl))) hs,hfn,hl⟩
 | ret =>
  obtain ⟨todo,hs₀⟩:=harr.1 rfl
  obtain ⟨e',w'',fr',hR,hs,hfn,hl⟩:=leaves_stepsInM (F:=Fence.wide) a'.defers .returning w' {b.atR a' todo with mode:=.returning} cs rfl rfl rfl hf rfl trivial hr hq
  exact ⟨e',w'',fr',hR,ComesIn.of_steps hs₀ hs,hfn,hl⟩
 | panic chain =>
  obtain ⟨todo,hs₀⟩:=harr
  obtain ⟨e',w'',fr',hR,hs,hfn,hl⟩:=leaves_stepsInM (F:=Fence.wide) a'.defers (.panicking chain) w' {b.atR a' todo with mode:=.panicking chain} cs rfl rfl rfl hf rfl trivial hr hq
  exact ⟨e',w'',fr',hR,ComesIn.of_steps hs₀ hs,hfn,hl⟩
 | exit id=>exact hq.elim
 | goto l=>exact hq.elim
 | outgrown=>exact ⟨.outgrown,w',b,hq,harr.resolve_left (by simp [b]),rfl,trivial⟩
end
/-- Blocks from B on are as they were. -/
structure KeepA (B:Nat) (W W':World):Prop where
 size:W.heap.size<=W'.heap.size
 same:∀k,B<=k->k<W.heap.size->W'.heap[k]?=W.heap[k]?
theorem KeepA.refl (B:Nat) (W:World):KeepA B W W:=⟨Nat.le_refl _,fun _ _ _=>rfl⟩
theorem KeepA.trans {B:Nat} {a b c:World} (h:KeepA B a b) (k:KeepA B b c):KeepA B a c :=
 ⟨Nat.le_trans h.size k.size,fun i hi hl=>(k.same i hi (Nat.lt_of_lt_of_le hl h.size)).trans (h.same i hi hl)⟩
/-- How a round's body is left: at its end, by a return, or by a panic. -/
def roundEnd (B:Nat) (W:World) (J D:World->Prop) (Pn:List PanicEntry->World->Prop):Exit->Act->World->Prop
 | .normal,_,W'=>KeepA B W W'/\J W'
 | .ret,_,W'=>KeepA B W W'/\D W'
 | .panic c,a,W'=>a.defers=[]/\KeepA B W W'/\Pn c W'
 | _,_,_=>False
/-- A loop's record. -/
def recOf (fn:FuncId) (tmps:Array Value) (ps:Array Tmp) (assign body:Code) (db:Nat) (st:LoopState) (pe:Option Code):Loop:={state:=st,pending:=pe,fn,tmps,params:=ps,assign,body,defers:=db}
end Mnc

/- The rules for regions by an invariant, drawn or plain, in a round of a range over a function or in none; a call may panic. Made of XRegInvI by a program. -/
namespace Mnc
open Go
/-- The wide fence, in a round or in none. -/
abbrev G (ro:Option Nat):Fence:={Fence.wide with round:=ro}
section
variable {P:Program} {Pn:List PanicEntry->World->Prop} {ops:Array Oper} {s0:Nat->Value} {I:(Nat->Bool)->(Nat->Value)->World->Prop} {N:Nat} {ds:List Deferred} {Q:Exit->Act->World->Prop}
theorem wpAny_invG {ro:Option Nat} {n:Nat} (hk:okOps N ops.toList 0=true) (hs:AllSP P Pn ops s0 I ops.toList 0)
  (hQ:∀L s w,I L s w->KeepS ops s0 s->(∀i,i<ops.size->L i=true)->Q .normal (actS N s ds) w) (hP:∀c s w,Pn c w->Q (.panic c) (actS N s ds) w) :
  ∀(fuel:Nat) (listed:Array Bool) (s:Nat->Value) (w:World),listed.size=ops.size->listed.toList.count false<=fuel->I (fun j=>listed.getD j false) s w->KeepS ops s0 s ->
   wpAnyIn (G ro) n P .any ops Q fuel listed (actS N s ds) w:=by
 intro fuel
 induction fuel with
 | zero =>
  intro listed s w hz hc hI hkp
  have hr:Region.ready .any ops listed=[]:=by
   cases hr:Region.ready .any ops listed with
   | nil=>rfl
   | cons i l =>
    exfalso
    have hi:i∈Region.ready .any ops listed:=by rw [hr];simp
    have h0:=(mem_ready.1 hi).1
    have hlt:i<listed.size:=by
     rcases Nat.lt_or_ge i listed.size with h' | h'
     ·exact h'
     ·simp [Array.getElem?_eq_none h'] at h0
    have:listed.toList[i]?=some false:=by
     simp [hlt] at h0 ⊢
     exact h0
    have:=List.count_pos_iff.2 (List.mem_of_getElem? this)
    omega
  exact ⟨hr,hQ _ _ _ hI hkp (all_listed hk hz hr)⟩
 | succ fuel ih =>
  intro listed s w hz hc hI hkp
  refine ⟨fun hr=>hQ _ _ _ hI hkp (all_listed hk hz hr),fun i hi=>?_⟩
  obtain ⟨h0,o,ho,haf⟩:=mem_ready.1 hi
  have hlt:i<listed.size:=by
   rcases Nat.lt_or_ge i listed.size with h' | h'
   ·exact h'
   ·simp [Array.getElem?_eq_none h'] at h0
  have hli:listed.toList[i]?=some false:=by
   simp [hlt] at h0 ⊢
   exact h0
  have hcount:=count_set hli
  have hok:=okOps_at hk (i:=i) (o:=o) (by simpa using ho)
  simp only [okOp,Bool.and_eq_true,List.all_eq_true] at hok
  obtain ⟨⟨⟨hrd,hdst⟩,-⟩,hkind⟩:=hok
  have hdst':∀t,o.dst=some t->t<N:=fun t ht=>by
   rw [ht] at hdst
   simpa using hdst
  have hev:execOp (actS N s ds).eval o=execOp (evS s) o:=by
   refine execOp_congr o (fun cs b hb=>?_) fun x hx=>actS_eval fun t ht=>?_
   ·rw [hb] at hkind;cases hkind
   ·have:=hrd x (by simpa using hx)
    rw [ht] at this
    simpa using this
  have hst:=hs.at (i:=i) (o:=o) (by simpa using ho) (fun j=>listed.getD j false) s w hI hkp (afterL_of fun e he hb=>haf e (by simpa using he) hb) (by
   rw [Nat.zero_add]
   simp [hlt] at h0 ⊢
   exact h0)
  rw [Nat.zero_add] at hst
  have next:∀v w',I (upB (fun j=>listed.getD j false) i) (upV s o.dst v) w'->wpAnyIn (G ro) n P .any ops Q fuel (listed.setIfInBounds i true) ((actS N s ds).put o.dst v) w':=by
   intro v w' h
   rw [actS_put hdst']
   refine ih _ _ _ (by simpa using hz) ?_ ?_ (keepS_put hkp ho)
   ·have:(listed.setIfInBounds i true).toList=listed.toList.set i true:=by simp
    rw [this]
    omega
   ·rw [upB_of hlt]
    exact h
  unfold wpOpIn
  simp only [ho]
  rw [actS_yield hk]
  rcases hst with ⟨hw,hrun⟩ | ⟨hw,hK⟩
  ·rw [if_pos hw]
   refine ⟨fun _ _=>trivial,?_⟩
   have hsa:o.semAt (G ro).round (actS N s ds).eval=execOp (actS N s ds).eval o:=Oper.semAt_eq _ _ _ fun c hc=>by
    rw [hc] at hkind
    cases hkind
   rw [hsa,hev]
   generalize (execOp (evS s) o).run P w=r at *
   cases r with
   | ok nx w' =>
    cases nx<;>simp only [RunSP] at hrun<;>simp only [Oper.uponIn]
    case value v=>exact next _ _ hrun
    case skip=>exact next _ _ hrun
    case enter f args =>
     refine ⟨fun h=>(by cases h),CallsIn.mono (callsIn_wide.2 hrun:CallsIn (G ro) (n-1) P f args w' _) ?_⟩
     rintro e w'' (⟨v,rfl,h⟩ | ⟨c,rfl,h⟩)
     ·exact next _ _ h
     ·exact hP _ _ _ h
   | halt x w'=>cases x<;>simp only [RunSP] at hrun
  ·rw [if_neg (by rw [hw];exact Bool.false_ne_true)]
   exact ⟨fun _ _=>trivial,next _ _ hK⟩
/-- **A region that draws its order, by an invariant.** -/
theorem wp_region_drawG {ro:Option Nat} {n:Nat} {id:Nat} {l:List Value} {w:World} (I:(Nat->Bool)->(Nat->Value)->World->Prop) (hm:P.follows .mixedOrders=true) (hk:okOps l.length ops.toList 0=true)
  (h0:I (fun _=>false) (fun t=>l.getD t undef) w.drew) (hs:AllSP P Pn ops (fun t=>l.getD t undef) I ops.toList 0)
  (hQ:∀L s w,I L s w->KeepS ops (fun t=>l.getD t undef) s->(∀i,i<ops.size->L i=true)->Q .normal (actS l.length s ds) w) (hP:∀c s w,Pn c w->Q (.panic c) (actS l.length s ds) w):(Code.region id ops true).wpIn (G ro) n P Q ⟨l.toArray,ds⟩ w:=by
 refine wpIn_region_any hm ?_
 have ha:(⟨l.toArray,ds⟩:Act)=actS l.length (fun t=>l.getD t undef) ds:=by
  simp only [actS,Act.mk.injEq,and_true]
  apply Array.ext
  ·simp
  ·intro i h1 h2
   have:i<l.length:=by simpa using h1
   simp [this]
 rw [ha]
 refine wpAny_invG hk hs hQ hP _ _ _ _ (by simp) (by simp) ?_ (fun _ _=>rfl)
 have:(fun j=>(Array.replicate ops.size false).getD j false)=fun _=>false:=by
  funext j
  by_cases h:j<ops.size<;>simp [h]
 rw [this]
 exact h0
theorem upB_next (k:Nat):upB (fun j=>decide (j<k)) k=fun j=>decide (j<k+1):=by
 funext j
 unfold upB
 by_cases h:j=k
 ·subst h;simp
 ·have hb:Nat.beq j k=false:=by
   cases hb:Nat.beq j k
   ·rfl
   ·exact absurd (Nat.eq_of_beq_eq_true hb) h
  simp only [hb,Bool.false_or]
  congr 1
  exact propext (by omega)
theorem wpOps_invG {ro:Option Nat} {n:Nat} (hk:okOps N ops.toList 0=true) (hs:AllSP P Pn ops s0 I ops.toList 0)
  (hQ:∀L s w,I L s w->KeepS ops s0 s->(∀i,i<ops.size->L i=true)->Q .normal (actS N s ds) w) (hP:∀c s w,Pn c w->Q (.panic c) (actS N s ds) w) :
  ∀(m k:Nat) (s:Nat->Value) (w:World),k+m=ops.size->I (fun j=>decide (j<k)) s w->KeepS ops s0 s ->
   wpOpsIn (G ro) n P ops Q (List.range' k m) (actS N s ds) w:=by
 intro m
 induction m with
 | zero =>
  intro k s w hm hI hkp
  exact hQ _ _ _ hI hkp fun i hi=>by simp;omega
 | succ m ih =>
  intro k s w hm hI hkp
  have hlt:k<ops.size:=by omega
  have ho:ops[k]?=some ops[k]:=by simp [hlt]
  have hok:=okOps_at hk (i:=k) (o:=ops[k]) (by simp [hlt])
  rw [Nat.zero_add] at hok
  simp only [okOp,Bool.and_eq_true,List.all_eq_true,Bool.or_eq_true,Bool.not_eq_true',decide_eq_true_eq] at hok
  obtain ⟨⟨⟨hrd,hdst⟩,haf⟩,hkind⟩:=hok
  have hdst':∀t,(ops[k]).dst=some t->t<N:=fun t ht=>by
   rw [ht] at hdst
   simpa using hdst
  have hev:execOp (actS N s ds).eval ops[k]=execOp (evS s) ops[k]:=by
   refine execOp_congr _ (fun cs b hb=>?_) fun x hx=>actS_eval fun t ht=>?_
   ·rw [hb] at hkind;cases hkind
   ·have:=hrd x (by simpa using hx)
    rw [ht] at this
    simpa using this
  have hst:=hs.at (i:=k) (o:=ops[k]) (by simp [hlt]) (fun j=>decide (j<k)) s w hI hkp
   (afterL_of fun e he hb=>by
    have h1:=(haf e (by simpa using he)).resolve_left (by rw [hb];exact Bool.noConfusion)
    simpa using h1) (by simp)
  rw [Nat.zero_add] at hst
  have next:∀v w',I (upB (fun j=>decide (j<k)) k) (upV s (ops[k]).dst v) w'->wpOpsIn (G ro) n P ops Q (List.range' (k+1) m) ((actS N s ds).put (ops[k]).dst v) w':=by
   intro v w' h
   rw [actS_put hdst']
   refine ih _ _ _ (by omega) ?_ (keepS_put hkp ho)
   rw [←upB_next]
   exact h
  rw [List.range'_succ,wpOpsIn_cons]
  unfold wpOpIn
  simp only [ho]
  rw [actS_yield hk]
  rcases hst with ⟨hw,hrun⟩ | ⟨hw,hK⟩
  ·rw [if_pos hw]
   refine ⟨fun _ _=>trivial,?_⟩
   have hsa:(ops[k]).semAt (G ro).round (actS N s ds).eval=execOp (actS N s ds).eval ops[k]:=Oper.semAt_eq _ _ _ fun c hc=>by
    rw [hc] at hkind
    cases hkind
   rw [hsa,hev]
   generalize (execOp (evS s) ops[k]).run P w=r at *
   cases r with
   | ok nx w' =>
    cases nx<;>simp only [RunSP] at hrun<;>simp only [Oper.uponIn]
    case value v=>exact next _ _ hrun
    case skip=>exact next _ _ hrun
    case enter f args =>
     refine ⟨fun h=>(by cases h),CallsIn.mono (callsIn_wide.2 hrun:CallsIn (G ro) (n-1) P f args w' _) ?_⟩
     rintro e w'' (⟨v,rfl,h⟩ | ⟨c,rfl,h⟩)
     ·exact next _ _ h
     ·exact hP _ _ _ h
   | halt x w'=>cases x<;>simp only [RunSP] at hrun
  ·rw [if_neg (by rw [hw];exact Bool.false_ne_true)]
   exact ⟨fun _ _=>trivial,next _ _ hK⟩
theorem act_of_list {l:List Value}:(⟨l.toArray,ds⟩:Act)=actS l.length (fun t=>l.getD t undef) ds:=by
 simp only [actS,Act.mk.injEq,and_true]
 apply Array.ext
 ·simp
 ·intro i h1 h2
  have:i<l.length:=by simpa using h1
  simp [this]
/-- A plain region, by an invariant. -/
theorem wp_region_plainG {ro:Option Nat} {n:Nat} {id:Nat} {l:List Value} {w:World} (I:(Nat->Bool)->(Nat->Value)->World->Prop) (hk:okOps l.length ops.toList 0=true)
  (h0:I (fun _=>false) (fun t=>l.getD t undef) w) (hs:AllSP P Pn ops (fun t=>l.getD t undef) I ops.toList 0)
  (hQ:∀L s w,I L s w->KeepS ops (fun t=>l.getD t undef) s->(∀i,i<ops.size->L i=true)->Q .normal (actS l.length s ds) w) (hP:∀c s w,Pn c w->Q (.panic c) (actS l.length s ds) w):(Code.region id ops false).wpIn (G ro) n P Q ⟨l.toArray,ds⟩ w:=by
 refine wpIn_region ?_
 rw [act_of_list,List.range_eq_range']
 refine wpOps_invG hk hs hQ hP _ 0 _ _ (by omega) ?_ (fun _ _=>rfl)
 have:(fun j=>decide (j<0))=fun _=>false:=by funext j;simp
 rw [this]
 exact h0
/-- The world in which a region's operations begin. -/
def startW (b:Bool) (w:World):World:=cond b w.drew w
/-- A region, drawn or plain. -/
theorem wp_region_G {b:Bool} {ro:Option Nat} {n:Nat} {id:Nat} {l:List Value} {w:World} (I:(Nat->Bool)->(Nat->Value)->World->Prop) (hm:P.follows .mixedOrders=true) (hk:okOps l.length ops.toList 0=true)
  (h0:I (fun _=>false) (fun t=>l.getD t undef) (startW b w)) (hs:AllSP P Pn ops (fun t=>l.getD t undef) I ops.toList 0)
  (hQ:∀L s w,I L s w->KeepS ops (fun t=>l.getD t undef) s->(∀i,i<ops.size->L i=true)->Q .normal (actS l.length s ds) w) (hP:∀c s w,Pn c w->Q (.panic c) (actS l.length s ds) w):(Code.region id ops b).wpIn (G ro) n P Q ⟨l.toArray,ds⟩ w:=by
 cases b
 ·exact wp_region_plainG I hk h0 hs hQ hP
 ·exact wp_region_drawG I hm hk h0 hs hQ hP
end
end Mnc

/- A cut around a statement: the slots named are forgotten, by one letter for all of them. -/
namespace Mnc
open Go
/-- The frame l with the slots named taken from s. -/
def mergeL:List (Option Nat)->List Value->(Nat->Value)->List Value
 | [],_,_=>[]
 | some k::m,_::l,s=>s k::mergeL m l s
 | none::m,v::l,s=>v::mergeL m l s
 | _::_,[],_=>[]
theorem merge_meet {Q':Exit->Act->World->Prop} {m:List (Option Nat)} {l l':List Value} {ds:List Deferred} {w':World} {R:(Nat->Value)->World->Prop}
  (hQ:∀s w',R s w'->Q' .normal ⟨(mergeL m l s).toArray,ds⟩ w') (he:mergeL m l (fun t=>l'.getD t undef)=l') (hR:R (fun t=>l'.getD t undef) w'):Q' .normal ⟨l'.toArray,ds⟩ w':=by
 have h:=hQ _ _ hR
 rw [he] at h
 exact h
/-- The slots that the region's operations fill are those named. -/
def okMask (ops:Array Oper):List (Option Nat)->Nat->Bool
 | [],_=>true
 | some k::m,n=>k==n && okMask ops m (n+1)
 | none::m,n=>!(ops.toList.any fun o=>o.dst==some n) && okMask ops m (n+1)
theorem frame_go {ops:Array Oper} {s0 s:Nat->Value} (hk:KeepS ops s0 s):∀(m:List (Option Nat)) (l:List Value) (n:Nat),m.length=l.length->okMask ops m n=true->(∀i,i<l.length->l.getD i undef=s0 (n+i)) ->
  (List.range' n l.length).map s=mergeL m l s
 | [],[],_,_,_,_=>rfl
 | [],_::_,_,h,_,_=>by simp at h
 | _::_,[],_,h,_,_=>by simp at h
 | o::m,v::l,n,h,hm,hv=>by
  have ih:okMask ops m (n+1)=true->(List.range' (n+1) l.length).map s=mergeL m l s:=fun h2 =>
   frame_go hk m l (n+1) (by simpa using h) h2 fun i hi=>by
    have:=hv (i+1) (by simpa using hi)
    rw [show n+1+i=n+(i+1) by omega,←this]
    rfl
  rw [List.length_cons,List.range'_succ,List.map_cons]
  cases o with
  | some k =>
   simp only [okMask,Bool.and_eq_true,beq_iff_eq] at hm
   rw [ih hm.2,hm.1]
   rfl
  | none =>
   simp only [okMask,Bool.and_eq_true,Bool.not_eq_true'] at hm
   have h0:=hv 0 (by simp)
   rw [ih hm.2,hk n hm.1]
   exact congrArg (·::mergeL m l s) h0.symm
theorem frame_eq {ops:Array Oper} {l:List Value} {s:Nat->Value} {m:List (Option Nat)} {ds:List Deferred} (hk:KeepS ops (fun t=>l.getD t undef) s) (hm:okMask ops m 0=true) (hl:m.length=l.length) :
  actS l.length s ds=⟨(mergeL m l s).toArray,ds⟩:=by
 unfold actS
 rw [←frame_go hk m l 0 hl hm fun i _=>by rw [Nat.zero_add],List.range_eq_range']
theorem wp_cut_merge {P:Program} {c:Code} {Q:Exit->Act->World->Prop} {l:List Value} {ds:List Deferred} {w:World} (m:List (Option Nat)) (R:(Nat->Value)->World->Prop)
  (h1:∀Q':Exit->Act->World->Prop,(∀s w',R s w'->Q' .normal ⟨(mergeL m l s).toArray,ds⟩ w')->c.wp P Q' ⟨l.toArray,ds⟩ w)
  (h2:∀s w',R s w'->Q .normal ⟨(mergeL m l s).toArray,ds⟩ w'):c.wp P Q ⟨l.toArray,ds⟩ w:=by
 refine Code.wp_mono (Q:=fun e a w'=>e=.normal/\∃s,R s w'/\a=⟨(mergeL m l s).toArray,ds⟩) ?_ (h1 _ fun s w' h=>⟨rfl,s,h,rfl⟩)
 rintro e a w' ⟨rfl,s,h,rfl⟩
 exact h2 s w' h
/-- The same, where the statement may panic: Pn holds of the panic and its world. -/
theorem wp_cut_mergeP {P:Program} {c:Code} {Q:Exit->Act->World->Prop} {l:List Value} {ds:List Deferred} {w:World} (m:List (Option Nat)) (R:(Nat->Value)->World->Prop) (Pn:List PanicEntry->World->Prop)
  (h1:∀Q':Exit->Act->World->Prop,(∀s w',R s w'->Q' .normal ⟨(mergeL m l s).toArray,ds⟩ w')->(∀c l' w',Pn c w'->Q' (.panic c) ⟨l',ds⟩ w')->c.wp P Q' ⟨l.toArray,ds⟩ w)
  (h2:∀s w',R s w'->Q .normal ⟨(mergeL m l s).toArray,ds⟩ w') (h3:∀c l' w',Pn c w'->Q (.panic c) ⟨l',ds⟩ w'):c.wp P Q ⟨l.toArray,ds⟩ w:=by
 refine Code.wp_mono (Q:=fun e a w'=>(e=.normal/\∃s,R s w'/\a=⟨(mergeL m l s).toArray,ds⟩)∨∃c l',e=.panic c/\a=⟨l',ds⟩/\Pn c w') ?_ (h1 _ (fun s w' h=>.inl ⟨rfl,s,h,rfl⟩) fun c l' w' h=>.inr ⟨c,l',rfl,rfl,h⟩)
 rintro e a w' (⟨rfl,s,h,rfl⟩ | ⟨c,l',rfl,rfl,h⟩)
 ·exact h2 s w' h
 ·exact h3 c l' w' h
end Mnc

/- The rules for regions by an invariant, with a word on the frame at a panic: what no operation writes is as it was. Made of XRegInvG by a program. -/
namespace Mnc
open Go
section
variable {P:Program} {Pn:List PanicEntry->World->Prop} {ops:Array Oper} {s0:Nat->Value} {I:(Nat->Bool)->(Nat->Value)->World->Prop} {N:Nat} {ds:List Deferred} {Q:Exit->Act->World->Prop}
theorem wpAny_invK {ro:Option Nat} {n:Nat} (hk:okOps N ops.toList 0=true) (hs:AllSP P Pn ops s0 I ops.toList 0)
  (hQ:∀L s w,I L s w->KeepS ops s0 s->(∀i,i<ops.size->L i=true)->Q .normal (actS N s ds) w) (hP:∀c s w,KeepS ops s0 s->Pn c w->Q (.panic c) (actS N s ds) w) :
  ∀(fuel:Nat) (listed:Array Bool) (s:Nat->Value) (w:World),listed.size=ops.size->listed.toList.count false<=fuel->I (fun j=>listed.getD j false) s w->KeepS ops s0 s ->
   wpAnyIn (G ro) n P .any ops Q fuel listed (actS N s ds) w:=by
 intro fuel
 induction fuel with
 | zero =>
  intro listed s w hz hc hI hkp
  have hr:Region.ready .any ops listed=[]:=by
   cases hr:Region.ready .any ops listed with
   | nil=>rfl
   | cons i l =>
    exfalso
    have hi:i∈Region.ready .any ops listed:=by rw [hr];simp
    have h0:=(mem_ready.1 hi).1
    have hlt:i<listed.size:=by
     rcases Nat.lt_or_ge i listed.size with h' | h'
     ·exact h'
     ·simp [Array.getElem?_eq_none h'] at h0
    have:listed.toList[i]?=some false:=by
     simp [hlt] at h0 ⊢
     exact h0
    have:=List.count_pos_iff.2 (List.mem_of_getElem? this)
    omega
  exact ⟨hr,hQ _ _ _ hI hkp (all_listed hk hz hr)⟩
 | succ fuel ih =>
  intro listed s w hz hc hI hkp
  refine ⟨fun hr=>hQ _ _ _ hI hkp (all_listed hk hz hr),fun i hi=>?_⟩
  obtain ⟨h0,o,ho,haf⟩:=mem_ready.1 hi
  have hlt:i<listed.size:=by
   rcases Nat.lt_or_ge i listed.size with h' | h'
   ·exact h'
   ·simp [Array.getElem?_eq_none h'] at h0
  have hli:listed.toList[i]?=some false:=by
   simp [hlt] at h0 ⊢
   exact h0
  have hcount:=count_set hli
  have hok:=okOps_at hk (i:=i) (o:=o) (by simpa using ho)
  simp only [okOp,Bool.and_eq_true,List.all_eq_true] at hok
  obtain ⟨⟨⟨hrd,hdst⟩,-⟩,hkind⟩:=hok
  have hdst':∀t,o.dst=some t->t<N:=fun t ht=>by
   rw [ht] at hdst
   simpa using hdst
  have hev:execOp (actS N s ds).eval o=execOp (evS s) o:=by
   refine execOp_congr o (fun cs b hb=>?_) fun x hx=>actS_eval fun t ht=>?_
   ·rw [hb] at hkind;cases hkind
   ·have:=hrd x (by simpa using hx)
    rw [ht] at this
    simpa using this
  have hst:=hs.at (i:=i) (o:=o) (by simpa using ho) (fun j=>listed.getD j false) s w hI hkp (afterL_of fun e he hb=>haf e (by simpa using he) hb) (by
   rw [Nat.zero_add]
   simp [hlt] at h0 ⊢
   exact h0)
  rw [Nat.zero_add] at hst
  have next:∀v w',I (upB (fun j=>listed.getD j false) i) (upV s o.dst v) w'->wpAnyIn (G ro) n P .any ops Q fuel (listed.setIfInBounds i true) ((actS N s ds).put o.dst v) w':=by
   intro v w' h
   rw [actS_put hdst']
   refine ih _ _ _ (by simpa using hz) ?_ ?_ (keepS_put hkp ho)
   ·have:(listed.setIfInBounds i true).toList=listed.toList.set i true:=by simp
    rw [this]
    omega
   ·rw [upB_of hlt]
    exact h
  unfold wpOpIn
  simp only [ho]
  rw [actS_yield hk]
  rcases hst with ⟨hw,hrun⟩ | ⟨hw,hK⟩
  ·rw [if_pos hw]
   refine ⟨fun _ _=>trivial,?_⟩
   have hsa:o.semAt (G ro).round (actS N s ds).eval=execOp (actS N s ds).eval o:=Oper.semAt_eq _ _ _ fun c hc=>by
    rw [hc] at hkind
    cases hkind
   rw [hsa,hev]
   generalize (execOp (evS s) o).run P w=r at *
   cases r with
   | ok nx w' =>
    cases nx<;>simp only [RunSP] at hrun<;>simp only [Oper.uponIn]
    case value v=>exact next _ _ hrun
    case skip=>exact next _ _ hrun
    case enter f args =>
     refine ⟨fun h=>(by cases h),CallsIn.mono (callsIn_wide.2 hrun:CallsIn (G ro) (n-1) P f args w' _) ?_⟩
     rintro e w'' (⟨v,rfl,h⟩ | ⟨c,rfl,h⟩)
     ·exact next _ _ h
     ·exact hP _ _ _ hkp h
   | halt x w'=>cases x<;>simp only [RunSP] at hrun
  ·rw [if_neg (by rw [hw];exact Bool.false_ne_true)]
   exact ⟨fun _ _=>trivial,next _ _ hK⟩
/-- **A region that draws its order, by an invariant.** -/
theorem wp_region_drawK {ro:Option Nat} {n:Nat} {id:Nat} {l:List Value} {w:World} (I:(Nat->Bool)->(Nat->Value)->World->Prop) (hm:P.follows .mixedOrders=true) (hk:okOps l.length ops.toList 0=true)
  (h0:I (fun _=>false) (fun t=>l.getD t undef) w.drew) (hs:AllSP P Pn ops (fun t=>l.getD t undef) I ops.toList 0)
  (hQ:∀L s w,I L s w->KeepS ops (fun t=>l.getD t undef) s->(∀i,i<ops.size->L i=true)->Q .normal (actS l.length s ds) w) (hP:∀c s w,KeepS ops (fun t=>l.getD t undef) s->Pn c w->Q (.panic c) (actS l.length s ds) w):(Code.region id ops true).wpIn (G ro) n P Q ⟨l.toArray,ds⟩ w:=by
 refine wpIn_region_any hm ?_
 have ha:(⟨l.toArray,ds⟩:Act)=actS l.length (fun t=>l.getD t undef) ds:=by
  simp only [actS,Act.mk.injEq,and_true]
  apply Array.ext
  ·simp
  ·intro i h1 h2
   have:i<l.length:=by simpa using h1
   simp [this]
 rw [ha]
 refine wpAny_invK hk hs hQ hP _ _ _ _ (by simp) (by simp) ?_ (fun _ _=>rfl)
 have:(fun j=>(Array.replicate ops.size false).getD j false)=fun _=>false:=by
  funext j
  by_cases h:j<ops.size<;>simp [h]
 rw [this]
 exact h0
theorem wpOps_invK {ro:Option Nat} {n:Nat} (hk:okOps N ops.toList 0=true) (hs:AllSP P Pn ops s0 I ops.toList 0)
  (hQ:∀L s w,I L s w->KeepS ops s0 s->(∀i,i<ops.size->L i=true)->Q .normal (actS N s ds) w) (hP:∀c s w,KeepS ops s0 s->Pn c w->Q (.panic c) (actS N s ds) w) :
  ∀(m k:Nat) (s:Nat->Value) (w:World),k+m=ops.size->I (fun j=>decide (j<k)) s w->KeepS ops s0 s ->
   wpOpsIn (G ro) n P ops Q (List.range' k m) (actS N s ds) w:=by
 intro m
 induction m with
 | zero =>
  intro k s w hm hI hkp
  exact hQ _ _ _ hI hkp fun i hi=>by simp;omega
 | succ m ih =>
  intro k s w hm hI hkp
  have hlt:k<ops.size:=by omega
  have ho:ops[k]?=some ops[k]:=by simp [hlt]
  have hok:=okOps_at hk (i:=k) (o:=ops[k]) (by simp [hlt])
  rw [Nat.zero_add] at hok
  simp only [okOp,Bool.and_eq_true,List.all_eq_true,Bool.or_eq_true,Bool.not_eq_true',decide_eq_true_eq] at hok
  obtain ⟨⟨⟨hrd,hdst⟩,haf⟩,hkind⟩:=hok
  have hdst':∀t,(ops[k]).dst=some t->t<N:=fun t ht=>by
   rw [ht] at hdst
   simpa using hdst
  have hev:execOp (actS N s ds).eval ops[k]=execOp (evS s) ops[k]:=by
   refine execOp_congr _ (fun cs b hb=>?_) fun x hx=>actS_eval fun t ht=>?_
   ·rw [hb] at hkind;cases hkind
   ·have:=hrd x (by simpa using hx)
    rw [ht] at this
    simpa using this
  have hst:=hs.at (i:=k) (o:=ops[k]) (by simp [hlt]) (fun j=>decide (j<k)) s w hI hkp
   (afterL_of fun e he hb=>by
    have h1:=(haf e (by simpa using he)).resolve_left (by rw [hb];exact Bool.noConfusion)
    simpa using h1) (by simp)
  rw [Nat.zero_add] at hst
  have next:∀v w',I (upB (fun j=>decide (j<k)) k) (upV s (ops[k]).dst v) w'->wpOpsIn (G ro) n P ops Q (List.range' (k+1) m) ((actS N s ds).put (ops[k]).dst v) w':=by
   intro v w' h
   rw [actS_put hdst']
   refine ih _ _ _ (by omega) ?_ (keepS_put hkp ho)
   rw [←upB_next]
   exact h
  rw [List.range'_succ,wpOpsIn_cons]
  unfold wpOpIn
  simp only [ho]
  rw [actS_yield hk]
  rcases hst with ⟨hw,hrun⟩ | ⟨hw,hK⟩
  ·rw [if_pos hw]
   refine ⟨fun _ _=>trivial,?_⟩
   have hsa:(ops[k]).semAt (G ro).round (actS N s ds).eval=execOp (actS N s ds).eval ops[k]:=Oper.semAt_eq _ _ _ fun c hc=>by
    rw [hc] at hkind
    cases hkind
   rw [hsa,hev]
   generalize (execOp (evS s) ops[k]).run P w=r at *
   cases r with
   | ok nx w' =>
    cases nx<;>simp only [RunSP] at hrun<;>simp only [Oper.uponIn]
    case value v=>exact next _ _ hrun
    case skip=>exact next _ _ hrun
    case enter f args =>
     refine ⟨fun h=>(by cases h),CallsIn.mono (callsIn_wide.2 hrun:CallsIn (G ro) (n-1) P f args w' _) ?_⟩
     rintro e w'' (⟨v,rfl,h⟩ | ⟨c,rfl,h⟩)
     ·exact next _ _ h
     ·exact hP _ _ _ hkp h
   | halt x w'=>cases x<;>simp only [RunSP] at hrun
  ·rw [if_neg (by rw [hw];exact Bool.false_ne_true)]
   exact ⟨fun _ _=>trivial,next _ _ hK⟩
/-- A plain region, by an invariant. -/
theorem wp_region_plainK {ro:Option Nat} {n:Nat} {id:Nat} {l:List Value} {w:World} (I:(Nat->Bool)->(Nat->Value)->World->Prop) (hk:okOps l.length ops.toList 0=true)
  (h0:I (fun _=>false) (fun t=>l.getD t undef) w) (hs:AllSP P Pn ops (fun t=>l.getD t undef) I ops.toList 0)
  (hQ:∀L s w,I L s w->KeepS ops (fun t=>l.getD t undef) s->(∀i,i<ops.size->L i=true)->Q .normal (actS l.length s ds) w) (hP:∀c s w,KeepS ops (fun t=>l.getD t undef) s->Pn c w->Q (.panic c) (actS l.length s ds) w):(Code.region id ops false).wpIn (G ro) n P Q ⟨l.toArray,ds⟩ w:=by
 refine wpIn_region ?_
 rw [act_of_list,List.range_eq_range']
 refine wpOps_invK hk hs hQ hP _ 0 _ _ (by omega) ?_ (fun _ _=>rfl)
 have:(fun j=>decide (j<0))=fun _=>false:=by funext j;simp
 rw [this]
 exact h0
/-- A region, drawn or plain. -/
theorem wp_region_K {b:Bool} {ro:Option Nat} {n:Nat} {id:Nat} {l:List Value} {w:World} (I:(Nat->Bool)->(Nat->Value)->World->Prop) (hm:P.follows .mixedOrders=true) (hk:okOps l.length ops.toList 0=true)
  (h0:I (fun _=>false) (fun t=>l.getD t undef) (startW b w)) (hs:AllSP P Pn ops (fun t=>l.getD t undef) I ops.toList 0)
  (hQ:∀L s w,I L s w->KeepS ops (fun t=>l.getD t undef) s->(∀i,i<ops.size->L i=true)->Q .normal (actS l.length s ds) w) (hP:∀c s w,KeepS ops (fun t=>l.getD t undef) s->Pn c w->Q (.panic c) (actS l.length s ds) w):(Code.region id ops b).wpIn (G ro) n P Q ⟨l.toArray,ds⟩ w:=by
 cases b
 ·exact wp_region_plainK I hk h0 hs hQ hP
 ·exact wp_region_drawK I hm hk h0 hs hQ hP
end
theorem wp_cut_mergeK {P:Program} {c:Code} {Q:Exit->Act->World->Prop} {l:List Value} {ds:List Deferred} {w:World} (m:List (Option Nat)) (R:(Nat->Value)->World->Prop) (Pn:List PanicEntry->World->Prop)
  (h1:∀Q':Exit->Act->World->Prop,(∀s w',R s w'->Q' .normal ⟨(mergeL m l s).toArray,ds⟩ w')->(∀c s w',Pn c w'->Q' (.panic c) ⟨(mergeL m l s).toArray,ds⟩ w')->c.wp P Q' ⟨l.toArray,ds⟩ w)
  (h2:∀s w',R s w'->Q .normal ⟨(mergeL m l s).toArray,ds⟩ w') (h3:∀c s w',Pn c w'->Q (.panic c) ⟨(mergeL m l s).toArray,ds⟩ w'):c.wp P Q ⟨l.toArray,ds⟩ w:=by
 refine Code.wp_mono (Q:=fun e a w'=>(e=.normal/\∃s,R s w'/\a=⟨(mergeL m l s).toArray,ds⟩)∨∃c s,e=.panic c/\a=⟨(mergeL m l s).toArray,ds⟩/\Pn c w') ?_ (h1 _ (fun s w' h=>.inl ⟨rfl,s,h,rfl⟩) fun c s w' h=>.inr ⟨c,s,rfl,rfl,h⟩)
 rintro e a w' (⟨rfl,s,h,rfl⟩ | ⟨c,s,rfl,rfl,h⟩)
 ·exact h2 s w' h
 ·exact h3 c s w' h
end Mnc

/- The rule for drawn regions inside a round of a range over a function; a call may panic. Made of XRegInvP by a program. -/
namespace Mnc
open Go
section
variable {P:Program} {Pn:List PanicEntry->World->Prop} {ops:Array Oper} {s0:Nat->Value} {I:(Nat->Bool)->(Nat->Value)->World->Prop} {N:Nat} {ds:List Deferred} {Q:Exit->Act->World->Prop}
end
end Mnc

/- RegInv's steps with their numbers and slots as numerals. -/
namespace Mnc
open Go
theorem AllS.consN {P:Program} {ops:Array Oper} {s0:Nat->Value} {I:(Nat->Bool)->(Nat->Value)->World->Prop} {o:Oper} {l:List Oper} {k:Nat} (k':Nat) (d:Option Tmp) (hk:k+1=k') (hd:o.dst=d)
  (h:∀L s w,I L s w->KeepS ops s0 s->AfterL o.after.toList L->L k=false->StepS P ops o s w (fun v w'=>I (upB L k) (upV s d v) w')) (t:AllS P ops s0 I l k'):AllS P ops s0 I (o::l) k:=by
 subst hk
 subst hd
 exact ⟨h,t⟩
end Mnc
namespace Mnc
open Go Go.RowKit
theorem bft:¬false=true:=Bool.false_ne_true
theorem nB {p:Prop}:false=true->p:=fun h=>absurd h Bool.false_ne_true
abbrev nn:Option Nat:=none
abbrev n8 (l:List (Option Nat)):List (Option Nat):=none::none::none::none::none::none::none::none::l
theorem lh {p:Prop} (h:p):Go.RowKit.Hid p:=Go.Lib.hid h
theorem cA {Q:Exit->Act->World->Prop} {e:Exit} {a b:Act} {w:World} (h:a=b) (k:Q e b w):Q e a w:=h ▸ k
theorem wsk {P:Program} {Q:Exit->Act->World->Prop} {a:Act} {w:World} {x y:Code} (h:∀K:Act->World->Prop,Go.RowKit.Hid (∀a w,y.wp P Q a w->K a w)->x.wp P (Exit.then K Q) a w):(Code.seq x y).wp P Q a w:=wp_seq_k fun K hK=>h K hK
theorem wpG {P:Program} {c:Code} {Q:Exit->Act->World->Prop} {a:Act} {w:World} (h:c.wpIn (G none) 0 P Q a w):c.wp P Q a w:=(wpIn_wide (n:=0)).1 h
theorem sP {P:Program} {Pn:List PanicEntry->World->Prop} {ops:Array Oper} {o:Oper} {s:Nat->Value} {w:World} {K0:Value->World->Prop} (h:∀K:Value->World->Prop,(∀v w',K0 v w'->K v w')->RunSP P Pn K ((execOp (evS s) o).run P w)) (hw:Region.wanted o (yieldS ops s)=true:=by rfl):StepSP P Pn ops o s w K0:=stepSP hw h
end Mnc
namespace Mnc
open Go Go.RowKit
section
variable {P:Program} {Pn:List PanicEntry->World->Prop} {ops:Array Oper} {s0:Nat->Value} {I:(Nat->Bool)->(Nat->Value)->World->Prop}
theorem aC {o:Oper} {l:List Oper} {k:Nat} (h:∀L s w2,I L s w2->(∀(t:Nat) (_:(ops.toList.any fun o=>o.dst==some t)=false:=by kernel_rfl),s t=s0 t)->AfterL o.after.toList L->L k=false->∀K:Value->World->Prop,(∀{v:Value} {w':World},I (upB L k) (upV s o.dst v) w'->K v w')->RunSP P Pn K ((execOp (evS s) o).run P w2))
    (t:AllSP P Pn ops s0 I l (k+1)) (hw:∀s,Region.wanted o (yieldS ops s)=true:=by intro _;rfl):AllSP P Pn ops s0 I (o::l) k:=AllSP.cons (fun L s w a b c d=>stepSP (hw s) fun K hK=>h L s w a b c d K (hK _ _)) t
theorem rF {α:Type} {p:Prop} {a:α}:p->a=a:=fun _=>rfl
theorem aD {o:Oper} {l:List Oper} {k:Nat} (h:∀L s w2,I L s w2->(∀(t:Nat) (_:(ops.toList.any fun o=>o.dst==some t)=false:=by kernel_rfl),s t=s0 t)->AfterL o.after.toList L->L k=false->StepSP P Pn ops o s w2 (fun v w'=>I (upB L k) (upV s o.dst v) w'))
    (t:AllSP P Pn ops s0 I l (k+1)):AllSP P Pn ops s0 I (o::l) k:=AllSP.cons h t
theorem aN {k:Nat}:AllSP P Pn ops s0 I [] k:=AllSP.nil
theorem wG {P:Program} {ops:Array Oper} {ds:List Deferred} {Q:Exit->Act->World->Prop} {b:Bool} {id:Nat} {l:List Value} {w:World} (I:(Nat->Bool)->(Nat->Value)->World->Prop)
    (h0:I (fun _=>false) (fun t=>l.getD t undef) (startW b w)) (hs:AllSP P (fun _ _=>False) ops (fun t=>l.getD t undef) I ops.toList 0)
    (hQ:∀L s w,I L s w->KeepS ops (fun t=>l.getD t undef) s->(∀(i:Nat) (_:i<ops.size:=by decide),L i=true)->Q .normal (actS l.length s ds) w) (hm:P.follows .mixedOrders=true:=by kernel_rfl) (hk:okOps l.length ops.toList 0=true:=by kernel_rfl):(Code.region id ops b).wp P Q ⟨l.toArray,ds⟩ w :=
  wpG (wp_region_G (Pn:=fun _ _=>False) I hm hk h0 hs hQ fun _ _ _ h=>h.elim)
theorem wI {P:Program} {ops:Array Oper} {ds:List Deferred} {Q:Exit->Act->World->Prop} {b:Bool} {id:Nat} {l:List Value} {w:World} {ro:Option Nat} {n:Nat} (I:(Nat->Bool)->(Nat->Value)->World->Prop)
    (h0:I (fun _=>false) (fun t=>l.getD t undef) (startW b w)) (hs:AllSP P (fun _ _=>False) ops (fun t=>l.getD t undef) I ops.toList 0)
    (hQ:∀L s w,I L s w->KeepS ops (fun t=>l.getD t undef) s->(∀(i:Nat) (_:i<ops.size:=by decide),L i=true)->Q .normal (actS l.length s ds) w) (hm:P.follows .mixedOrders=true:=by kernel_rfl) (hk:okOps l.length ops.toList 0=true:=by kernel_rfl):(Code.region id ops b).wpIn (G ro) n P Q ⟨l.toArray,ds⟩ w :=
  wp_region_G (Pn:=fun _ _=>False) I hm hk h0 hs hQ fun _ _ _ h=>h.elim
theorem wH {P:Program} {ops:Array Oper} {ds:List Deferred} {Q:Exit->Act->World->Prop} {b:Bool} {id:Nat} {l:List Value} {w:World} (Pn:List PanicEntry->World->Prop) (I:(Nat->Bool)->(Nat->Value)->World->Prop)
    (h0:I (fun _=>false) (fun t=>l.getD t undef) (startW b w)) (hs:AllSP P Pn ops (fun t=>l.getD t undef) I ops.toList 0)
    (hQ:∀L s w,I L s w->KeepS ops (fun t=>l.getD t undef) s->(∀(i:Nat) (_:i<ops.size:=by decide),L i=true)->Q .normal (actS l.length s ds) w) (hP:∀c s w,Pn c w->Q (.panic c) (actS l.length s ds) w) (hm:P.follows .mixedOrders=true:=by kernel_rfl) (hk:okOps l.length ops.toList 0=true:=by kernel_rfl):(Code.region id ops b).wp P Q ⟨l.toArray,ds⟩ w :=
  wpG (wp_region_G (Pn:=Pn) I hm hk h0 hs hQ hP)
end
theorem fq {ops:Array Oper} {l:List Value} {s:Nat->Value} {m:List (Option Nat)} {ds:List Deferred} (hk:KeepS ops (fun t=>l.getD t undef) s) (hm:okMask ops m 0=true:=by kernel_rfl) (hl:m.length=l.length:=by kernel_rfl) :
    actS l.length s ds=⟨(mergeL m l s).toArray,ds⟩:=frame_eq hk hm hl
theorem wc {P:Program} {c:Code} {Q:Exit->Act->World->Prop} {l:List Value} {ds:List Deferred} {w:World} (m:List (Option Nat)) (R:(Nat->Value)->World->Prop)
    (h1:∀Q':Exit->Act->World->Prop,(∀s w',R s w'->Q' .normal ⟨(mergeL m l s).toArray,ds⟩ w')->c.wp P Q' ⟨l.toArray,ds⟩ w)
    (h2:∀s w',R s w'->Q .normal ⟨(mergeL m l s).toArray,ds⟩ w'):c.wp P Q ⟨l.toArray,ds⟩ w :=
  wp_cut_mergeP m R (fun _ _=>False) (fun Q' h _=>h1 Q' h) h2 fun _ _ _ h=>h.elim
end Mnc
