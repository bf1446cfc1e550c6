/- Plain data by value: a struct or an array, at any depth, of integers alone: its cells, and that its reading does not depend on the world. -/
import Derived.Test.YthhkcfpljgdnhaaGreatProg
import Derived.DeepKeys2
import Derived.ProofKit
import Derived.OpenShut
import Derived.Lib.SmallJoins
import Derived.Test.YthhkcfpljgdnhaaGreatRows
import Derived.ChangeSame
import Derived.ChangeVars
import Derived.Carry
import Derived.Deep.Slices
import Derived.Test.YthhkcfpljgdnhaaGreatDrT
namespace Go.Proofs.YthhkcfpljgdnhaaGreat
open Go.ChangeShapes Go.WideShapes Go.RowKit Go.Joins

/-- The kinds of the cells of a plain type, in order. -/
def kindsOf (P:Program):Nat->TypeId->Option (List IntKind)
 | 0,_=>none
 | m+1,t =>
  match P.underlying t with
  | some (.int k)=>some [k]
  | some (.array n e)=>if P.cellsOf t=n*P.cellsOf e then (kindsOf P m e).map fun ks=>((List.range n).map fun _=>ks).flatten else none
  | some (.struct fs)=>if P.runs 0 fs.toList=some (P.cellsOf t) then (fs.toList.mapM fun f=>kindsOf P m f.type).map List.flatten else none
  | _=>none

def toV (p:IntKind×Int):Value:=.int p.1 p.2
def Cells (ks:List IntKind) (cs:List Value):Prop:=∃l:List (IntKind×Int),l.map (·.1)=ks/\cs=l.map toV/\∀p∈l,(Lit.int p.1 p.2).wf=true

theorem Cells.append {ks ks':List IntKind} {cs cs':List Value} (h:Cells ks cs) (h':Cells ks' cs'):Cells (ks++ks') (cs++cs'):=by
 obtain ⟨l,h1,h2,h3⟩:=h
 obtain ⟨l',h1',h2',h3'⟩:=h'
 refine ⟨l++l',by simp [h1,h1'],by simp [h2,h2'],fun p hp=>?_⟩
 rcases List.mem_append.1 hp with k | k
 ·exact h3 p k
 ·exact h3' p k

theorem gather {α:Type} {ch:α->List Value} {kk:α->List IntKind}:∀{L:List α},(∀x∈L,Cells (kk x) (ch x))->Cells (L.map kk).flatten (L.map ch).flatten
 | [],_=>⟨[],rfl,rfl,fun _ h=>by cases h⟩
 | x::L,h=>by
  rw [List.map_cons,List.map_cons,List.flatten_cons,List.flatten_cons]
  exact (h x (by simp)).append (gather fun y hy=>h y (by simp [hy]))

theorem mapM_to {α β:Type} {f g:α->Option β}:∀{L:List α} {xs:List β},L.mapM f=some xs->(∀x∈L,∀y,f x=some y->g x=some y)->L.mapM g=some xs
 | [],xs,h,_=>h
 | x::L,xs,h,hall=>by
  rw [List.mapM_cons] at h ⊢
  simp only [bind,Option.bind_eq_some_iff,pure,Option.some.injEq] at h ⊢
  obtain ⟨a,ha,as',has,rfl⟩:=h
  exact ⟨a,hall x (by simp) a ha,as',mapM_to has (fun y hy=>hall y (by simp [hy])),rfl⟩

theorem mapM_has {α β:Type} {f:α->Option β}:∀{L:List α} {xs:List β},L.mapM f=some xs->(∀x∈L,∃y∈xs,f x=some y)/\∀y∈xs,∃x∈L,f x=some y
 | [],xs,h=>by
  simp at h
  subst h
  exact ⟨fun _ h=>(by cases h),fun _ h=>by cases h⟩
 | x::L,xs,h=>by
  rw [List.mapM_cons] at h
  simp only [bind,Option.bind_eq_some_iff,pure,Option.some.injEq] at h
  obtain ⟨a,ha,as',has,rfl⟩:=h
  obtain ⟨i1,i2⟩:=mapM_has has
  constructor
  ·intro y hy
   rcases List.mem_cons.1 hy with rfl | hy
   ·exact ⟨a,by simp,ha⟩
   ·obtain ⟨z,hz,e⟩:=i1 y hy
    exact ⟨z,by simp [hz],e⟩
  ·intro y hy
   rcases List.mem_cons.1 hy with rfl | hy
   ·exact ⟨x,by simp,ha⟩
   ·obtain ⟨z,hz,e⟩:=i2 y hy
    exact ⟨z,by simp [hz],e⟩

theorem mapM_kinds {α:Type} {f:α->Option (List IntKind)}:∀{L:List α} {kss:List (List IntKind)},L.mapM f=some kss->kss=L.map fun x=>(f x).getD []
 | [],kss,h=>by simp at h;subst h;rfl
 | x::L,kss,h=>by
  rw [List.mapM_cons] at h
  simp only [bind,Option.bind_eq_some_iff,pure,Option.some.injEq] at h
  obtain ⟨a,ha,as',has,rfl⟩:=h
  rw [List.map_cons,ha,mapM_kinds has]
  rfl

section
variable {H:Type} {enc:TypeId×Value->H} {P:Program}

theorem plain_trod:∀(m:Nat) (t:TypeId) (ks:List IntKind),kindsOf P m t=some ks->∀(w:World) (base:Nat) (sp:Nat->Bool) (held:Bool) (f:Nat) (cs:List Value) (x:DataW H×List MemPlace),DataW.trod enc P w base sp held f t cs=some x ->
  x.2=[]/\Cells ks cs/\∀(w':World) (base':Nat) (sp':Nat->Bool) (held':Bool),DataW.trod enc P w' base' sp' held' f t cs=some x
 | 0,_,_,h=>by simp [kindsOf] at h
 | m+1,t,ks,hk=>by
  intro w base sp held f cs x h
  unfold kindsOf at hk
  cases f with
  | zero=>simp [DataW.trod] at h
  | succ f =>
   cases hu:P.underlying t with
   | none=>simp [hu] at hk
   | some kd =>
    cases kd
    case int k =>
     simp only [hu,Option.some.injEq] at hk
     subst hk
     obtain ⟨n,rfl,rfl,hw⟩:=DataW.trod_int hu h
     refine ⟨rfl,⟨[(k,n)],rfl,rfl,fun p hp=>?_⟩,fun w' base' sp' held'=>?_⟩
     ·rw [List.mem_singleton] at hp
      subst hp
      exact hw
     ·simp [DataW.trod,hu,hw]
    case array n e =>
     simp only [hu] at hk
     split at hk
     ·rename_i hc
      obtain ⟨ks',hk',rfl⟩:=Option.map_eq_some_iff.1 hk
      unfold DataW.trod at h
      simp only [hu] at h
      split at h
      ·rename_i hl
       obtain ⟨xs,hxs,rfl⟩:=Option.map_eq_some_iff.1 h
       obtain ⟨g1,g2⟩:=mapM_has hxs
       have ih:=fun i (_:i∈List.range n) y (hy:DataW.trod enc P w base sp held f e ((cs.drop (i*P.cellsOf e)).take (P.cellsOf e))=some y)=>plain_trod m e ks' hk' w base sp held f _ y hy
       refine ⟨?_,?_,fun w' base' sp' held'=>?_⟩
       ·show xs.flatMap (·.2)=[]
        rw [List.flatMap_eq_nil_iff]
        intro y hy
        obtain ⟨i,hi,e1⟩:=g2 y hy
        exact (ih i hi y e1).1
       ·have:=gather (L:=List.range n) (ch:=fun i=>(cs.drop (i*P.cellsOf e)).take (P.cellsOf e)) (kk:=fun _=>ks') (fun i hi=>by
         obtain ⟨y,_,e1⟩:=g1 i hi
         exact (ih i hi y e1).2.1)
        rw [chunks_flatten _ n cs (by rw [hl,hc])] at this
        exact this
       ·unfold DataW.trod
        simp only [hu]
        rw [if_pos hl,mapM_to hxs (fun i hi y hy=>(ih i hi y hy).2.2 w' base' sp' held')]
        rfl
      ·cases h
     ·cases hk
    case struct fs =>
     simp only [hu] at hk
     split at hk
     ·rename_i hc
      obtain ⟨kss,hk',rfl⟩:=Option.map_eq_some_iff.1 hk
      unfold DataW.trod at h
      simp only [hu] at h
      split at h
      ·rename_i hl
       obtain ⟨xs,hxs,rfl⟩:=Option.map_eq_some_iff.1 h
       obtain ⟨g1,g2⟩:=mapM_has hxs
       obtain ⟨k1,_⟩:=mapM_has hk'
       have ih:∀(fd:Field),fd∈fs.toList->∀y,DataW.trod enc P w base sp held f fd.type ((cs.drop fd.offset).take (P.cellsOf fd.type))=some y ->
         y.2=[]/\Cells ((kindsOf P m fd.type).getD []) ((cs.drop fd.offset).take (P.cellsOf fd.type))/\∀(w':World) (base':Nat) (sp':Nat->Bool) (held':Bool),DataW.trod enc P w' base' sp' held' f fd.type ((cs.drop fd.offset).take (P.cellsOf fd.type))=some y:=by
        intro fd hfd y hy
        obtain ⟨kz,_,e2⟩:=k1 fd hfd
        have h3:=plain_trod m fd.type kz e2 w base sp held f _ y hy
        have e3:(kindsOf P m fd.type).getD []=kz:=by rw [e2];rfl
        rw [←e3] at h3
        exact h3
       refine ⟨?_,?_,fun w' base' sp' held'=>?_⟩
       ·show xs.flatMap (·.2)=[]
        rw [List.flatMap_eq_nil_iff]
        intro y hy
        obtain ⟨i,hi,e1⟩:=g2 y hy
        exact (ih i hi y e1).1
       ·have:=gather (L:=fs.toList) (ch:=fun fd:Field=>(cs.drop fd.offset).take (P.cellsOf fd.type)) (kk:=fun fd:Field=>(kindsOf P m fd.type).getD []) (fun fd hfd=>by
         obtain ⟨y,_,e1⟩:=g1 fd hfd
         exact (ih fd hfd y e1).2.1)
        rw [fields_flatten cs fs.toList 0 _ hc hl,←mapM_kinds hk'] at this
        exact this
       ·unfold DataW.trod
        simp only [hu]
        rw [if_pos hl,mapM_to hxs (fun fd hfd y hy=>(ih fd hfd y hy).2.2 w' base' sp' held')]
        rfl
      ·cases h
     ·cases hk
    all_goals (simp [hu] at hk;done)

/-- A struct by value, opened: its cells are integers; it reads the same in every world. -/
theorem open_struct {m:Nat} {t:TypeId} {ks:List IntKind} {fs:Array Field} (hk:kindsOf P m t=some ks) (hs:P.underlying t=some (.struct fs)) {w:World} {base b0:Nat} {sp:Nat->Bool} {held:Bool} {r:Reach} {v:Value} {d:DataW H} {p:List MemPlace}
  (hv:Value.okWide P w r b0 t v) (h:DataW.Trod enc P w base sp held t v d p) :
  p=[]/\(∃l:List (IntKind×Int),l.map (·.1)=ks/\v=.agg (l.map toV).toArray/\∀p∈l,(Lit.int p.1 p.2).wf=true)/\∀(w':World) (base':Nat) (sp':Nat->Bool) (held':Bool),DataW.Trod enc P w' base' sp' held' t v d []:=by
 obtain ⟨cs,rfl,hsz⟩:=okWide_struct hs hv
 obtain ⟨fuel,hf⟩:=h
 obtain ⟨h1,⟨l,e1,e2,e3⟩,h3⟩:=plain_trod m t ks hk w base sp held fuel _ _ hf
 simp only at h1
 subst h1
 refine ⟨rfl,⟨l,e1,?_,e3⟩,fun w' base' sp' held'=>⟨fuel,h3 w' base' sp' held'⟩⟩
 have e4:cs.toList=l.map toV:=e2
 rw [←e4]

theorem map_cons_inv {k:IntKind} {ks:List IntKind} {l:List (IntKind×Int)} (h:l.map (·.1)=k::ks):∃(n:Int) (l':List (IntKind×Int)),l=(k,n)::l'/\l'.map (·.1)=ks:=by
 cases l with
 | nil=>cases h
 | cons p l' =>
  obtain ⟨k',n⟩:=p
  simp only [List.map_cons,List.cons.injEq] at h
  obtain ⟨rfl,h⟩:=h
  exact ⟨n,l',rfl,h⟩
theorem map_nil_inv {l:List (IntKind×Int)} (h:l.map (·.1)=[]):l=[]:=by simpa using h
theorem wf_i64 {n:Int} (h:(Lit.int .i64 n).wf=true):-9223372036854775808<=n/\n<=9223372036854775807:=by
 simp only [Lit.wf,Bool.and_eq_true,decide_eq_true_eq] at h
 exact h
end
end Go.Proofs.YthhkcfpljgdnhaaGreat
namespace Go.Proofs.YthhkcfpljgdnhaaGreat
open Go.ChangeShapes Go.WideShapes Go.ChangeAt Go.RowKit Go.Deep

theorem own:ownKnob Tryz.prog.godebug=none:=by kernel_rfl
theorem laidOut:laidOutB Tryz.prog=true:=by kernel_rfl

section
variable {H:Type} {enc:TypeId×Value->H} {P:Program}

theorem trodAll_stays (hl:laidOutB P=true) {W W':World} (hb:Below W.heap.size W W') (sp:Nat->Bool):∀(ts:List TypeId) (vs:List Value) (ds:List (DataW H)) (ps:List MemPlace),
  (∀t∈ts,P.readableRec t=true/\t<P.types.size)->DataW.TrodAll enc P W 0 (fun _=>true) true ts vs ds ps->(∀x∈ps,x.block<W.heap.size)->(∀x∈ps,sp x.block=true)->DataW.TrodAll enc P W' 0 sp true ts vs ds ps
 | [],[],[],ps,_,h,_,_=>h
 | t::ts,v::vs,d::ds,ps,ht,h,hlt,hsp=>by
  obtain ⟨p,q,h1,h2,rfl⟩:=h
  obtain ⟨r1,r2⟩:=ht t (by simp)
  refine ⟨p,q,WideElems.Trod_stays hl r1 r2 h1 (fun x hx=>hb.same (hlt x (by simp [hx]))) (fun x hx=>hsp x (by simp [hx])),?_,rfl⟩
  exact trodAll_stays hl hb sp ts vs ds q (fun x hx=>ht x (by simp [hx])) h2 (fun x hx=>hlt x (by simp [hx])) (fun x hx=>hsp x (by simp [hx]))
 | [],_::_,_,_,_,h,_,_=>by cases h
 | [],[],_::_,_,_,h,_,_=>by cases h
 | _::_,[],_,_,_,h,_,_=>by cases h
 | _::_,_::_,[],_,_,h,_,_=>by cases h

/-- The last step of a row of which 'Below' alone is known. -/
theorem post_below {f:Func} {s:ChangeSpec} {apart fresh handsOn again:Bool} {W W':World} {args:Array Value} {v:Value} {ds gs:List (DataW H)} {before pa pv:List MemPlace}
  (hW:DataW.Whole enc P f.params.toList s.vars apart W args.toList ds gs before)
  (hres:∀(b:Nat) (sp:Nat->Bool) (hd:Bool),DataW.TrodAll enc P W' b sp hd f.resultTypes.toList (v.resultList f.resultTypes.size) (s.fn H (ds++gs)).results [])
  (hargs:∀sp:Nat->Bool,(∀p∈before,sp p.block=true)->DataW.TrodAll enc P W' 0 sp true f.params.toList args.toList (s.fn H (ds++gs)).args pa)
  (hvars:∀sp:Nat->Bool,(∀p∈before,sp p.block=true)->DataW.TrodVars enc P W' sp s.vars (s.fn H (ds++gs)).vars pv)
  (hps:before=pa++pv) (hb:Below W.heap.size W W')
  (hok:∀(j:Nat) (t:TypeId) (r:Value),f.resultTypes[j]?=some t->(v.resultList f.resultTypes.size)[j]?=some r->Value.okWide P W' .any 0 t r) :
  s.post enc P f apart fresh handsOn again W args v W':=by
 have hin:∀p∈before,p.block<W.heap.size:=fun p hp=>hW.lt p hp
 have hsp:∀p∈before,(fun b=>decide (b<W.heap.size)) p.block=true:=fun p hp=>by simpa using hin p hp
 refine ⟨ds,gs,before,[],pa,pv,hW,hres _ _ _,hargs _ hsp,hvars _ hsp,World.keptBut_mono (fun p hp=>⟨hp,?_⟩) (hb.frame (·∈before)),fun _=>?_⟩
 ·rw [hps,List.mem_append] at hp
  exact Or.inr hp
 ·obtain ⟨_,_,_,_,_,hz,hn⟩:=hW
  refine ⟨hok,_,_,([]++pa)++pv,⟨[]++pa,pv,trodAll_append (hargs _ (fun _ _=>rfl)) (hres _ _ _),hvars _ (fun _ _=>rfl),rfl,fun b off hp=>?_,fun ha=>?_⟩,fun p hp _=>?_⟩
  ·have hi:MemPlace.cell b off∈before:=by rw [hps];simpa using hp
   rw [hb.frozen (hin _ hi)]
   exact hz b off hi
  ·have:=hn ha
   rw [hps] at this
   simpa using this
  ·rw [hps]
   simpa using hp

end
theorem wf_u8 {n:Int} (h:(Lit.int .u8 n).wf=true):0<=n/\n<256:=by
 simp only [Lit.wf,Bool.and_eq_true,decide_eq_true_eq] at h
 have h1:=h.1
 have h2:=h.2
 simp [IntKind.min,IntKind.max,IntKind.bits,IntKind.signed] at h1 h2
 omega
section
variable {H:Type} {enc:TypeId×Value->H} {P:Program}
end

end Go.Proofs.YthhkcfpljgdnhaaGreat
namespace Go.Proofs.YthhkcfpljgdnhaaGreat
open Go.ChangeShapes Go.WideShapes Go.ChangeAt Go.RowKit Go.Deep Mnc
section
variable {H:Type} {enc:TypeId×Value->H} {P:Program}
/-- The elements of a slice of plain structs that is a cell. -/
theorem cell_elems {t e:TypeId} {ks:List IntKind} (ht:P.underlying t=some (.slice e)) (hk:kindsOf P 8 e=some ks) (hc:P.cellsOf e=ks.length) {W:World} {r:Reach} {b0 base fuel:Nat} {held:Bool} {x:Value} {y:DataW H×List MemPlace}
  (hv:Cell.okWide P W r b0 t x) (hf:DataW.trod enc P W base (fun _=>true) held fuel t [x]=some y) :
  x=.slice none 0 0∨∃(b off n cap:Nat),x=.slice (some ⟨b,off,none⟩) n cap/\n<=cap/\cap<=9223372036854775807 /\
   ∀i,i<n->∃l:List (IntKind×Int),l.map (·.1)=ks/\(∀q∈l,(Lit.int q.1 q.2).wf=true)/\∀j u,(l.map toV)[j]?=some u->W.cell? ⟨b,off+(i*ks.length+j),none⟩=some u:=by
 obtain ⟨d,p⟩:=y
 rcases open_slice ht hf with ⟨hcs,_⟩ | ⟨a,len',cap',m,n,D,Pl,hcs,hb,hl,hm,hmm,hx,hi⟩
 ·left
  simpa using hcs
 ·right
  simp only [List.cons.injEq,and_true] at hcs
  subst hcs
  have hspot:a.spot=none:=by
   simp only [Cell.okWide,Cell.ok,ht] at hv
   exact hv.2.2.2.1
  obtain ⟨b,off,sp⟩:=a
  simp only at hspot
  subst hspot
  have hcap:cap'<=9223372036854775807:=by unfold maxLen at hm;omega
  refine ⟨b,off,len',cap',rfl,hl,hcap,fun i hin=>?_⟩
  obtain ⟨cs',hc',ht'⟩:=hi i (by rw [hmm];simp;omega)
  obtain ⟨_,⟨l,e1,e2,e3⟩,_⟩:=plain_trod 8 e ks hk W base _ held n cs' _ ht'
  refine ⟨l,e1,e3,fun j u hu=>?_⟩
  obtain ⟨_,hlen,hcell⟩:=World.cells?_some hc'
  have hj:j<ks.length:=by
   have:=(List.getElem?_eq_some_iff.1 hu).1
   rw [List.length_map] at this
   rw [←e1,List.length_map]
   exact this
  have:=hcell j (by rw [hc];exact hj)
  rw [←e2] at hu
  rw [hu,add_plain,add_plain] at this
  rw [hc] at this
  rw [←Nat.add_assoc]
  exact this
end
theorem b8 {n:Int} (h:0<=n/\n<256):0<=n/\n<=255:=⟨h.1,by omega⟩
theorem wf_i16 {n:Int} (h:(Lit.int .i16 n).wf=true):-32768<=n/\n<=32767:=by
 simp only [Lit.wf,Bool.and_eq_true,decide_eq_true_eq] at h
 have h1:=h.1
 have h2:=h.2
 simp [IntKind.min,IntKind.max,IntKind.bits,IntKind.signed] at h1 h2
 omega
theorem wf_u16 {n:Int} (h:(Lit.int .u16 n).wf=true):0<=n/\n<=65535:=by
 simp only [Lit.wf,Bool.and_eq_true,decide_eq_true_eq] at h
 have h1:=h.1
 have h2:=h.2
 simp [IntKind.min,IntKind.max,IntKind.bits,IntKind.signed] at h1 h2
 omega
theorem wf_u8' {n:Int} (h:(Lit.int .u8 n).wf=true):0<=n/\n<=255:=by
 simp only [Lit.wf,Bool.and_eq_true,decide_eq_true_eq] at h
 have h1:=h.1
 have h2:=h.2
 simp [IntKind.min,IntKind.max,IntKind.bits,IntKind.signed] at h1 h2
 omega
theorem kinds_Bend:kindsOf Tryz.prog 8 28=some [.u8,.i64,.i64]:=by kernel_rfl
theorem kinds_Term:kindsOf Tryz.prog 8 68=some [.u8,.i16,.u8]:=by kernel_rfl
section
variable {H:Type} {enc:TypeId×Value->H} {W:World} {r:Reach} {b0 base:Nat} {held:Bool} {v:Value} {d:DataW H} {p:List MemPlace}
theorem list_ofT {α:Type} {R:Nat->α->Prop}:∀n:Nat,(∀i,i<n->∃x,R i x)->∃l:List α,l.length=n/\∀i x,l[i]?=some x->R i x
 | 0,_=>⟨[],rfl,fun i x h=>by simp at h⟩
 | n+1,h=>by
  obtain ⟨l,h1,h2⟩:=list_ofT n fun i hi=>h i (by omega)
  obtain ⟨x,hx⟩:=h n (by omega)
  refine ⟨l++[x],by simp [h1],fun i y hy=>?_⟩
  rcases Nat.lt_or_ge i n with hi | hi
  ·rw [List.getElem?_append_left (by omega)] at hy
   exact h2 i y hy
  ·rw [List.getElem?_append_right (by omega),h1] at hy
   obtain rfl:i=n:=by
    have:=(List.getElem?_eq_some_iff.1 hy).1
    simp at this
    omega
   simp at hy
   subst hy
   exact hx
theorem three_kindsT {k0 k1 k2:IntKind} {l:List (IntKind×Int)} (h:l.map (·.1)=[k0,k1,k2]):∃x y z,l=[(k0,x),(k1,y),(k2,z)]:=by
 match l,h with
 | [(a,x),(b,y),(c,z)],h =>
  simp only [List.map_cons,List.map_nil,List.cons.injEq,and_true] at h
  obtain ⟨rfl,rfl,rfl⟩:=h
  exact ⟨x,y,z,rfl⟩
set_option maxRecDepth 100000 in
/-- A draft by value, opened. -/
theorem open_draft (hv:Value.okWide Tryz.prog W r b0 26 v) (h:DataW.Trod enc Tryz.prog W base (fun _=>true) held 26 v d p) :
  ∃(c z:Int) (ao:Option Addr) (cap:Nat) (ts:List Tm),v=.agg #[.int .i16 c,.slice ao ts.length cap,.int .u16 z]/\(-32768<=c/\c<=32767)/\(0<=z/\z<=65535)/\TmSl W ao cap ts:=by
 have hv2:=hv
 obtain ⟨cs,rfl,hsz⟩:=okWide_struct Tryz.underlying26 hv
 obtain ⟨fuel,hf⟩:=h
 have hf':DataW.trod enc Tryz.prog W base (fun _=>true) held fuel 26 cs.toList=some (d,p):=hf
 rw [show Tryz.prog.cellsOf 26=3 by kernel_rfl] at hsz
 obtain ⟨v0,v1,v2,rfl⟩:∃v0 v1 v2,cs=#[v0,v1,v2]:=by
  obtain ⟨l⟩:=cs
  match l,hsz with
  | [x,y,z],_=>exact ⟨x,y,z,rfl⟩
 obtain ⟨xs,n,_,hx,hl,hlen,hfd⟩:=DataW.trod_struct Tryz.underlying26 hf'
 obtain ⟨y0,y1,y2,rfl⟩:∃y0 y1 y2,xs=[y0,y1,y2]:=by
  match xs,hlen with
  | [y0,y1,y2],_=>exact ⟨y0,y1,y2,rfl⟩
 have f0:DataW.trod enc Tryz.prog W base (fun _=>true) held n 22 ((([v0,v1,v2]:List Value).drop 0).take (Tryz.prog.cellsOf 22))=some y0:=hfd 0 _ rfl
 have f1:DataW.trod enc Tryz.prog W base (fun _=>true) held n 23 ((([v0,v1,v2]:List Value).drop 1).take (Tryz.prog.cellsOf 23))=some y1:=hfd 1 _ rfl
 have f2:DataW.trod enc Tryz.prog W base (fun _=>true) held n 24 ((([v0,v1,v2]:List Value).drop 2).take (Tryz.prog.cellsOf 24))=some y2:=hfd 2 _ rfl
 rw [show Tryz.prog.cellsOf 22=1 by kernel_rfl] at f0
 rw [show Tryz.prog.cellsOf 23=1 by kernel_rfl] at f1
 rw [show Tryz.prog.cellsOf 24=1 by kernel_rfl] at f2
 obtain ⟨c,e0,_,w0⟩:=DataW.trod_int Tryz.underlying22 f0
 obtain ⟨z,e2,_,w2⟩:=DataW.trod_int Tryz.underlying24 f2
 simp only [List.drop_zero,List.take_succ_cons,List.take_zero,List.drop_succ_cons,List.cons.injEq,and_true] at e0 e2 f1
 subst e0 e2
 have hcell:Cell.okWide Tryz.prog W r b0 23 v1:=by
  simp only [Value.okWide,Tryz.underlying26] at hv2
  obtain ⟨cs,hcs,_,tys,ht,_,hrow⟩:=hv2
  rw [show Tryz.prog.cellTypes Tryz.prog.depth 26=some [22,23,24] by kernel_rfl] at ht
  cases ht
  cases hcs
  obtain ⟨u,hu,hc⟩:=hrow 1 v1 rfl
  have:u=23:=(Option.some.inj hu).symm
  subst this
  exact hc
 rcases cell_elems Tryz.underlying23 kinds_Term (by kernel_rfl) hcell f1 with rfl | ⟨b,off,m,cap,rfl,hm,hcap,hel⟩
 ·exact ⟨c,z,none,0,[],rfl,wf_i16 w0,wf_u16 w2,⟨Nat.le_refl _,by omega,fun _=>rfl,fun a e=>by (cases e),by simp,fun a e=>by (cases e)⟩⟩
 ·obtain ⟨l,h1,h2⟩:=list_ofT m (R:=fun i (s:Tm)=>s.wf/\W.cell? ⟨b,off+i*3,none⟩=some (.int .u8 s.1)/\W.cell? ⟨b,off+i*3+1,none⟩=some (.int .i16 s.2.1)/\W.cell? ⟨b,off+i*3+2,none⟩=some (.int .u8 s.2.2)) (fun i hi=>by
   obtain ⟨q,e1,e2,e3⟩:=hel i hi
   obtain ⟨x,y,z,rfl⟩:=three_kindsT e1
   refine ⟨(x,y,z),⟨wf_u8' (e2 (.u8,x) (by simp)),wf_i16 (e2 (.i16,y) (by simp)),wf_u8' (e2 (.u8,z) (by simp))⟩,e3 0 _ rfl,e3 1 _ rfl,e3 2 _ rfl⟩)
  refine ⟨c,z,some ⟨b,off,none⟩,cap,l,by rw [h1],wf_i16 w0,wf_u16 w2,⟨by omega,hcap,fun e=>by (cases e),fun a e=>by cases e;rfl,fun x hx=>?_,fun a e i s hs=>?_⟩⟩
  ·obtain ⟨i,hi⟩:=List.mem_iff_getElem?.1 hx
   exact (h2 i x hi).1
  ·cases e
   exact (h2 i s hs).2
end
end Go.Proofs.YthhkcfpljgdnhaaGreat
