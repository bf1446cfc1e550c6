/- Package taylor: boxes that hold intervals one behind the other (models, intervals, totals): loads and stores of an interval and of a model. -/
import Derived.Deep.MidRow
import Derived.RangeFuncRecord
import Derived.Test.YthhkcfpljgdnhaaGreatFixX
import Derived.Test.YthhkcfpljgdnhaaGreatTayPl
import Derived.ChangeKeysEq
set_option maxRecDepth 100000
namespace Go.Proofs.YthhkcfpljgdnhaaGreat
open Go.RowKit Mnc

def mc (a:List (Int×Int)):List Value:=a.flatMap fun x=>[.int .i64 x.1,.int .i64 x.2]
def mval (a:List (Int×Int)):Value:=.agg (mc a).toArray
def cobj (t:TypeId) (a:List (Int×Int)):Obj:=.cells (mc a).toArray t (0,0)
def sval (x:Int×Int):Value:=.agg #[.int .i64 x.1,.int .i64 x.2]
theorem mc_cons (x:Int×Int) (a:List (Int×Int)):mc (x::a)=.int .i64 x.1::.int .i64 x.2::mc a:=rfl
theorem mc_length (a:List (Int×Int)):(mc a).length=2*a.length:=by
 induction a with
 | nil=>rfl
 | cons x a ih=>rw [mc_cons,List.length_cons,List.length_cons,ih,List.length_cons];omega
theorem mc_get (a:List (Int×Int)):∀p,p<a.length->(mc a)[p*2]?=some (.int .i64 (tAt a p).1)/\(mc a)[p*2+1]?=some (.int .i64 (tAt a p).2):=by
 induction a with
 | nil=>intro p hp;simp at hp
 | cons x a ih =>
  intro p hp
  rw [mc_cons]
  cases p with
  | zero=>exact ⟨rfl,rfl⟩
  | succ p =>
   have h:=ih p (by simpa using hp)
   rw [show (p+1)*2=p*2+1+1 by omega]
   exact h
theorem mc_set (a:List (Int×Int)) (x:Int×Int):∀p,p<a.length->mc (a.set p x)=((mc a).set (p*2) (.int .i64 x.1)).set (p*2+1) (.int .i64 x.2):=by
 induction a with
 | nil=>intro p hp;simp at hp
 | cons y a ih =>
  intro p hp
  cases p with
  | zero=>rfl
  | succ p =>
   rw [show (p+1)*2=p*2+1+1 by omega]
   simp only [List.set_cons_succ,mc_cons]
   rw [ih p (by simpa using hp)]
theorem mc_one (a:List (Int×Int)):((mc a).toArray).all (·.oneCell')=true:=by
 induction a with
 | nil=>simp [mc]
 | cons x a ih =>
  rw [mc_cons]
  simp at ih ⊢
  exact ⟨rfl,rfl,ih⟩
section
variable {W:World} {B:Nat} {t:TypeId} {a:List (Int×Int)}
theorem cobj_cell (h:W.heap[B]?=some (cobj t a)) (j:Nat):W.cell? ⟨B,j,none⟩=(mc a)[j]?:=by
 rw [cell_of_row W B j _ _ _ h];simp
theorem cobj_range (h:W.heap[B]?=some (cobj t a)) {p:Nat} (hp:p<a.length):W.rangeAt B (p*2) [.int .i64 (tAt a p).1,.int .i64 (tAt a p).2]:=by
 intro j v hv
 rw [cobj_cell h]
 obtain ⟨h0,h1⟩:=mc_get a p hp
 rcases j with _ | _ | j
 ·simpa [h0] using hv
 ·simpa [h1] using hv
 ·simp at hv
theorem cobj_all (h:W.heap[B]?=some (cobj t a)):W.rangeAt B 0 (mc a):=by
 intro j v hv
 rw [cobj_cell h,Nat.zero_add]
 exact hv
theorem sp_load (h:W.heap[B]?=some (cobj t a)) {p:Nat} (hp:p<a.length):(Instr.loadAt 31 (.pointer (some ⟨B,p*2,none⟩))).run Tryz.prog W=.ok (sval (tAt a p)) W:=by
 obtain ⟨d,hd⟩:=Option.isSome_iff_exists.1 (show (Tryz.prog.underlying 31).isSome=true by kernel_rfl)
 have hr:d.isRow=true:=by
  have hm:(Tryz.prog.underlying 31).map TypeDesc.isRow=some true:=by kernel_rfl
  rw [hd] at hm
  exact Option.some.inj hm
 exact run_loadAt_mid W B (p*2) _ _ d (cobj_range h hp) hd hr (by kernel_rfl)
theorem md_load (h:W.heap[B]?=some (cobj t a)) (hl:a.length=22):(Instr.loadAt 34 (.pointer (some ⟨B,0,none⟩))).run Tryz.prog W=.ok (mval a) W:=by
 obtain ⟨d,hd⟩:=Option.isSome_iff_exists.1 (show (Tryz.prog.underlying 34).isSome=true by kernel_rfl)
 have hr:d.isRow=true:=by
  have hm:(Tryz.prog.underlying 34).map TypeDesc.isRow=some true:=by kernel_rfl
  rw [hd] at hm
  exact Option.some.inj hm
 exact run_loadAt_mid W B 0 _ _ d (cobj_all h) hd hr (by rw [mc_length,hl];kernel_rfl)
theorem md_loadVar (h:W.heap[B]?=some (cobj t a)) (hl:a.length=22):(loadVar 34 ⟨B,0,none⟩).run Tryz.prog W=.ok (mval a) W:=by
 obtain ⟨d,hd⟩:=Option.isSome_iff_exists.1 (show (Tryz.prog.underlying 34).isSome=true by kernel_rfl)
 have hr:d.isRow=true:=by
  have hm:(Tryz.prog.underlying 34).map TypeDesc.isRow=some true:=by kernel_rfl
  rw [hd] at hm
  exact Option.some.inj hm
 exact run_loadVar_mid W B 0 _ _ d (cobj_all h) hd hr (by rw [mc_length,hl];kernel_rfl)
theorem setCell_put {cs:Array Value} {fr:Nat×Nat} (h:W.heap[B]?=some (.cells cs t fr)) (o:Nat) (v:Value):W.setCell ⟨B,o,none⟩ v=W.putObj B (.cells (cs.setIfInBounds o v) t fr):=by
 unfold World.setCell World.putObj
 congr 1
 apply Array.ext
 ·simp
 ·intro i h1 h2
  have hb:=(Array.getElem?_eq_some_iff.1 h)
  by_cases hi:B=i
  ·subst hi
   rw [Array.getElem_modify_self,Array.getElem_setIfInBounds_self,hb.2]
   simp
  ·rw [Array.getElem_modify_of_ne hi,Array.getElem_setIfInBounds_ne _ hi]
theorem setRow_put {cs:Array Value} {fr:Nat×Nat} (h:W.heap[B]?=some (.cells cs t fr)) (vs:Array Value):W.setRow B vs=W.putObj B (.cells vs t fr):=by
 unfold World.setRow World.putObj
 congr 1
 apply Array.ext
 ·simp
 ·intro i h1 h2
  have hb:=(Array.getElem?_eq_some_iff.1 h)
  by_cases hi:B=i
  ·subst hi
   rw [Array.getElem_modify_self,Array.getElem_setIfInBounds_self,hb.2]
  ·rw [Array.getElem_modify_of_ne hi,Array.getElem_setIfInBounds_ne _ hi]
theorem put_put (o o':Obj):(W.putObj B o).putObj B o'=W.putObj B o':=by simp [World.putObj]
theorem sp_put (h:W.heap[B]?=some (cobj t a)) {p:Nat} (hp:p<a.length) (x:Int×Int):(W.setCell ⟨B,p*2,none⟩ (.int .i64 x.1)).setCell ⟨B,p*2+1,none⟩ (.int .i64 x.2)=W.putObj B (cobj t (a.set p x)):=by
 have hlt:=(Array.getElem?_eq_some_iff.1 h).1
 unfold cobj at h
 rw [setCell_put h,setCell_put (World.putObj_heap_same hlt),put_put]
 unfold cobj
 rw [mc_set a x p hp]
 simp
theorem sp_store (h:W.heap[B]?=some (cobj t a)) {p:Nat} (hp:p<a.length) (x:Int×Int):(Instr.storeAt 31 (.pointer (some ⟨B,p*2,none⟩)) (sval x)).run Tryz.prog W=.ok () (W.putObj B (cobj t (a.set p x))):=by
 have hc:=cobj_range h hp
 have ht:W.there B (p*2) 2:=by
  intro j hj
  refine ⟨?_,?_⟩
  ·rcases j with _ | _ | j
   ·rw [hc 0 _ rfl];rfl
   ·rw [hc 1 _ rfl];rfl
   ·omega
  ·simp [World.frozen?,h,cobj]
 have hs:=run_storeAt_mid (P:=Tryz.prog) W B (p*2) 31 #[.int .i64 x.1,.int .i64 x.2] ht (by kernel_rfl) (by simp;exact ⟨rfl,rfl⟩)
 rw [show sval x=.agg #[.int .i64 x.1,.int .i64 x.2] from rfl,hs]
 exact congrArg _ (sp_put h hp x)
theorem md_store (h:W.heap[B]?=some (cobj t a)) (hl:a.length=22) (m:List (Int×Int)) (hm:m.length=22):(Instr.storeAt 34 (.pointer (some ⟨B,0,none⟩)) (mval m)).run Tryz.prog W=.ok () (W.putObj B (cobj t m)):=by
 have hr:=run_storeVar_row (P:=Tryz.prog) W B t 34 (mc a).toArray (mc m).toArray h (by rw [List.size_toArray,mc_length,hm];kernel_rfl) (by simp [mc_length,hl,hm]) (mc_one m)
 have e:W.setRow B (mc m).toArray=W.putObj B (cobj t m):=setRow_put h _
 rw [←e,←hr]
 simp only [Instr.storeAt,Instr.sureAddr,Sem.run_bind,Sem.run_pure,Result.andThen_ok]
 rfl
theorem ix_model {W:World} (B k:Nat) (hk:k<21):(Instr.indexAt 32 (.pointer (some ⟨B,0,none⟩)) (.int .i64 (k:Int))).run Tryz.prog W=.ok (.pointer (some ⟨B,k*2,none⟩)) W:=by
 rw [run_indexAt_array (h:=by kernel_rfl)]
 have hn:Tryz.prog.arrayLen 32=21:=by kernel_rfl
 have hs:(sizeOf (Tryz.prog.elem 32)).run Tryz.prog W=.ok 2 W:=by kernel_rfl
 rw [hn,if_pos (by omega),hs]
 simp only [Result.andThen,Int.toNat_natCast,Addr.add_mid,Nat.zero_add]
end
theorem put_bel {n B:Nat} {W W':World} {o:Obj} (h:Below n W W') (hB:n<=B):Below n W (W'.putObj B o) :=
 ⟨h.os,h.tape,h.output,by simpa using h.size,fun k hk=>(World.putObj_heap_other (by omega)).trans (h.block k hk)⟩
end Go.Proofs.YthhkcfpljgdnhaaGreat
namespace Go.Proofs.YthhkcfpljgdnhaaGreat
open Go.RowKit Mnc
theorem list22 {a:List (Int×Int)} (h:a.length=22):∃x0 x1 x2 x3 x4 x5 x6 x7 x8 x9 x10 x11 x12 x13 x14 x15 x16 x17 x18 x19 x20 x21,a=[x0,x1,x2,x3,x4,x5,x6,x7,x8,x9,x10,x11,x12,x13,x14,x15,x16,x17,x18,x19,x20,x21]:=by
 match a,h with
 | [x0,x1,x2,x3,x4,x5,x6,x7,x8,x9,x10,x11,x12,x13,x14,x15,x16,x17,x18,x19,x20,x21],_=>exact ⟨x0,x1,x2,x3,x4,x5,x6,x7,x8,x9,x10,x11,x12,x13,x14,x15,x16,x17,x18,x19,x20,x21,rfl⟩
theorem bs_one {a:List (Int×Int)} (h:a.length=22) (W:World):(Instr.buildSlice 86 1 #[(0,mval a)]).run Tryz.prog W=.ok (.slice (some ⟨W.heap.size,0,none⟩) 1 1) (W.alloc (cobj 34 a)):=by
 obtain ⟨x0,x1,x2,x3,x4,x5,x6,x7,x8,x9,x10,x11,x12,x13,x14,x15,x16,x17,x18,x19,x20,x21,rfl⟩:=list22 h
 kernel_rfl
theorem bs_both {a c:List (Int×Int)} (h:a.length=22) (k:c.length=22) (W:World):(Instr.buildSlice 86 2 #[(0,mval a),(1,mval c)]).run Tryz.prog W=.ok (.slice (some ⟨W.heap.size,0,none⟩) 2 2) (W.alloc (cobj 34 (a++c))):=by
 obtain ⟨x0,x1,x2,x3,x4,x5,x6,x7,x8,x9,x10,x11,x12,x13,x14,x15,x16,x17,x18,x19,x20,x21,rfl⟩:=list22 h
 obtain ⟨y0,y1,y2,y3,y4,y5,y6,y7,y8,y9,y10,y11,y12,y13,y14,y15,y16,y17,y18,y19,y20,y21,rfl⟩:=list22 k
 kernel_rfl
theorem mc_cut (l:List (Int×Int)) (i:Nat) (c:Int×Int) (h:l[i]?=some c):(mc l).toArray.extract (i*2) (i*2+2)=#[.int .i64 c.1,.int .i64 c.2]:=by
 have hl:=mc_length l
 have hi:=(List.getElem?_eq_some_iff.1 h).1
 have hc:tAt l i=c:=by simp [tAt,List.getD,h]
 obtain ⟨f1,f2⟩:=mc_get l i hi
 rw [hc] at f1 f2
 apply Array.ext
 ·simp;omega
 ·intro j h1 h2
  have hj:j<2:=by simpa using h2
  obtain rfl | rfl:j=0∨j=1:=by omega
  ·simp
   have:=(List.getElem?_eq_some_iff.1 f1).2
   simpa using this
  ·simp
   have:=(List.getElem?_eq_some_iff.1 f2).2
   simpa using this
theorem isAgg_sp (w:World):(isAgg 31).run Tryz.prog w=.ok true w:=by kernel_rfl
theorem size_sp (w:World):(sizeOf 31).run Tryz.prog w=.ok 2 w:=by kernel_rfl
theorem run_part_sp (l:List (Int×Int)) (i:Nat) (c:Int×Int) (h:l[i]?=some c) (w:World):(part 31 (mc l).toArray (i*2)).run Tryz.prog w=.ok (sval c) w:=by
 unfold part
 simp only [Sem.run_bind,isAgg_sp,size_sp,Result.andThen_ok,if_true,Sem.run_pure,mc_cut l i c h]
 rfl
theorem eqlSp (d:Nat) (x y:Int×Int) (w:World):(Op.equalIn (d+1+1) 31 (sval x) (sval y)).run Tryz.prog w=.ok (decide (x=y)) w:=by
 obtain ⟨x1,x2⟩:=x
 obtain ⟨y1,y2⟩:=y
 unfold sval
 go_simp
 by_cases h1:x1=y1
 ·by_cases h2:x2=y2
  ·simp [h1,h2]
  ·simp [h1,h2]
 ·simp [h1]
theorem run_items_sp (d:Nat) (l m:List (Int×Int)) (w:World):∀is:List Nat,(∀i∈is,i<l.length/\i<m.length) ->
  (Op.eqItems (d+1+1) 31 2 (mc l).toArray (mc m).toArray is).run Tryz.prog w=.ok (is.all fun i=>decide (l[i]?=m[i]?)) w
 | [],_=>by simp [Op.eqItems]
 | i::is,h=>by
  obtain ⟨h1,h2⟩:=h i (by simp)
  have e1:l[i]?=some l[i]:=List.getElem?_eq_getElem h1
  have e2:m[i]?=some m[i]:=List.getElem?_eq_getElem h2
  have ih:=run_items_sp d l m w is (fun j hj=>h j (by simp [hj]))
  simp only [Op.eqItems,Sem.run_bind,run_part_sp l i _ e1,run_part_sp m i _ e2,Result.andThen_ok,eqlSp]
  rw [List.all_cons,e1,e2]
  by_cases hx:l[i]=m[i]
  ·simp [hx,ih]
  ·simp [hx]
/-- The first 21 intervals. -/
theorem eqlCo (d:Nat) (l m:List (Int×Int)) (hl:l.length=21) (hm:m.length=21) (w:World) :
  (Op.equalIn (d+1+1+1) 32 (mval l) (mval m)).run Tryz.prog w=.ok (decide (l=m)) w:=by
 obtain ⟨i,hi⟩:∃i,Tryz.prog.info? 31=some i:=Option.isSome_iff_exists.1 (show (Tryz.prog.info? 31).isSome=true by kernel_rfl)
 have hc:Tryz.prog.cellsOf 31=2:=by kernel_rfl
 unfold mval
 rw [run_equalIn_array w (d+1+1) _ _ Tryz.underlying32 hi,hc,run_items_sp d l m w _ (fun i hi=>by rw [List.mem_range] at hi;omega)]
 refine congrArg (fun b=>Result.ok b w) ?_
 rw [Bool.eq_iff_iff]
 simp only [List.all_eq_true,List.mem_range,decide_eq_true_eq]
 constructor
 ·intro h
  apply List.ext_getElem?
  intro i
  rcases Nat.lt_or_ge i 21 with hi | hi
  ·exact h i hi
  ·rw [List.getElem?_eq_none (by omega),List.getElem?_eq_none (by omega)]
 ·intro h i _
  rw [h]
theorem mc_takeN:∀(l:List (Int×Int)) n,n<=l.length->(mc l).take (2*n)=mc (l.take n):=by
 intro l
 induction l with
 | nil=>intro n hn;simp at hn;subst hn;rfl
 | cons x l ih =>
  intro n hn
  cases n with
  | zero=>rfl
  | succ n =>
   rw [show 2*(n+1)=2*n+1+1 by omega,mc_cons,List.take_succ_cons,List.take_succ_cons,List.take_succ_cons,mc_cons,ih n (by simpa using hn)]
theorem split22 {a c:List (Int×Int)} (ha:a.length=22) (hc:c.length=22):a=c ↔ a.take 21=c.take 21/\tAt a 21=tAt c 21:=by
 constructor
 ·rintro rfl
  exact ⟨rfl,rfl⟩
 ·rintro ⟨h1,h2⟩
  apply List.ext_getElem?
  intro i
  rcases Nat.lt_trichotomy i 21 with hi | rfl | hi
  ·have:=congrArg (fun l=>l[i]?) h1
   simpa [List.getElem?_take,hi] using this
  ·simpa [tAt,List.getD,List.getElem?_eq_getElem (show 21<a.length by omega),List.getElem?_eq_getElem (show 21<c.length by omega)] using h2
  ·rw [List.getElem?_eq_none (by omega),List.getElem?_eq_none (by omega)]
/-- Two models. -/
theorem eqlM (a c:List (Int×Int)) (ha:a.length=22) (hc:c.length=22) (w:World) :
  (Op.equalIn 10000 34 (mval a) (mval c)).run Tryz.prog w=.ok (decide (a=c)) w:=by
 have hq1:=eqlCo 9996 (a.take 21) (c.take 21) (by simp [ha]) (by simp [hc])
 unfold mval at hq1
 rw [←mc_takeN a 21 (by omega),←mc_takeN c 21 (by omega)] at hq1
 simp only [Nat.reduceMul,Nat.reduceAdd] at hq1
 obtain ⟨g1,g2⟩:=mc_get a 21 (by omega)
 obtain ⟨g3,g4⟩:=mc_get c 21 (by omega)
 simp only [Nat.reduceMul,Nat.reduceAdd] at g1 g2 g3 g4
 have e:decide (a=c)=(decide (a.take 21=c.take 21) && decide (tAt a 21=tAt c 21)):=by
  rw [Bool.eq_iff_iff]
  simp only [Bool.and_eq_true,decide_eq_true_eq]
  exact split22 ha hc
 rw [e]
 unfold mval
 show (Op.equalIn (9999+1) 34 (.agg (mc a).toArray) (.agg (mc c).toArray)).run Tryz.prog w=_
 generalize decide (a.take 21=c.take 21)=b1 at *
 have e2:decide (tAt a 21=tAt c 21)=(decide ((tAt a 21).1=(tAt c 21).1) && decide ((tAt a 21).2=(tAt c 21).2)):=by
  rw [Bool.eq_iff_iff]
  simp only [Bool.and_eq_true,decide_eq_true_eq]
  exact Prod.ext_iff
 rw [e2]
 go_simp
 cases b1
 ·simp
 ·by_cases h1:(tAt a 21).1=(tAt c 21).1
  ·by_cases h2:(tAt a 21).2=(tAt c 21).2
   ·simp [h1,h2]
   ·simp [h1,h2]
  ·simp [h1]
theorem eqlSpan (x y:Int×Int) (w:World):(Op.equalIn 10000 31 (sval x) (sval y)).run Tryz.prog w=.ok (decide (x=y)) w:=eqlSp 9998 x y w
theorem bin_eqM (a c:List (Int×Int)) (ha:a.length=22) (hc:c.length=22) (w:World):(binOp .eql 34 (mval a) (mval c)).run Tryz.prog w=.ok (.bool (decide (a=c))) w:=by
 have h:=eqlM a c ha hc w
 unfold mval at h ⊢
 go_simp
theorem bin_eqS (x y:Int×Int) (w:World):(binOp .eql 31 (sval x) (sval y)).run Tryz.prog w=.ok (.bool (decide (x=y))) w:=by
 have h:=eqlSpan x y w
 have e:decide (x=y)=(decide (x.1=y.1) && decide (x.2=y.2)):=by
  rw [Bool.eq_iff_iff]
  simp only [Bool.and_eq_true,decide_eq_true_eq]
  exact Prod.ext_iff
 unfold sval at h ⊢
 rw [e] at h ⊢
 have hb:(binOp .eql 31 (.agg #[.int .i64 x.1,.int .i64 x.2]) (.agg #[.int .i64 y.1,.int .i64 y.2]))=(do let b ←Op.equalIn 10000 31 (.agg #[.int .i64 x.1,.int .i64 x.2]) (.agg #[.int .i64 y.1,.int .i64 y.2]);pure (.bool b)):=rfl
 rw [hb]
 simp only [Sem.run_bind,h,Result.andThen_ok,Sem.run_pure]
theorem guard_eqM (a c:List (Int×Int)) (x y:Operand) (w:World):(eqGuard .eql 34 x y (mval a) (mval c)).run Tryz.prog w=.ok () w:=by
 have h:Tryz.prog.eqGuardType Tryz.prog.depth 34=false:=by kernel_rfl
 unfold mval eqGuard
 simp [go_sem,h]
theorem guard_eqS (a c:Int×Int) (x y:Operand) (w:World):(eqGuard .eql 31 x y (sval a) (sval c)).run Tryz.prog w=.ok () w:=by
 have h:Tryz.prog.eqGuardType Tryz.prog.depth 31=false:=by kernel_rfl
 unfold sval eqGuard
 simp [go_sem,h]
end Go.Proofs.YthhkcfpljgdnhaaGreat
