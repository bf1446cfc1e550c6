/- What the printed walks of package taylor use: how the world changes, how a call ends, single operations inside a region. -/
import Derived.Test.YthhkcfpljgdnhaaGreatRegX
import Derived.Test.YthhkcfpljgdnhaaGreatTayM
import Derived.Test.YthhkcfpljgdnhaaGreatTayC
namespace Go.Proofs.YthhkcfpljgdnhaaGreat
open Go.RowKit Mnc

/-- Of the blocks that W has only those of S may have turned. -/
structure Mut (S:List Nat) (W w:World):Prop where
 os:w.os=W.os
 tape:w.tape=W.tape
 output:w.output=W.output
 size:W.heap.size<=w.heap.size
 same:∀k,k<W.heap.size->k ∉ S->w.heap[k]?=W.heap[k]?
section
variable {S S':List Nat} {W w w':World} {B:Nat}
theorem Mut.refl (S:List Nat) (W:World):Mut S W W:=⟨rfl,rfl,rfl,Nat.le_refl _,fun _ _ _=>rfl⟩
theorem Mut.start (S:List Nat) (b:Bool) (W:World):Mut S W (startW b W):=by cases b<;>exact ⟨rfl,rfl,rfl,Nat.le_refl _,fun _ _ _=>rfl⟩
theorem Mut.step (h:Mut S W w) (k:Below w.heap.size w w'):Mut S W w' :=
 ⟨k.os.trans h.os,k.tape.trans h.tape,k.output.trans h.output,Nat.le_trans h.size k.size,fun i hi hn=>(k.block i (Nat.lt_of_lt_of_le hi h.size)).trans (h.same i hi hn)⟩
theorem Mut.of (k:Below W.heap.size W w):Mut S W w:=(Mut.refl S W).step k
theorem Mut.trans (h:Mut S W w) (k:Mut S w w'):Mut S W w' :=
 ⟨k.os.trans h.os,k.tape.trans h.tape,k.output.trans h.output,Nat.le_trans h.size k.size,fun i hi hn=>(k.same i (Nat.lt_of_lt_of_le hi h.size) hn).trans (h.same i hi hn)⟩
theorem Mut.stepM (h:Mut S W w) (k:Mut S' w w') (hs:∀x∈S',x∈S∨W.heap.size<=x):Mut S W w' :=
 ⟨k.os.trans h.os,k.tape.trans h.tape,k.output.trans h.output,Nat.le_trans h.size k.size,fun i hi hn=>(k.same i (Nat.lt_of_lt_of_le hi h.size) (fun hm=>(hs i hm).elim hn fun h'=>by omega)).trans (h.same i hi hn)⟩
theorem Mut.up (h:Mut S W w) (hs:∀x∈S,x∈S'∨W.heap.size<=x):Mut S' W w:=(Mut.refl S' W).stepM h hs
theorem Mut.put (h:Mut S W w) (hB:B∈S) (o:Obj):Mut S W (w.putObj B o) :=
 ⟨h.os,h.tape,h.output,by simpa using h.size,fun k hk hn=>(World.putObj_heap_other (fun e=>hn (by rw [e];exact hB))).trans (h.same k hk hn)⟩
theorem Mut.putNew (h:Mut S W w) (hB:W.heap.size<=B) (o:Obj):Mut S W (w.putObj B o) :=
 ⟨h.os,h.tape,h.output,by simpa using h.size,fun k hk hn=>(World.putObj_heap_other (by omega)).trans (h.same k hk hn)⟩
theorem Mut.alloc (h:Mut S W w) (o:Obj):Mut S W (w.alloc o):=h.step (below_alloc (Below.refl _ _) _)
theorem Mut.drew (h:Mut S W w):Mut S W w.drew:=⟨h.os,h.tape,h.output,h.size,h.same⟩
theorem Mut.below {n:Nat} (h:Mut S W w) (hn:n<=W.heap.size) (hs:∀x∈S,n<=x):Below n W w :=
 ⟨h.os,h.tape,h.output,h.size,fun k hk=>h.same k (by omega) (fun hm=>by have:=hs k hm;omega)⟩
theorem Mut.keep {n:Nat} (h:Mut S W w) (hs:∀x∈S,x<n):KeepA n W w:=⟨h.size,fun k hk hl=>h.same k hl (fun hm=>by have:=hs k hm;omega)⟩
theorem Mut.to0 (h:Mut [] W w):Below W.heap.size W w:=h.below (Nat.le_refl _) (by simp)
end
theorem res_model {fn:Func} {tmps:Array Value} {i B:Nat} {W:World} {v:Value} (hf:fn.results=#[.cell i 34]) (ht:tmps.getD i undef=.pointer (some ⟨B,0,none⟩)) (hl:(loadVar 34 ⟨B,0,none⟩).run Tryz.prog W=.ok v W) :
  (results fn tmps).run Tryz.prog W=.ok v W:=by
 unfold results
 rw [hf]
 simp only [Array.mapM_eq_mapM_toList,List.mapM_cons,List.mapM_nil,ht,asAddr,pure_bind,map_eq_pure_bind,bind_assoc,Sem.run_bind,hl,Result.andThen,Sem.run_pure]
 rfl
theorem res_two {fn:Func} {tmps:Array Value} {i j B C:Nat} {t u:TypeId} {W:World} {v x:Value} (hf:fn.results=#[.cell i t,.cell j u]) (ht:tmps.getD i undef=.pointer (some ⟨B,0,none⟩)) (hu:tmps.getD j undef=.pointer (some ⟨C,0,none⟩))
  (hl:(loadVar t ⟨B,0,none⟩).run Tryz.prog W=.ok v W) (hm:(loadVar u ⟨C,0,none⟩).run Tryz.prog W=.ok x W):(results fn tmps).run Tryz.prog W=.ok (.tuple #[v,x]) W:=by
 unfold results
 rw [hf]
 simp only [Array.mapM_eq_mapM_toList,List.mapM_cons,List.mapM_nil,ht,hu,asAddr,pure_bind,map_eq_pure_bind,bind_assoc,Sem.run_bind,hl,hm,Result.andThen,Sem.run_pure]
 rfl
theorem res_slot {fn:Func} {tmps:Array Value} {i j B:Nat} {t:TypeId} {W:World} {v x:Value} (hf:fn.results=#[.cell i t,.tmp j]) (ht:tmps.getD i undef=.pointer (some ⟨B,0,none⟩)) (hu:tmps.getD j undef=x)
  (hl:(loadVar t ⟨B,0,none⟩).run Tryz.prog W=.ok v W):(results fn tmps).run Tryz.prog W=.ok (.tuple #[v,x]) W:=by
 unfold results
 rw [hf]
 simp only [Array.mapM_eq_mapM_toList,List.mapM_cons,List.mapM_nil,ht,hu,asAddr,pure_bind,map_eq_pure_bind,bind_assoc,Sem.run_bind,hl,Result.andThen,Sem.run_pure]
 rfl
/-- A call hands back a result, or its error ends the computation. -/
def Ends {α:Type} (V:α->Value) (r:α×Int) (e:Ending):Prop:=(r.2=0/\e=.returned (V r.1))∨(¬r.2=0/\e=.panicked (brk r.2))
/-- The first error of some. -/
def fstE:List Int->Int
 | []=>0
 | x::l=>if x=0 then fstE l else x
theorem fstE_0 {x:Int} {l:List Int} (h:x=0):fstE (x::l)=fstE l:=if_pos h
theorem fstE_1 {x:Int} {l:List Int} (h:¬x=0):fstE (x::l)=x:=if_neg h
theorem fstE_one {x:Int}:fstE [x]=x:=by unfold fstE;split<;>simp_all [fstE]
theorem ptr_ne {g n:Nat} {v:Value} (h:g<n) (h0:v=.pointer (some ⟨g,0,none⟩)):Value.pointer (some ⟨n,0,none⟩)≠v:=by
 rw [h0]
 intro e
 simp only [Value.pointer.injEq,Option.some.injEq,Addr.mk.injEq,and_true] at e
 omega
theorem ptr_inj {u v:Value} {g h:Nat} (hne:u≠v) (hu:u=.pointer (some ⟨g,0,none⟩)) (hv:v=.pointer (some ⟨h,0,none⟩)):g≠h:=fun e=>hne (by rw [hu,hv,e])
theorem wrap_nat (u v:Nat) (h:u+v<=1000):IntKind.i64.wrap ((u:Int)+(v:Int))=((u+v:Nat):Int):=by
 simp [IntKind.wrap,IntKind.bits,IntKind.signed]
 omega
theorem notin1 {k a:Nat} (h:k≠a):k ∉ [a]:=by simp [h]
theorem notin2 {k a b:Nat} (h:k≠a) (h2:k≠b):k ∉ [a,b]:=by simp [h,h2]
theorem notin3 {k a b c:Nat} (h:k≠a) (h2:k≠b) (h3:k≠c):k ∉ [a,b,c]:=by simp [h,h2,h3]
theorem notin4 {k a b c d:Nat} (h:k≠a) (h2:k≠b) (h3:k≠c) (h4:k≠d):k ∉ [a,b,c,d]:=by simp [h,h2,h3,h4]
theorem wpIn_cut_mergeP {F:Fence} {n:Nat} {P:Program} {c:Code} {Q:Exit->Act->World->Prop} {l:List Value} {ds:List Deferred} {w:World} (m:List (Option Nat)) (R:(Nat->Value)->World->Prop) (Pn:List PanicEntry->World->Prop)
  (h1:∀Q':Exit->Act->World->Prop,(∀s w',R s w'->Q' .normal ⟨(mergeL m l s).toArray,ds⟩ w')->(∀c l' w',Pn c w'->Q' (.panic c) ⟨l',ds⟩ w')->c.wpIn F n P Q' ⟨l.toArray,ds⟩ w)
  (h2:∀s w',R s w'->Q .normal ⟨(mergeL m l s).toArray,ds⟩ w') (h3:∀c l' w',Pn c w'->Q (.panic c) ⟨l',ds⟩ w'):c.wpIn F n P Q ⟨l.toArray,ds⟩ w:=by
 refine wpIn_mono (Q:=fun e a w'=>(e=.normal/\∃s,R s w'/\a=⟨(mergeL m l s).toArray,ds⟩)∨∃c l',e=.panic c/\a=⟨l',ds⟩/\Pn c w') (h1 _ (fun s w' h=>.inl ⟨rfl,s,h,rfl⟩) fun c l' w' h=>.inr ⟨c,l',rfl,rfl,h⟩) ?_
 rintro e a w' (⟨rfl,s,h,rfl⟩ | ⟨c,l',rfl,rfl,h⟩)
 ·exact h2 s w' h
 ·exact h3 c l' w' h
section
variable {P:Program} {Pn:List PanicEntry->World->Prop} {K:Value->World->Prop} {s:Nat->Value} {w w':World} {o:Oper} {ty:TypeId} {x y:Operand} {a b v:Value} {k:Nat}
theorem rs_move (ho:o.op=.move x) (hx:evS s x=v) (hK:K v w):RunSP P Pn K ((execOp (evS s) o).run P w):=by
 unfold execOp;rw [ho];subst hx;exact hK
theorem rs_assign (ho:o.op=.assign x) (hx:evS s x=v) (hK:K v w):RunSP P Pn K ((execOp (evS s) o).run P w):=by
 unfold execOp;rw [ho];subst hx;exact hK
theorem rs_load (ho:o.op=.load ty x) (hx:evS s x=a) (h:(Instr.loadAt ty a).run P w=.ok v w) (hK:K v w):RunSP P Pn K ((execOp (evS s) o).run P w):=by
 unfold execOp;rw [ho];subst hx
 simp only [Sem.run_bind,h,Result.andThen,Sem.run_pure]
 exact hK
theorem rs_store (ho:o.op=.store ty x y) (hx:evS s x=a) (hy:evS s y=b) (h:(Instr.storeAt ty a b).run P w=.ok () w') (hK:K undef w'):RunSP P Pn K ((execOp (evS s) o).run P w):=by
 unfold execOp;rw [ho];subst hx;subst hy
 simp only [Sem.run_bind,h,Result.andThen,Sem.run_pure]
 exact hK
theorem rs_index (ho:o.op=.indexAddr ty x y) (hx:evS s x=a) (hy:evS s y=b) (h:(Instr.indexAt ty a b).run P w=.ok v w) (hK:K v w):RunSP P Pn K ((execOp (evS s) o).run P w):=by
 unfold execOp;rw [ho];subst hx;subst hy
 simp only [Sem.run_bind,h,Result.andThen,Sem.run_pure]
 exact hK
theorem rs_field (ho:o.op=.fieldAddr ty x k) (hx:evS s x=a) (h:(Instr.fieldAt ty a k).run P w=.ok v w) (hK:K v w):RunSP P Pn K ((execOp (evS s) o).run P w):=by
 unfold execOp;rw [ho];subst hx
 simp only [Sem.run_bind,h,Result.andThen,Sem.run_pure]
 exact hK
theorem rs_extract (ho:o.op=.extract x k) (hx:evS s x=a) (h:(Instr.extract a k).run P w=.ok v w) (hK:K v w):RunSP P Pn K ((execOp (evS s) o).run P w):=by
 unfold execOp;rw [ho];subst hx
 simp only [Sem.run_bind,h,Result.andThen,Sem.run_pure]
 exact hK
end
section
variable {W:World} {B:Nat} {t:TypeId} {n m:Int}
/-- A box of one number. -/
def iobj (t:TypeId) (n:Int):Obj:=.cells #[.int .i64 n] t (0,0)
theorem fl_model0 (B:Nat) (W:World):(Instr.fieldAt 34 (.pointer (some ⟨B,0,none⟩)) 0).run Tryz.prog W=.ok (.pointer (some ⟨B,0,none⟩)) W:=by
 simp [go_sem]
theorem fl_model1 (B:Nat) (W:World):(Instr.fieldAt 34 (.pointer (some ⟨B,0,none⟩)) 1).run Tryz.prog W=.ok (.pointer (some ⟨B,21*2,none⟩)) W:=by
 simp [go_sem]
theorem fl_total (B p:Nat) (W:World):(Instr.fieldAt 90 (.pointer (some ⟨B,p*2,none⟩)) 0).run Tryz.prog W=.ok (.pointer (some ⟨B,p*2,none⟩)) W:=by
 simp [go_sem]
theorem ix_total {W:World} (B k:Nat) (hk:k<21):(Instr.indexAt 91 (.pointer (some ⟨B,0,none⟩)) (.int .i64 (k:Int))).run Tryz.prog W=.ok (.pointer (some ⟨B,k*2,none⟩)) W:=by
 rw [run_indexAt_array (h:=by kernel_rfl)]
 have hn:Tryz.prog.arrayLen 91=21:=by kernel_rfl
 have hs:(sizeOf (Tryz.prog.elem 91)).run Tryz.prog W=.ok 2 W:=by kernel_rfl
 rw [hn,if_pos (by omega),hs]
 simp only [Result.andThen,Int.toNat_natCast,Addr.add_mid,Nat.zero_add]
theorem i_load (h:W.heap[B]?=some (iobj t n)):(Instr.loadAt 3 (.pointer (some ⟨B,0,none⟩))).run Tryz.prog W=.ok (.int .i64 n) W:=by
 have c:=cell_of_one h
 simp [go_sem,c]
end
theorem bk {w w3:World} {k:Nat} {o:Obj} (hb:Below w.heap.size w w3) (h:w.heap[k]?=some o):w3.heap[k]?=some o:=(hb.block _ (lt_of_block h)).trans h
theorem nF {p:Prop} (h:true=false):p:=absurd h.symm Bool.false_ne_true
theorem bF {L:Nat->Bool} {i j:Nat} (h:L i=true->L j=true) (hn:L j=false):L i=false :=
 (Bool.eq_false_or_eq_true (L i)).elim (fun e=>absurd (h e) (by rw [hn];exact Bool.false_ne_true)) id
theorem pH {w:World} {k:Nat} {o o':Obj} (h:w.heap[k]?=some o):(w.putObj k o').heap[k]?=some o':=World.putObj_heap_same (Array.getElem?_eq_some_iff.1 h).1
theorem sm {V W:World} {k:Nat} {o:Obj} (h1:Mut [] V W) (H:Hid (V.heap[k]?=some o)):Hid (W.heap[k]?=some o):=Lib.hid ((h1.same _ (lt_of_block H.out) (by simp)).trans H.out)
theorem mS {S:List Nat} {k:Nat} {V w w':World} (h:Mut S V w) (hb:Mut [k] w w') (hk:k∈S):Mut S V w':=h.stepM hb (by intro x hx;rw [List.mem_singleton.1 hx];exact .inl hk)
theorem mB {S:List Nat} {V w w':World} (h:Hid (Mut [] V w)) (hb:Mut S w w') (hk:∀x∈S,V.heap.size<=x):Hid (Mut [] V w'):=Lib.hid (h.out.stepM hb fun x hx=>.inr (hk x hx))
theorem mE {S:List Nat} {V w w':World} (h:Hid (Mut S V w)) (hb:Mut [] w w'):Hid (Mut S V w'):=Lib.hid (h.out.stepM hb (by simp))
theorem hS {k j:Nat} {w w':World} {o:Obj} (hb:Mut [k] w w') (n:j≠k) (h:w.heap[j]?=some o):w'.heap[j]?=some o:=(hb.same _ (lt_of_block h) (notin1 n)).trans h
theorem kY {k j:Nat} {w w':World} {o:Obj} (hb:Mut [k] w w') (H:Hid (w.heap[j]?=some o)) (n:j≠k):w'.heap[j]?=some o:=hS hb n H.out
theorem kX {k i j:Nat} {w w':World} {o:Obj} (hb:Mut [k,i] w w') (H:Hid (w.heap[j]?=some o)) (n:j≠k) (m:j≠i):w'.heap[j]?=some o:=(hb.same _ (lt_of_block H.out) (notin2 n m)).trans H.out
theorem kZ {j:Nat} {w w':World} {o:Obj} (hb:Mut [] w w') (H:Hid (w.heap[j]?=some o)):w'.heap[j]?=some o:=(hb.same _ (lt_of_block H.out) (by simp)).trans H.out
theorem j1 {k j:Nat} {w w':World} {o:Obj} (hb:Mut [k] w w') (H:Hid (w.heap[j]?=some o)) (n:j≠k):Hid (w'.heap[j]?=some o):=Lib.hid (kY hb H n)
theorem j2 {k i j:Nat} {w w':World} {o:Obj} (hb:Mut [k,i] w w') (H:Hid (w.heap[j]?=some o)) (n:j≠k) (m:j≠i):Hid (w'.heap[j]?=some o):=Lib.hid (kX hb H n m)
theorem pO {k j:Nat} {w:World} {o x:Obj} (n:k≠j) (h:w.heap[k]?=some o):(w.putObj j x).heap[k]?=some o:=(World.putObj_heap_other n).trans h
theorem aB {b:Bool} {p:Prop} (h:b=true) (hn:b=false):p:=absurd h (by rw [hn];exact Bool.false_ne_true)
section
variable {x:Value} {n:Nat} {p q:Prop} {w w':World} {O1 O2:Obj}
theorem aU {o:Obj} (h:∃g:Nat,x=.pointer (some ⟨g,0,none⟩)/\n<=g/\g<w.heap.size/\(p->w.heap[g]?=some O1)/\(q->w.heap[g]?=some O2)):∃g:Nat,x=.pointer (some ⟨g,0,none⟩)/\n<=g/\g<(w.alloc o).heap.size/\(p->(w.alloc o).heap[g]?=some O1)/\(q->(w.alloc o).heap[g]?=some O2) :=
  let ⟨g,h0,h1,hl,h2,h3⟩:=h;⟨g,h0,h1,by simp;omega,fun c=>heap_up _ (h2 c),fun c=>heap_up _ (h3 c)⟩
theorem aS (hb:Below w.heap.size w w') (h:∃g:Nat,x=.pointer (some ⟨g,0,none⟩)/\n<=g/\g<w.heap.size/\(p->w.heap[g]?=some O1)/\(q->w.heap[g]?=some O2)):∃g:Nat,x=.pointer (some ⟨g,0,none⟩)/\n<=g/\g<w'.heap.size/\(p->w'.heap[g]?=some O1)/\(q->w'.heap[g]?=some O2) :=
  let ⟨g,h0,h1,hl,h2,h3⟩:=h;⟨g,h0,h1,Nat.lt_of_lt_of_le hl hb.size,fun c=>bk hb (h2 c),fun c=>bk hb (h3 c)⟩
theorem aM {k:Nat} {V:World} {o:Obj} (hb:Mut [k] w w') (H:V.heap[k]?=some o) (h:∃g:Nat,x=.pointer (some ⟨g,0,none⟩)/\V.heap.size<=g/\g<w.heap.size/\(p->w.heap[g]?=some O1)/\(q->w.heap[g]?=some O2)):∃g:Nat,x=.pointer (some ⟨g,0,none⟩)/\V.heap.size<=g/\g<w'.heap.size/\(p->w'.heap[g]?=some O1)/\(q->w'.heap[g]?=some O2) :=
  let ⟨g,h0,h1,hl,h2,h3⟩:=h;⟨g,h0,h1,Nat.lt_of_lt_of_le hl hb.size,fun c=>hS hb (by have:=lt_of_block H;omega) (h2 c),fun c=>hS hb (by have:=lt_of_block H;omega) (h3 c)⟩
theorem aO {k:Nat} {o:Obj} (hne:∀g:Nat,n<=g->x=.pointer (some ⟨g,0,none⟩)->g≠k) (h:∃g:Nat,x=.pointer (some ⟨g,0,none⟩)/\n<=g/\g<w.heap.size/\(p->w.heap[g]?=some O1)/\(q->w.heap[g]?=some O2)):∃g:Nat,x=.pointer (some ⟨g,0,none⟩)/\n<=g/\g<(w.putObj k o).heap.size/\(p->(w.putObj k o).heap[g]?=some O1)/\(q->(w.putObj k o).heap[g]?=some O2) :=
  let ⟨g,h0,h1,hl,h2,h3⟩:=h;⟨g,h0,h1,by simpa using hl,fun c=>pO (hne g h1 h0) (h2 c),fun c=>pO (hne g h1 h0) (h3 c)⟩
theorem aP {k:Nat} {o:Obj} {y:Value} (hne:y≠x) (hy:y=.pointer (some ⟨k,0,none⟩)) (h:∃g:Nat,x=.pointer (some ⟨g,0,none⟩)/\n<=g/\g<w.heap.size/\(p->w.heap[g]?=some O1)/\(q->w.heap[g]?=some O2)):∃g:Nat,x=.pointer (some ⟨g,0,none⟩)/\n<=g/\g<(w.putObj k o).heap.size/\(p->(w.putObj k o).heap[g]?=some O1)/\(q->(w.putObj k o).heap[g]?=some O2) :=
  aO (fun _ _ h0=>(ptr_inj hne hy h0).symm) h
theorem aT {k:Nat} (h0:x=.pointer (some ⟨k,0,none⟩)) (h1:n<=k) (hl:k<w.heap.size) {o:Obj} (kb:w.heap[k]?=some o):∃g:Nat,x=.pointer (some ⟨g,0,none⟩)/\n<=g/\g<(w.putObj k O2).heap.size/\(true=false->(w.putObj k O2).heap[g]?=some O1)/\(q->(w.putObj k O2).heap[g]?=some O2) :=
  ⟨k,h0,h1,by simpa using hl,nF,fun _=>pH kb⟩
theorem aW {b c:Bool} (hs:n<=w.heap.size) (hb:b=true->c=true) (hn:c=false):∃g:Nat,Value.pointer (some ⟨w.heap.size,0,none⟩)=.pointer (some ⟨g,0,none⟩)/\n<=g/\g<(w.alloc O1).heap.size/\(p->(w.alloc O1).heap[g]?=some O1)/\(b=true->(w.alloc O1).heap[g]?=some O2) :=
  ⟨_,rfl,hs,by simp,fun _=>heap_at _ rfl,fun a=>aB (hb a) hn⟩
theorem aE (h:∃g:Nat,x=.pointer (some ⟨g,0,none⟩)/\n<=g/\g<w.heap.size/\(p->w.heap[g]?=some O1)/\(q->w.heap[g]?=some O2)) (c:q):∃g:Nat,x=.pointer (some ⟨g,0,none⟩)/\n<=g/\w.heap[g]?=some O2 :=
  let ⟨g,h0,h1,_,_,h3⟩:=h;⟨g,h0,h1,h3 c⟩
theorem dU (h:∃g:Nat,x=.pointer (some ⟨g,0,none⟩)/\n<=g/\g<w.heap.size/\(p->w.heap[g]?=some O1)/\(q->w.heap[g]?=some O2)):Value.pointer (some ⟨w.heap.size,0,none⟩)≠x:=let ⟨_,h0,_,hl,_,_⟩:=h;ptr_ne hl h0
end
end Go.Proofs.YthhkcfpljgdnhaaGreat
