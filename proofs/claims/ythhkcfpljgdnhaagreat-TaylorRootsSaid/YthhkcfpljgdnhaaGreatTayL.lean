/- Package taylor: right. Printed by wip/genTK.py. -/
import Derived.Laws.Append
import Derived.Test.YthhkcfpljgdnhaaGreatTayJ
import Derived.Defers
import Derived.Recover
import Derived.Test.YthhkcfpljgdnhaaGreatRegX
set_option maxRecDepth 100000
namespace Go.Proofs.YthhkcfpljgdnhaaGreat
open Go.RowKit Mnc
attribute [local go_sem] RunSP_value RunSP_skip RunSP_enter evS_tmp evS_const evS_global evS_func
/-- Block q begins with the cells of a. -/
def SlA (W:World) (q:Nat) (a:List (Int×Int)):Prop:=∃cs:Array Value,W.heap[q]?=some (.cells cs 31 (0,0))/\∀j,j<2*a.length->cs[j]?=(mc a)[j]?
theorem SlA.up {W:World} {q:Nat} {a:List (Int×Int)} (h:SlA W q a) (o:Obj):SlA (W.alloc o) q a:=let ⟨cs,h1,h2⟩:=h;⟨cs,heap_up _ h1,h2⟩
theorem SlA.mut {W w:World} {q:Nat} {a:List (Int×Int)} (h:SlA W q a) (m:Mut [] W w):SlA w q a:=let ⟨cs,h1,h2⟩:=h;⟨cs,(m.same _ (lt_of_block h1) (by simp)).trans h1,h2⟩
theorem SlA.load {W:World} {q p:Nat} {a:List (Int×Int)} (h:SlA W q a) (hl:a.length=22) (hp:p<22):(Instr.loadAt 31 (.pointer (some ⟨q,p*2,none⟩))).run Tryz.prog W=.ok (sval (tAt a p)) W:=by
 obtain ⟨cs,h1,h2⟩:=h
 obtain ⟨d,hd⟩:=Option.isSome_iff_exists.1 (show (Tryz.prog.underlying 31).isSome=true by kernel_rfl)
 have hr:d.isRow=true:=by
  have hm:(Tryz.prog.underlying 31).map TypeDesc.isRow=some true:=by kernel_rfl
  rw [hd] at hm
  exact Option.some.inj hm
 obtain ⟨g0,g1⟩:=mc_get a p (by omega)
 refine run_loadAt_mid W q (p*2) _ [.int .i64 (tAt a p).1,.int .i64 (tAt a p).2] d ?_ hd hr (by kernel_rfl)
 intro j v hv
 rw [cell_of_row W q _ _ _ _ h1]
 rcases j with _ | _ | j
 ·rw [h2 _ (by omega)];simpa [g0] using hv
 ·rw [h2 _ (by omega)];simpa [g1] using hv
 ·simp at hv
theorem md_load_at {W:World} {B k:Nat} {t:TypeId} {ml a:List (Int×Int)} (h:W.heap[B]?=some (cobj t ml)) (hs:∀j,j<44->(mc ml)[k*44+j]?=(mc a)[j]?) (hl:a.length=22):(Instr.loadAt 34 (.pointer (some ⟨B,k*44,none⟩))).run Tryz.prog W=.ok (mval a) W:=by
 obtain ⟨d,hd⟩:=Option.isSome_iff_exists.1 (show (Tryz.prog.underlying 34).isSome=true by kernel_rfl)
 have hr:d.isRow=true:=by
  have hm:(Tryz.prog.underlying 34).map TypeDesc.isRow=some true:=by kernel_rfl
  rw [hd] at hm
  exact Option.some.inj hm
 refine run_loadAt_mid W B (k*44) _ _ d ?_ hd hr (by rw [mc_length,hl];kernel_rfl)
 intro j v hv
 have hj:j<44:=by
  have:=(List.getElem?_eq_some_iff.1 hv).1
  rw [mc_length,hl] at this
  exact this
 rw [cobj_cell h,hs j hj]
 exact hv
theorem ix_models {W:World} (B n c k:Nat) (hk:k<n):(Instr.indexAt 86 (.slice (some ⟨B,0,none⟩) n c) (.int .i64 (k:Int))).run Tryz.prog W=.ok (.pointer (some ⟨B,k*44,none⟩)) W:=by
 rw [run_indexAt_slice (h:=by kernel_rfl)]
 have hs:(sizeOf (Tryz.prog.elem 86)).run Tryz.prog W=.ok 44 W:=by kernel_rfl
 rw [if_pos (by omega),hs]
 simp only [Result.andThen,Int.toNat_natCast,Addr.add_mid,Nat.zero_add]
theorem ix_spans {W:World} (B n c k:Nat) (hk:k<n):(Instr.indexAt 87 (.slice (some ⟨B,0,none⟩) n c) (.int .i64 (k:Int))).run Tryz.prog W=.ok (.pointer (some ⟨B,k*2,none⟩)) W:=by
 rw [run_indexAt_slice (h:=by kernel_rfl)]
 have hs:(sizeOf (Tryz.prog.elem 87)).run Tryz.prog W=.ok 2 W:=by kernel_rfl
 rw [if_pos (by omega),hs]
 simp only [Result.andThen,Int.toNat_natCast,Addr.add_mid,Nat.zero_add]
theorem sl_model (B:Nat) (W:World):(Instr.sliceAt 32 (.pointer (some ⟨B,0,none⟩)) none none none).run Tryz.prog W=.ok (.slice (some ⟨B,0,none⟩) 21 21) W:=by
 kernel_rfl
theorem bs_span (x:Int×Int) (W:World):(Instr.buildSlice 87 1 #[(0,sval x)]).run Tryz.prog W=.ok (.slice (some ⟨W.heap.size,0,none⟩) 1 1) (W.alloc (cobj 31 [x])):=by
 kernel_rfl
theorem ap_model {W:World} {g q:Nat} {t:TypeId} {a:List (Int×Int)} (h:W.heap[g]?=some (cobj t a)) (hl:a.length=22) (hq:W.heap[q]?=some (cobj 31 [tAt a 21])):∃z,(Builtin.append_ #[87,87] 87 #[.slice (some ⟨g,0,none⟩) 21 21,.slice (some ⟨q,0,none⟩) 1 1]).run Tryz.prog W =
  .ok (.slice (some ⟨W.heap.size,0,none⟩) 22 (grownCap W 22 21 31)) (W.drew.alloc (.cells (((mc a).take 42).toArray++#[.int .i64 (tAt a 21).1,.int .i64 (tAt a 21).2]++z) 31)):=by
 obtain ⟨i,hi⟩:=Option.isSome_iff_exists.1 (show (Tryz.prog.info? 31).isSome=true by kernel_rfl)
 have hsz:i.size=2:=by
  have hm:(Tryz.prog.info? 31).map (·.size)=some 2:=by kernel_rfl
  rw [hi] at hm
  exact Option.some.inj hm
 have hby:i.bytes=16:=by
  have hm:(Tryz.prog.info? 31).map (·.bytes)=some 16:=by kernel_rfl
  rw [hi] at hm
  exact Option.some.inj hm
 obtain ⟨zz,hz⟩:∃zz,i.zero=some zz:=by
  have hm:((Tryz.prog.info? 31).bind (·.zero)).isSome=true:=by kernel_rfl
  rw [hi] at hm
  exact Option.isSome_iff_exists.1 hm
 refine ⟨Builtin.zeroCells zz.cells (grownCap W 22 21 31-22),?_⟩
 refine run_append_grow W 87 87 31 i zz (by kernel_rfl) hi hz ⟨g,0,none⟩ 21 21 ((mc a).take 42) (by rw [List.length_take,mc_length,hl,hsz];rfl) ?_ ⟨q,0,none⟩ 1 1 [.int .i64 (tAt a 21).1,.int .i64 (tAt a 21).2] (by rw [hsz];rfl) ?_ (by omega) (by decide) (by rw [hby];decide)
 ·intro j v hv
  rw [Addr.add_mid,Nat.zero_add,cobj_cell h]
  have hj:j<42:=by
   have:=(List.getElem?_eq_some_iff.1 hv).1
   rw [List.length_take] at this
   omega
  rw [List.getElem?_take_of_lt hj] at hv
  exact hv
 ·intro j v hv
  rw [Addr.add_mid,Nat.zero_add,cobj_cell hq]
  exact hv
theorem ap_at {W:World} {a:List (Int×Int)} {z:Array Value} (hl:a.length=22):SlA (W.drew.alloc (.cells (((mc a).take 42).toArray++#[.int .i64 (tAt a 21).1,.int .i64 (tAt a 21).2]++z) 31)) W.heap.size a:=by
 refine ⟨_,heap_at _ rfl,fun j hj=>?_⟩
 have hlen:((mc a).take 42).length=42:=by rw [List.length_take,mc_length,hl];rfl
 have g:=mc_get a 21 (by omega)
 rw [Array.getElem?_append_left (by simp [hlen];omega)]
 rcases Nat.lt_or_ge j 42 with h | h
 ·rw [Array.getElem?_append_left (by simp [hlen];omega)]
  simp [List.getElem?_take_of_lt h]
 ·rw [Array.getElem?_append_right (by simp [hlen];omega)]
  obtain rfl | rfl:j=42∨j=43:=by omega
  ·rw [show (42:Nat)=21*2 from rfl,g.1];simp [hlen]
  ·rw [show (43:Nat)=21*2+1 from rfl,g.2];simp [hlen]
section
variable {P:Program} {Pn:List PanicEntry->World->Prop} {K:Value->World->Prop} {s:Nat->Value} {w w':World} {o:Oper} {x y:Operand} {a b v:Value} {t:TypeId} {W':Array Value->World}
theorem rs_slice (ho:o.op=.slice t x none none none) (hx:evS s x=a) (h:(Instr.sliceAt t a none none none).run P w=.ok v w) (hK:K v w):RunSP P Pn K ((execOp (evS s) o).run P w):=by
 unfold execOp;rw [ho];subst hx
 simp only [Sem.run_bind,Option.map_none,h,Result.andThen,Sem.run_pure]
 exact hK
theorem rs_build {n:Nat} {ps:Array (Nat×Operand)} {vs:Array (Nat×Value)} (ho:o.op=.buildSlice t n ps) (hp:ps.map (fun (i,x)=>(i,evS s x))=vs) (h:(Instr.buildSlice t n vs).run P w=.ok v w') (hK:K v w'):RunSP P Pn K ((execOp (evS s) o).run P w):=by
 unfold execOp;rw [ho];subst hp
 simp only [Sem.run_bind,h,Result.andThen,Sem.run_pure]
 exact hK
theorem rs_append (ho:o.op=.call {callee:=.builtin .append,args:=#[x,y],argTypes:=#[t,t]}) (hx:evS s x=a) (hy:evS s y=b) (h:∃z:Array Value,(Builtin.append_ #[t,t] o.type #[a,b]).run P w=.ok v (W' z)) (hK:∀z,K v (W' z)):RunSP P Pn K ((execOp (evS s) o).run P w):=by
 obtain ⟨z,h⟩:=h
 have e:(execOp (evS s) o).run P w=.ok (.value v) (W' z):=by
  unfold execOp
  simp only [ho,resolve,invoke,builtin,Sem.run_bind,Sem.run_pure,Result.andThen_ok,List.map_toArray,List.map_cons,List.map_nil,hx,hy,h]
 rw [e]
 exact hK z
end
theorem tAt_mem {a:List (Int×Int)} {p:Nat} (h:p<a.length):tAt a p∈a:=by
 unfold tAt
 simp [List.getD,List.getElem?_eq_getElem h]
theorem mc_app (a b:List (Int×Int)):mc (a++b)=mc a++mc b:=by simp [mc]
theorem mc_chunk (ml:List (Int×Int)) (k:Nat) (h:22*k+22<=ml.length):∀j,j<44->(mc ml)[k*44+j]?=(mc ((ml.drop (22*k)).take 22))[j]?:=by
 intro j hj
 have e1:mc ml=mc (ml.take (22*k))++(mc ((ml.drop (22*k)).take 22)++mc ((ml.drop (22*k)).drop 22)):=by
  rw [←mc_app,←mc_app,List.take_append_drop,List.take_append_drop]
 have h1:(mc (ml.take (22*k))).length=k*44:=by rw [mc_length,List.length_take];omega
 have h2:(mc ((ml.drop (22*k)).take 22)).length=44:=by rw [mc_length,List.length_take,List.length_drop];omega
 rw [e1,List.getElem?_append_right (by omega),h1,show k*44+j-k*44=j by omega,List.getElem?_append_left (by omega)]
structure Ri2 (wr:World) (B0 n cap:Nat) (ml a:List (Int×Int)) (k:Nat) (L:Nat->Bool) (s:Nat->Value) (w:World):Prop where
 mu:Mut [] wr w
 e0:L 0->s 10=.pointer (some ⟨B0,k*44,none⟩)
 e1:L 1->s 11=mval a
 al_m:L 2->∃g:Nat,s 3=.pointer (some ⟨g,0,none⟩)/\wr.heap.size<=g/\g<w.heap.size/\(L 3=false->w.heap[g]?=some (cobj 34 zeroM))/\(L 3=true->w.heap[g]?=some (cobj 34 a))
 b3_2:L 3->L 2
structure Ri3 (V:World) (g:Nat) (a:List (Int×Int)) (L:Nat->Bool) (s:Nat->Value) (w:World):Prop where
 mu:Mut [] V w
 e0:L 0->s 12=.pointer (some ⟨g,0,none⟩)
 e1:L 1->s 13=.slice (some ⟨g,0,none⟩) 21 21
 e2:L 2->s 14=.pointer (some ⟨g,21*2,none⟩)
 e3:L 3->s 15=sval (tAt a 21)
 n4:L 4->∃q:Nat,s 16=.slice (some ⟨q,0,none⟩) 1 1/\w.heap[q]?=some (cobj 31 [tAt a 21])
 n5:L 5->∃q c:Nat,s 17=.slice (some ⟨q,0,none⟩) 22 c/\SlA w q a
 e6:L 6->s 18=.int .i64 22
 e7:L 7->s 19=.int .i64 ((0:Nat):Int)
structure Ri5 (wr:World) (q c:Nat) (a:List (Int×Int)) (p:Nat) (L:Nat->Bool) (s:Nat->Value) (w:World):Prop where
 mu:Mut [] wr w
 e0:L 0->s 21=.pointer (some ⟨q,p*2,none⟩)
 e1:L 1->s 22=sval (tAt a p)
 al_s:L 2->∃g:Nat,s 5=.pointer (some ⟨g,0,none⟩)/\wr.heap.size<=g/\g<w.heap.size/\(L 3=false->w.heap[g]?=some (cobj 31 [(0,0)]))/\(L 3=true->w.heap[g]?=some (cobj 31 [tAt a p]))
 b3_2:L 3->L 2
set_option maxHeartbeats 4000000 in
theorem tay_right (ml:List (Int×Int)) (n:Nat) (hml:ml.length=22*n) (hn3:n<=3) (B0 cap:Nat) (w:World) (h:w.heap[B0]?=some (cobj 34 ml)) :
  Calls Tryz.prog 27 #[.slice (some ⟨B0,0,none⟩) n cap] w fun e w'=>(((∀s∈ml,okS s)/\∃v,e=.returned v)∨(¬(∀s∈ml,okS s)/\e=.panicked (brk 210)))/\Below w.heap.size w w':=by
 have HML:=lh hml
 have HB0:=lh h
 have hn3':(n:Int)<=3:=by omega
 clear h hml
 go_enter Tryz.func27,Tryz.ntmps27
 go_wp2_with fail
 go_loopw [8] (fun x wr=>∃k:Nat,k<=n/\x=.int .i64 k/\Hid (Mut [] w wr/\∀s∈ml.take (22*k),okS s)) (fun x _=>n-(intOf x).toNat)
 case atStart=>exact ⟨0,by omega,rfl,lh ⟨Mut.refl _ _,by simp⟩⟩
 case round =>
  obtain ⟨k,hn,rfl,HG⟩:=hrel
  rcases Nat.lt_or_ge k n with hk | hk
  ·have hd:decide ((k:Int)<(n:Int))=true:=by simp;omega
   have hlt:(k:Int)<(n:Int):=by omega
   have hk0:(0:Int)<=(k:Int):=by omega
   have HKL:=lh hk
   have HSUB0:=lh (mc_chunk ml k (by have:=HML.out;omega))
   have HL0:=lh (show ((ml.drop (22*k)).take 22).length=22 by rw [List.length_take,List.length_drop];have:=HML.out;omega)
   have HTK:=lh (show ml.take (22*(k+1))=ml.take (22*k)++(ml.drop (22*k)).take 22 by rw [show 22*(k+1)=22*k+22 by omega,List.take_add])
   obtain ⟨a,haa⟩:∃a,(ml.drop (22*k)).take 22=a:=⟨_,rfl⟩
   rw [haa] at HSUB0 HL0 HTK
   have HIN:=lh (show ∀s∈a,s∈ml from fun s hs=>List.mem_of_mem_drop (List.mem_of_mem_take (haa ▸ hs)))
   have HSUB:=HSUB0
   have HL:=HL0
   have HB:=lh ((HG.out.1.same _ (lt_of_block HB0.out) (by simp)).trans HB0.out)
   clear hn hk haa HSUB0 HL0
   refine wsk fun K1 HK1=>?_
   go_wp2_with fail
   refine HK1.out _ _ ?_
   refine wsk fun K2 HK2=>?_
   go_wp2_with fail
   refine HK2.out _ _ ?_
   refine wsk fun K3 HK3=>?_
   refine wp_block ?_
   refine wsk fun K4 HK4=>?_
   refine wp_cut_mergeP (nn::nn::nn::some 3::nn::nn::nn::nn::nn::nn::some 10::some 11::n8 (n8 (nn::nn::[]))) (fun s w'=>Mut [] wr w'/\(∃g:Nat,s 3=.pointer (some ⟨g,0,none⟩)/\wr.heap.size<=g/\w'.heap[g]?=some (cobj 34 a))) (fun _ _=>False) ?_ ?_ ?_
   ·intro Q2 hQ2 hP2
    refine wG (Ri2 wr B0 n cap ml a k) ?_ ?_ ?_
    ·exact ⟨Mut.start _ false _,nB,nB,nB,nB⟩
    ·refine aC ?_ (aC ?_ (aC ?_ (aC ?_ aN)))
     ·intro L s w2 h hk hd hn K hK
      exact rs_index rfl (hk 6) (hk 8) (ix_models B0 n cap k HKL.out) (hK {h with e0:=rF})
     ·intro L s w2 h hk hd hn K hK
      have kb:=(h.mu.same _ (lt_of_block HB.out) (by simp)).trans HB.out
      exact rs_load rfl (h.e0 hd.1) (md_load_at kb HSUB.out HL.out) (hK {h with e1:=rF})
     ·intro L s w2 h hk hd hn K hK
      go_simp
      exact hK {h with mu:=h.mu.alloc _,al_m:=fun _=>aW h.mu.size h.b3_2 hn,b3_2:=rF}
     ·intro L s w2 h hk hd hn K hK
      obtain ⟨g,hg0,hg1,hgl,hg2,hg3⟩:=h.al_m hd.1
      have kb:=hg2 hn
      exact rs_store rfl hg0 (h.e1 hd.2.1) (md_store kb rfl _ HL.out) (hK {h with mu:=h.mu.putNew hg1 _,al_m:=fun _=>aT hg0 hg1 hgl kb,b3_2:=fun _=>hd.1})
    ·intro L s w2 h hk hl
     refine cA ?_ (hQ2 s w2 (⟨h.mu,aE (h.al_m (hl 2)) (hl 3)⟩))
     exact fq hk
   ·rintro s2 V ⟨h1,⟨g,hg0,hg1,hg2⟩⟩
    simp only [mergeL]
    rw [hg0]
    have HMV:=lh (HG.out.1.trans h1)
    have HG2:=HG
    replace HG:=lh hg2
    clear h1 hg0 hg1 hg2
    refine HK4.out _ _ ?_
    refine wsk fun K5 HK5=>?_
    refine wp_cut_mergeP (n8 (nn::nn::nn::nn::some 12::some 13::some 14::some 15::some 16::some 17::some 18::some 19::n8 (nn::nn::[]))) (fun s w'=>Mut [] V w'/\(∃q c:Nat,s 17=.slice (some ⟨q,0,none⟩) 22 c/\SlA w' q a)/\s 18=.int .i64 22/\s 19=.int .i64 ((0:Nat):Int)) (fun _ _=>False) ?_ ?_ ?_
    ·intro Q2 hQ2 hP2
     refine wG (Ri3 V g a) ?_ ?_ ?_
     ·exact ⟨Mut.start _ true _,nB,nB,nB,nB,nB,nB,nB,nB⟩
     ·refine aC ?_ (aC ?_ (aC ?_ (aC ?_ (aC ?_ (aC ?_ (aC ?_ (aC ?_ aN)))))))
      ·intro L s w2 h hk hd hn K hK
       exact rs_field rfl (hk 3) (fl_model0 _ _) (hK {h with e0:=rF})
      ·intro L s w2 h hk hd hn K hK
       exact rs_slice rfl (h.e0 hd.1) (sl_model g _) (hK {h with e1:=rF})
      ·intro L s w2 h hk hd hn K hK
       exact rs_field rfl (hk 3) (fl_model1 _ _) (hK {h with e2:=rF})
      ·intro L s w2 h hk hd hn K hK
       have kb:=kZ h.mu HG
       exact rs_load rfl (h.e2 hd.1) (sp_load (p:=21) kb (by have:=HL.out;omega)) (hK {h with e3:=rF})
      ·intro L s w2 h hk hd hn K hK
       exact rs_build rfl (by simp [evS_tmp,(h.e3 hd.1)]) (bs_span _ _) (hK {h with mu:=h.mu.alloc _,n4:=fun _=>⟨_,rfl,heap_at _ rfl⟩,n5:=fun a=>let ⟨q,c,h1,h2⟩:=h.n5 a;⟨q,c,h1,h2.up _⟩})
      ·intro L s w2 h hk hd hn K hK
       obtain ⟨q,s16,hq⟩:=h.n4 hd.2.1
       have kb:=(h.mu.same _ (lt_of_block HG.out) (by simp)).trans HG.out
       exact rs_append rfl (h.e1 hd.1) s16 (ap_model kb HL.out hq) (fun z=>hK {h with mu:=(h.mu.drew).alloc _,n4:=fun a=>let ⟨q,h1,h2⟩:=h.n4 a;⟨q,h1,heap_up _ h2⟩,n5:=fun _=>⟨_,_,rfl,ap_at HL.out⟩})
      ·intro L s w2 h hk hd hn K hK
       obtain ⟨q,c,s17,hq⟩:=h.n5 hd.1
       go_simp
       exact hK {h with e6:=rF}
      ·intro L s w2 h hk hd hn K hK
       exact rs_move rfl rfl (hK {h with e7:=rF})
     ·intro L s w2 h hk hl
      refine cA ?_ (hQ2 s w2 (⟨h.mu,h.n5 (hl 5),h.e6 (hl 6),h.e7 (hl 7)⟩))
      exact fq hk
    ·rintro s3 V2 ⟨h1,⟨q,c,hq,hsl⟩,k18,k19⟩
     simp only [mergeL]
     rw [hq,k18,k19]
     have HMV2:=lh (HMV.out.trans h1)
     have HSL0:=lh hsl
     clear h1 hq hsl k18 k19
     refine HK5.out _ _ ?_
     refine wp_block ?_
     go_loopw [19] (fun x wr=>∃p:Nat,p<=22/\x=.int .i64 p/\Hid (Mut [] V2 wr/\∀i,i<p->okS (tAt a i))) (fun x _=>22-(intOf x).toNat)
     case atStart=>exact ⟨0,by omega,rfl,lh ⟨Mut.refl _ _,fun i h=>by omega⟩⟩
     case round =>
      obtain ⟨p,hn,rfl,HGI⟩:=hrel
      have HSL:=lh (HSL0.out.mut HGI.out.1)
      rcases Nat.lt_or_ge p 22 with hp | hp
      ·have HPL:=lh hp
       have hdp:decide ((p:Int)<22)=true:=by simp;omega
       have hltp:(p:Int)<22:=by omega
       have hp0:(0:Int)<=(p:Int):=by omega
       clear hn hp
       refine wsk fun K6 HK6=>?_
       go_wp2_with fail
       refine HK6.out _ _ ?_
       refine wsk fun K7 HK7=>?_
       go_wp2_with fail
       refine HK7.out _ _ ?_
       refine wsk fun K8 HK8=>?_
       refine wp_block ?_
       refine wsk fun K9 HK9=>?_
       refine wp_cut_mergeP (nn::nn::nn::nn::nn::some 5::n8 (nn::nn::nn::nn::nn::nn::nn::some 21::some 22::nn::nn::nn::nn::nn::nn::nn::[])) (fun s w'=>Mut [] wr w'/\(∃g:Nat,s 5=.pointer (some ⟨g,0,none⟩)/\wr.heap.size<=g/\w'.heap[g]?=some (cobj 31 [tAt a p]))) (fun _ _=>False) ?_ ?_ ?_
       ·intro Q2 hQ2 hP2
        refine wG (Ri5 wr q c a p) ?_ ?_ ?_
        ·exact ⟨Mut.start _ false _,nB,nB,nB,nB⟩
        ·refine aC ?_ (aC ?_ (aC ?_ (aC ?_ aN)))
         ·intro L s w2 h hk hd hn K hK
          exact rs_index rfl (hk 17) (hk 19) (ix_spans q 22 c p HPL.out) (hK {h with e0:=rF})
         ·intro L s w2 h hk hd hn K hK
          have kb:=HSL.out.mut h.mu
          exact rs_load rfl (h.e0 hd.1) (kb.load HL.out HPL.out) (hK {h with e1:=rF})
         ·intro L s w2 h hk hd hn K hK
          go_simp
          exact hK {h with mu:=h.mu.alloc _,al_s:=fun _=>aW h.mu.size h.b3_2 hn,b3_2:=rF}
         ·intro L s w2 h hk hd hn K hK
          obtain ⟨g,hg0,hg1,hgl,hg2,hg3⟩:=h.al_s hd.1
          have kb:=hg2 hn
          exact rs_store rfl hg0 (h.e1 hd.2.1) (sp_store (p:=0) kb (by simp) _) (hK {h with mu:=h.mu.putNew hg1 _,al_s:=fun _=>aT hg0 hg1 hgl kb,b3_2:=fun _=>hd.1})
        ·intro L s w2 h hk hl
         refine cA ?_ (hQ2 s w2 (⟨h.mu,aE (h.al_s (hl 2)) (hl 3)⟩))
         exact fq hk
       ·rintro s5 V3 ⟨h1,⟨g5,e0,e1,e2⟩⟩
        simp only [mergeL]
        rw [e0]
        have x0:=cell_two0 e2
        have x1:=cell_two1 e2
        have HM3:=lh (HGI.out.1.trans h1)
        clear h1 e0 e1 e2
        refine HK9.out _ _ ?_
        go_wp2_with fail
        refine (span_Check (tAt a p) _).mono ?_;rintro e w4 ⟨rfl,hb⟩
        have HM4:=lh (HM3.out.step hb)
        clear hb
        by_cases hok:okS (tAt a p)
        ·have hz:sChk (tAt a p)=0:=sChk_ok hok
         have HOK:=lh hok
         rw [hz]
         clear hz hok x0 x1
         go_wp2_with fail
         refine HK8.out _ _ ?_
         go_wp2_with fail
         have HE:=lh (show Mut [] V2 w4/\∀i,i<p+1->okS (tAt a i) from ⟨HM4.out,fun i hi=>by
          rcases Nat.lt_or_ge i p with h | h
          ·exact HGI.out.2 i h
          ·obtain rfl:i=p:=by omega
           exact HOK.out⟩)
         go_roundw
         case rel=>first | exact ⟨p+1,by have:=HPL.out;omega,by go_num,HE⟩ | ((repeat apply Exists.intro);exact ⟨⟨p+1,by have:=HPL.out;omega,by go_num,HE⟩,rfl⟩)
         case measure=>simp [intOf];omega
        ·have hz:¬sChk (tAt a p)=0:=by rw [sChk_bad hok];decide
         have hz1:(sChk (tAt a p)==0)=false:=by simp [hz]
         have hz2:(sChk (tAt a p) != 0)=true:=by simp [hz]
         have HOK:=lh hok
         have HBL:=lh (HMV2.out.trans HM4.out).to0
         clear hok x0 x1
         go_wp2_with fail
         exact ⟨rfl,.inr ⟨fun hall=>HOK.out (hall _ (HIN.out _ (tAt_mem (by rw [HL.out];exact HPL.out)))),rfl⟩,HBL.out⟩
       ·rintro _ _ _ h
        exact h.elim
      ·obtain rfl:p=22:=by omega
       have HE:=lh (show Mut [] w wr/\∀s∈ml.take (22*(k+1)),okS s from ⟨HMV2.out.trans HGI.out.1,by
        rw [HTK.out]
        intro s hs
        rcases List.mem_append.1 hs with h | h
        ·exact HG2.out.2 s h
        ·obtain ⟨i,hi,rfl⟩:=List.mem_iff_getElem.1 h
         have:=HGI.out.2 i (by have:=HL.out;omega)
         unfold tAt at this
         simpa [List.getD,List.getElem?_eq_getElem hi] using this⟩)
       clear hn hp
       go_wp2_with fail
       refine HK3.out _ _ ?_
       go_wp2_with fail
       go_roundw
       case rel=>first | exact ⟨k+1,by have:=HKL.out;omega,by go_num,HE⟩ | ((repeat apply Exists.intro);exact ⟨⟨k+1,by have:=HKL.out;omega,by go_num,HE⟩,rfl⟩)
       case measure=>simp [intOf];have:=HKL.out;omega
    ·rintro _ _ _ h
     exact h.elim
   ·rintro _ _ _ h
    exact h.elim
  ·obtain rfl:k=n:=by omega
   have HE:=lh (show (∀s∈ml,okS s)/\Below w.heap.size w wr from ⟨by have:=HG.out.2;rwa [←HML.out,List.take_length] at this,HG.out.1.to0⟩)
   clear hk hn
   go_wp2_with fail
   go_end0
   exact ⟨.inl ⟨HE.out.1,_,rfl⟩,HE.out.2⟩
end Go.Proofs.YthhkcfpljgdnhaaGreat
namespace Go.Proofs.YthhkcfpljgdnhaaGreat
open Go.RowKit Mnc
attribute [local go_sem] RunSP_value RunSP_skip RunSP_enter evS_tmp evS_const evS_global evS_func
section
variable {W:World} {B:Nat} {t:TypeId} {n m:Int}
theorem e_load (h:W.heap[B]?=some (iobj t n)):(Instr.loadAt 38 (.pointer (some ⟨B,0,none⟩))).run Tryz.prog W=.ok (.int .i64 n) W:=by
 have c:=cell_of_one h
 simp [go_sem,c]
theorem e_store (h:W.heap[B]?=some (iobj t n)):(Instr.storeAt 38 (.pointer (some ⟨B,0,none⟩)) (.int .i64 m)).run Tryz.prog W=.ok () (W.putObj B (iobj t m)):=by
 have c:=cell_of_one h
 have f:W.frozen? ⟨B,0,none⟩=false:=by simp [World.frozen?,h,iobj]
 have e:=setCell_put (W:=W) (cs:=#[.int .i64 n]) (fr:=(0,0)) (t:=t) h 0 (.int .i64 m)
 have hs:(Instr.storeAt 38 (.pointer (some ⟨B,0,none⟩)) (.int .i64 m)).run Tryz.prog W=.ok () (W.setCell ⟨B,0,none⟩ (.int .i64 m)):=by
  simp [go_sem,c,f]
 rw [hs,e]
 rfl
theorem e_loadVar (h:W.heap[B]?=some (iobj t n)):(loadVar 38 ⟨B,0,none⟩).run Tryz.prog W=.ok (.int .i64 n) W:=by
 have c:=cell_of_one h
 simp [go_sem,c]
/-- A result, or nothing where there is an error. -/
def orZ {α:Type} (z:α) (r:α×Int):α:=if r.2=0 then r.1 else z
theorem orZ_0 {α:Type} {z:α} {r:α×Int} (h:r.2=0):orZ z r=r.1:=if_pos h
theorem orZ_1 {α:Type} {z:α} {r:α×Int} (h:¬r.2=0):orZ z r=z:=if_neg h
theorem fl_broken (B:Nat) (W:World):(Instr.fieldAt 70 (.pointer (some ⟨B,0,none⟩)) 0).run Tryz.prog W=.ok (.pointer (some ⟨B,0,none⟩)) W:=by
 simp [go_sem]
end
theorem catch_idle_m (p q:Addr) (w:World) :
  CallsD Tryz.prog 61 #[.pointer (some p),.pointer (some q)] .returning w fun e u' w'=>e=.returned (.tuple #[])/\u'=.returning/\w'=w:=by
 refine callsD_of_wpS Tryz.func61 rfl fun c₀ cs hu=>?_
 apply wpS_seq
 apply wpS_region
 simp [wpOpsS,go_sem,recoverD,hu,Tryz.ntmps61,Exit.thenS]
 apply wpS_seq
 apply wpS_region
 simp [wpOpsS,go_sem,Exit.thenS]
 refine wpS_cond (t:=false) (by simp [Act.eval,Array.replicate]) ?_
 simp only [Bool.false_eq_true,if_false]
 refine wpS_of_wp (wp_skip ?_)
 cases c₀
 simp_all [bodyPostS,results,Tryz.results61]
structure Ctm (V:World) (b o q:Nat) (n m:Int) (l:List (Int×Int)) (L:Nat->Bool) (s:Nat->Value) (w:World):Prop where
 mu:Mut [o,q] V w
 kt_out:L 3=false->w.heap[o]?=some (cobj 34 l)
 kr_out:L 3->w.heap[o]?=some (cobj 34 zeroM)
 kt_er:L 4=false->w.heap[q]?=some (iobj 38 m)
 kr_er:L 4->w.heap[q]?=some (iobj 38 n)
 e0:L 0->s 17=mval zeroM
 e1:L 1->s 18=.pointer (some ⟨b,0,none⟩)
 e2:L 2->s 19=.int .i64 n
set_option maxHeartbeats 2000000 in
theorem catch_m (o q:Nat) (n m:Int) (l:List (Int×Int)) (hl:l.length=22) (w:World) (ho:w.heap[o]?=some (cobj 34 l)) (hq:w.heap[q]?=some (iobj 38 m)) (hne:o≠q) :
  CallsD Tryz.prog 61 #[.pointer (some ⟨o,0,none⟩),.pointer (some ⟨q,0,none⟩)] (.panicking (brk n)) w fun e u' w'=>e=.returned (.tuple #[])/\u'=.panicking [{v:=.iface 70 (.agg #[.int .i64 n]),recovered:=true}] /\
   w'.heap[o]?=some (cobj 34 zeroM)/\w'.heap[q]?=some (iobj 38 n)/\Mut [o,q] w w':=by
 refine callsD_of_wpS Tryz.func61 rfl fun c₀ cs hu=>?_
 unfold brk at hu
 have hta:∀W,(Instr.typeAssert (.iface 70 (.agg #[.int .i64 n])) 20 70 true).run Tryz.prog W=.ok (.tuple #[.agg #[.int .i64 n],.bool true]) W:=fun _=>by kernel_rfl
 have HL:=lh hl
 clear hl
 have HO1:=lh ho
 have HE1:=lh hq
 have HNE:=lh hne
 clear ho hq hne
 apply wpS_seq
 apply wpS_region
 simp [wpOpsS,go_sem,recoverD,hu,Tryz.ntmps61,Exit.thenS]
 refine wpS_of_wp ?_
 simp only [Array.replicate_succ,Array.replicate_zero,List.push_toArray,List.append_toArray,List.nil_append,List.cons_append,List.setIfInBounds_toArray,List.set_cons_zero,List.set_cons_succ]
 go_wp2_with fail
 obtain ⟨b,hb⟩:∃b,w.heap.size=b:=⟨_,rfl⟩
 refine wp_world (fun V=>Mut [o,q] w V/\V.heap[b]?=some (iobj 70 n)/\V.heap[b+1]?=some (cobj 34 zeroM)/\V.heap[o]?=some (cobj 34 l)/\V.heap[q]?=some (iobj 38 m)) ?_
  (by
   rw [←hb]
   exact ⟨((Mut.refl _ _).alloc _).alloc _,heap_up _ (heap_at _ rfl),heap_at (cobj 34 zeroM) (by simp),heap_up _ (heap_up _ HO1.out),heap_up _ (heap_up _ HE1.out)⟩)
 rintro V ⟨hm,hB,hN,hO,hE⟩
 rw [hb]
 have HM:=lh hm
 have HLT:=lh (show o<b/\q<b/\o≠q from ⟨hb ▸ lt_of_block HO1.out,hb ▸ lt_of_block HE1.out,HNE.out⟩)
 have HB:=lh hB
 have HN:=lh hN
 have HO:=lh hO
 have HE:=lh hE
 clear hm hB hO hE hb
 refine wp_cut_mergeP (n8 (n8 (nn::some 17::some 18::some 19::[]))) (fun _ w'=>Mut [o,q] V w'/\w'.heap[o]?=some (cobj 34 zeroM)/\w'.heap[q]?=some (iobj 38 n)) (fun _ _=>False) ?_ ?_ ?_
 ·intro Q2 hQ2 hP2
  refine wG (Ctm V b o q n m l) ?_ ?_ ?_
  ·exact ⟨Mut.start _ true _,fun _=>HO.out,nB,fun _=>HE.out,nB,nB,nB,nB⟩
  ·refine aC ?_ (aC ?_ (aC ?_ (aC ?_ (aC ?_ aN))))
   ·intro L s w2 h hk hd hn K hK
    have kb:=kX h.mu HN (by have:=HLT.out;omega) (by have:=HLT.out;omega)
    exact rs_load rfl (hk 5) (md_load kb rfl) (hK {h with e0:=rF})
   ·intro L s w2 h hk hd hn K hK
    exact rs_field rfl (hk 3) (fl_broken _ _) (hK {h with e1:=rF})
   ·intro L s w2 h hk hd hn K hK
    have kb:=kX h.mu HB (by have:=HLT.out;omega) (by have:=HLT.out;omega)
    exact rs_load rfl (h.e1 hd.1) (e_load kb) (hK {h with e2:=rF})
   ·intro L s w2 h hk hd hn K hK
    have kb:=h.kt_out hn
    exact rs_store rfl (hk 0) (h.e0 hd.1) (md_store kb HL.out _ rfl) (hK {h with mu:=h.mu.put (List.Mem.head _) _,kt_er:=fun a=>pO (by have:=HLT.out;omega) (h.kt_er a),kr_er:=fun a=>pO (by have:=HLT.out;omega) (h.kr_er a),kt_out:=nF,kr_out:=fun _=>pH kb})
   ·intro L s w2 h hk hd hn K hK
    have kb:=h.kt_er hn
    exact rs_store rfl (hk 1) (h.e2 hd.1) (e_store kb) (hK {h with mu:=h.mu.put (List.Mem.tail _ (List.Mem.head _)) _,kt_out:=fun a=>pO (by have:=HLT.out;omega) (h.kt_out a),kr_out:=fun a=>pO (by have:=HLT.out;omega) (h.kr_out a),kt_er:=nF,kr_er:=fun _=>pH kb})
  ·intro L s w2 h hk hl
   refine cA ?_ (hQ2 s w2 (⟨h.mu,h.kr_out (hl 3),h.kr_er (hl 4)⟩))
   exact fq hk
 ·rintro s6 V2 ⟨h1,h2,h3⟩
  exact ⟨rfl,_,rfl,.tuple #[],by simp [results,Tryz.results61,go_sem],rfl,rfl,h2,h3,HM.out.trans h1⟩
 ·rintro _ _ _ h
  exact h.elim
structure Cum (V:World) (b f:Nat) (caps:Array Value) (r:List (Int×Int)×Int) (L:Nat->Bool) (s:Nat->Value) (w:World):Prop where
 mu:Mut [b,b+1] V w
 kt_out:L 2=false->w.heap[b]?=some (cobj 34 zeroM)
 kr_out:L 2->w.heap[b]?=some (cobj 34 r.1)
 kt_er:L 3=false->w.heap[b+1]?=some (iobj 38 0)
 kr_er:L 3->w.heap[b+1]?=some (iobj 38 0)
 e0:L 0->s 5=.func (.func f) #[] caps
 z1:L 1->r.2=0
 e1:L 1->s 6=mval r.1
 b2_1:L 2->L 1
 b3_1:L 3->L 1
set_option maxHeartbeats 2000000 in
theorem tay_caught_m (f:Nat) (caps:Array Value) (r:List (Int×Int)×Int) (hr:r.2=0->r.1.length=22) (w:World) (hi:∀W,(callFunc f (#[]++caps)).run Tryz.prog W=.ok (.enter f (#[]++caps)) W)
  (hW:∀W,Below w.heap.size w W->Calls Tryz.prog f (#[]++caps) W fun e w'=>Ends mval r e/\Below W.heap.size W w') :
  Calls Tryz.prog 25 #[.func (.func f) #[] caps] w fun e w'=>e=.returned (.tuple #[mval (orZ zeroM r),.int .i64 r.2])/\Below w.heap.size w w':=by
 have HI:=lh hi
 have HW:=lh hW
 have HR:=lh hr
 clear hr
 have hmf:∀(fn:Fn) (first cap:Array Value) (w:World),(Instr.makeFunc fn first cap).run Tryz.prog w=.ok (.func fn first cap) w:=fun _ _ _ _=>rfl
 clear hi hW
 go_enter_defers Tryz.func25,Tryz.ntmps25
 refine wsk fun K0 HK0=>?_
 go_wp2_with fail
 obtain ⟨b,hb⟩:∃b,w.heap.size=b:=⟨_,rfl⟩
 refine HK0.out _ _ ?_
 refine wp_world (fun V=>Mut [] w V/\V.heap[b]?=some (cobj 34 zeroM)/\V.heap[b+1]?=some (iobj 38 0)) ?_
  (by
   rw [←hb]
   exact ⟨((Mut.refl _ _).alloc _).alloc _,heap_up _ (heap_at (cobj 34 zeroM) (by simp)),heap_at _ (by simp)⟩)
 rintro V ⟨hm,hO,hE⟩
 rw [hb]
 have HM:=lh hm
 have HBW:=lh hb
 have HO:=lh hO
 have HE:=lh hE
 clear hm hO hE hb HK0
 refine wsk fun K1 HK1=>?_
 go_wp2_with fail
 refine HK1.out _ _ ?_
 refine wp_seq_k fun K2 hK2=>?_
 have HK2:=lh hK2
 clear hK2 hmf
 refine wp_cut_mergeK [none,none,none,none,none,some 5,some 6] (fun _ w'=>Mut [b,b+1] V w'/\w'.heap[b]?=some (cobj 34 r.1)/\w'.heap[b+1]?=some (iobj 38 0)/\r.2=0) (fun ch w'=>ch=brk (fstE [r.2])/\¬fstE [r.2]=0/\Mut [b,b+1] V w'/\w'.heap[b]?=some (cobj 34 zeroM)/\w'.heap[b+1]?=some (iobj 38 0)) ?_ ?_ ?_
 ·intro Q2 hQ2 hP2
  refine wpG ?_
  refine wp_region_K (b:=false) (Pn:=(fun ch w'=>ch=brk (fstE [r.2])/\¬fstE [r.2]=0/\Mut [b,b+1] V w'/\w'.heap[b]?=some (cobj 34 zeroM)/\w'.heap[b+1]?=some (iobj 38 0))) (Cum V b f caps r) (by kernel_rfl) (by kernel_rfl) ?_ ?_ ?_ ?_
  ·exact ⟨Mut.start _ false _,fun _=>HO.out,nB,fun _=>HE.out,nB,nB,nB,nB,nB,nB⟩
  ·refine aC ?_ (aC ?_ (aC ?_ (aC ?_ aN)))
   ·intro L s w2 h hk hd hn K hK
    exact rs_move rfl (hk 0) (hK {h with e0:=rF})
   ·intro L s w2 h hk hd hn K hK
    have s5:=h.e0 hd.1
    refine rs_callv rfl s5 (vs:=#[]) (by simp) (HI.out _) ?_
    refine (HW.out _ (HM.out.stepM h.mu (by have:=HBW.out;intro x hx;simp at hx;right;omega)).to0).mono ?_
    rintro e w3 ⟨⟨hz,rfl⟩ | ⟨hz,rfl⟩,hb⟩
    ·exact .inl ⟨_,rfl,hK {h with mu:=h.mu.step hb,kt_out:=fun a=>bk hb (h.kt_out a),kr_out:=fun a=>bk hb (h.kr_out a),kt_er:=fun a=>bk hb (h.kt_er a),kr_er:=fun a=>bk hb (h.kr_er a),e1:=rF,z1:=fun _=>hz,b2_1:=rF,b3_1:=rF}⟩
    ·exact .inr ⟨_,rfl,congrArg brk (by rw [fstE_1 (hz)]),(by rw [fstE_1 (hz)];exact hz),h.mu.step hb,(hb.block _ (lt_of_block (h.kt_out (bF h.b2_1 hn)))).trans (h.kt_out (bF h.b2_1 hn)),(hb.block _ (lt_of_block (h.kt_er (bF h.b3_1 hn)))).trans (h.kt_er (bF h.b3_1 hn))⟩
   ·intro L s w2 h hk hd hn K hK
    have kb:=h.kt_out hn
    exact rs_store rfl (hk 2) (h.e1 hd.1) (md_store kb rfl _ (HR.out (h.z1 hd.1))) (hK {h with mu:=h.mu.put (List.Mem.head _) _,kt_er:=fun a=>pO (by omega) (h.kt_er a),kr_er:=fun a=>pO (by omega) (h.kr_er a),kt_out:=nF,kr_out:=fun _=>pH kb,b2_1:=fun _=>hd.1})
   ·intro L s w2 h hk hd hn K hK
    have kb:=h.kt_er hn
    exact rs_store rfl (hk 3) rfl (e_store kb) (hK {h with mu:=h.mu.put (List.Mem.tail _ (List.Mem.head _)) _,kt_out:=fun a=>pO (by omega) (h.kt_out a),kr_out:=fun a=>pO (by omega) (h.kr_out a),kt_er:=nF,kr_er:=fun _=>pH kb,b3_1:=fun _=>hd.2.2.1})
  ·intro L s w2 h hk hl
   refine cA ?_ (hQ2 s w2 (⟨h.mu,h.kr_out (hl 2 (by decide)),h.kr_er (hl 3 (by decide)),h.z1 (hl 1 (by decide))⟩))
   exact fq hk
  ·intro c s w2 hk hc
   refine (congrArg (fun a=>Q2 (.panic c) a w2) (?_:_=_)).mpr (hP2 c s w2 hc)
   exact fq hk
 ·rintro s2 V2 ⟨h1,h2,h3,hz⟩
  simp only [mergeL]
  refine HK2.out _ _ ?_
  refine wp_ret ?_
  have hB:=(HM.out.stepM h1 (by have:=HBW.out;intro x hx;simp at hx;right;omega)).to0
  rw [HBW.out] at hB
  refine leaves_cons (f:=61) (args:=#[.pointer (some ⟨b,0,none⟩),.pointer (some ⟨b+1,0,none⟩)]) (by simp) (by simp [go_sem]) ?_
  refine (catch_idle_m _ _ _).mono ?_
  rintro e u' w'' ⟨rfl,rfl,rfl⟩
  exact ⟨_,res_two Tryz.results25 rfl rfl (md_loadVar h2 (HR.out hz)) (e_loadVar h3),by rw [orZ_0 hz,hz],hB⟩
 ·rintro c s2 w' ⟨rfl,hz,h2,h3,h4⟩
  simp only [mergeL]
  rw [fstE_one] at hz ⊢
  have hB:=(HM.out.stepM h2 (by have:=HBW.out;intro x hx;simp at hx;right;omega)).to0
  rw [HBW.out] at hB
  refine leaves_cons (f:=61) (args:=#[.pointer (some ⟨b,0,none⟩),.pointer (some ⟨b+1,0,none⟩)]) (by simp [brk]) (by simp [go_sem]) ?_
  refine (catch_m b (b+1) r.2 0 _ rfl w' h3 h4 (by omega)).mono ?_
  rintro e u' w'' ⟨rfl,rfl,ho,hq,hm⟩
  exact ⟨_,res_two Tryz.results25 rfl rfl (md_loadVar ho rfl) (e_loadVar hq),by rw [orZ_1 hz],hB.trans (hm.below (by have:=hB.size;have:=lt_of_block h3;omega) (by intro x hx;simp at hx;omega))⟩
theorem catch_idle_s (p q:Addr) (w:World) :
  CallsD Tryz.prog 71 #[.pointer (some p),.pointer (some q)] .returning w fun e u' w'=>e=.returned (.tuple #[])/\u'=.returning/\w'=w:=by
 refine callsD_of_wpS Tryz.func71 rfl fun c₀ cs hu=>?_
 apply wpS_seq
 apply wpS_region
 simp [wpOpsS,go_sem,recoverD,hu,Tryz.ntmps71,Exit.thenS]
 apply wpS_seq
 apply wpS_region
 simp [wpOpsS,go_sem,Exit.thenS]
 refine wpS_cond (t:=false) (by simp [Act.eval,Array.replicate]) ?_
 simp only [Bool.false_eq_true,if_false]
 refine wpS_of_wp (wp_skip ?_)
 cases c₀
 simp_all [bodyPostS,results,Tryz.results71]
structure Cts (V:World) (b o q:Nat) (n m:Int) (l:(Int×Int)) (L:Nat->Bool) (s:Nat->Value) (w:World):Prop where
 mu:Mut [o,q] V w
 kt_out:L 3=false->w.heap[o]?=some (cobj 31 ([l]))
 kr_out:L 3->w.heap[o]?=some (cobj 31 ([(0,0)]))
 kt_er:L 4=false->w.heap[q]?=some (iobj 38 m)
 kr_er:L 4->w.heap[q]?=some (iobj 38 n)
 e0:L 0->s 17=sval (0,0)
 e1:L 1->s 18=.pointer (some ⟨b,0,none⟩)
 e2:L 2->s 19=.int .i64 n
set_option maxHeartbeats 2000000 in
theorem catch_s (o q:Nat) (n m:Int) (l:(Int×Int)) (w:World) (ho:w.heap[o]?=some (cobj 31 [l])) (hq:w.heap[q]?=some (iobj 38 m)) (hne:o≠q) :
  CallsD Tryz.prog 71 #[.pointer (some ⟨o,0,none⟩),.pointer (some ⟨q,0,none⟩)] (.panicking (brk n)) w fun e u' w'=>e=.returned (.tuple #[])/\u'=.panicking [{v:=.iface 70 (.agg #[.int .i64 n]),recovered:=true}] /\
   w'.heap[o]?=some (cobj 31 [(0,0)])/\w'.heap[q]?=some (iobj 38 n)/\Mut [o,q] w w':=by
 refine callsD_of_wpS Tryz.func71 rfl fun c₀ cs hu=>?_
 unfold brk at hu
 have hta:∀W,(Instr.typeAssert (.iface 70 (.agg #[.int .i64 n])) 20 70 true).run Tryz.prog W=.ok (.tuple #[.agg #[.int .i64 n],.bool true]) W:=fun _=>by kernel_rfl
 skip
 have HO1:=lh ho
 have HE1:=lh hq
 have HNE:=lh hne
 clear ho hq hne
 apply wpS_seq
 apply wpS_region
 simp [wpOpsS,go_sem,recoverD,hu,Tryz.ntmps71,Exit.thenS]
 refine wpS_of_wp ?_
 simp only [Array.replicate_succ,Array.replicate_zero,List.push_toArray,List.append_toArray,List.nil_append,List.cons_append,List.setIfInBounds_toArray,List.set_cons_zero,List.set_cons_succ]
 go_wp2_with fail
 obtain ⟨b,hb⟩:∃b,w.heap.size=b:=⟨_,rfl⟩
 refine wp_world (fun V=>Mut [o,q] w V/\V.heap[b]?=some (iobj 70 n)/\V.heap[b+1]?=some (cobj 31 [(0,0)])/\V.heap[o]?=some (cobj 31 [l])/\V.heap[q]?=some (iobj 38 m)) ?_
  (by
   rw [←hb]
   exact ⟨((Mut.refl _ _).alloc _).alloc _,heap_up _ (heap_at _ rfl),heap_at (cobj 31 [(0,0)]) (by simp),heap_up _ (heap_up _ HO1.out),heap_up _ (heap_up _ HE1.out)⟩)
 rintro V ⟨hm,hB,hN,hO,hE⟩
 rw [hb]
 have HM:=lh hm
 have HLT:=lh (show o<b/\q<b/\o≠q from ⟨hb ▸ lt_of_block HO1.out,hb ▸ lt_of_block HE1.out,HNE.out⟩)
 have HB:=lh hB
 have HN:=lh hN
 have HO:=lh hO
 have HE:=lh hE
 clear hm hB hO hE hb
 refine wp_cut_mergeP (n8 (n8 (nn::some 17::some 18::some 19::[]))) (fun _ w'=>Mut [o,q] V w'/\w'.heap[o]?=some (cobj 31 ([(0,0)]))/\w'.heap[q]?=some (iobj 38 n)) (fun _ _=>False) ?_ ?_ ?_
 ·intro Q2 hQ2 hP2
  refine wG (Cts V b o q n m l) ?_ ?_ ?_
  ·exact ⟨Mut.start _ true _,fun _=>HO.out,nB,fun _=>HE.out,nB,nB,nB,nB⟩
  ·refine aC ?_ (aC ?_ (aC ?_ (aC ?_ (aC ?_ aN))))
   ·intro L s w2 h hk hd hn K hK
    have kb:=kX h.mu HN (by have:=HLT.out;omega) (by have:=HLT.out;omega)
    exact rs_load rfl (hk 5) (sp_load (p:=0) kb (by simp)) (hK {h with e0:=rF})
   ·intro L s w2 h hk hd hn K hK
    exact rs_field rfl (hk 3) (fl_broken _ _) (hK {h with e1:=rF})
   ·intro L s w2 h hk hd hn K hK
    have kb:=kX h.mu HB (by have:=HLT.out;omega) (by have:=HLT.out;omega)
    exact rs_load rfl (h.e1 hd.1) (e_load kb) (hK {h with e2:=rF})
   ·intro L s w2 h hk hd hn K hK
    have kb:=h.kt_out hn
    exact rs_store rfl (hk 0) (h.e0 hd.1) (sp_store (p:=0) kb (by simp) _) (hK {h with mu:=h.mu.put (List.Mem.head _) _,kt_er:=fun a=>pO (by have:=HLT.out;omega) (h.kt_er a),kr_er:=fun a=>pO (by have:=HLT.out;omega) (h.kr_er a),kt_out:=nF,kr_out:=fun _=>pH kb})
   ·intro L s w2 h hk hd hn K hK
    have kb:=h.kt_er hn
    exact rs_store rfl (hk 1) (h.e2 hd.1) (e_store kb) (hK {h with mu:=h.mu.put (List.Mem.tail _ (List.Mem.head _)) _,kt_out:=fun a=>pO (by have:=HLT.out;omega) (h.kt_out a),kr_out:=fun a=>pO (by have:=HLT.out;omega) (h.kr_out a),kt_er:=nF,kr_er:=fun _=>pH kb})
  ·intro L s w2 h hk hl
   refine cA ?_ (hQ2 s w2 (⟨h.mu,h.kr_out (hl 3),h.kr_er (hl 4)⟩))
   exact fq hk
 ·rintro s6 V2 ⟨h1,h2,h3⟩
  exact ⟨rfl,_,rfl,.tuple #[],by simp [results,Tryz.results71,go_sem],rfl,rfl,h2,h3,HM.out.trans h1⟩
 ·rintro _ _ _ h
  exact h.elim
structure Cus (V:World) (b f:Nat) (caps:Array Value) (r:(Int×Int)×Int) (L:Nat->Bool) (s:Nat->Value) (w:World):Prop where
 mu:Mut [b,b+1] V w
 kt_out:L 2=false->w.heap[b]?=some (cobj 31 ([(0,0)]))
 kr_out:L 2->w.heap[b]?=some (cobj 31 ([r.1]))
 kt_er:L 3=false->w.heap[b+1]?=some (iobj 38 0)
 kr_er:L 3->w.heap[b+1]?=some (iobj 38 0)
 e0:L 0->s 5=.func (.func f) #[] caps
 z1:L 1->r.2=0
 e1:L 1->s 6=sval r.1
 b2_1:L 2->L 1
 b3_1:L 3->L 1
set_option maxHeartbeats 2000000 in
theorem tay_caught_s (f:Nat) (caps:Array Value) (r:(Int×Int)×Int) (w:World) (hi:∀W,(callFunc f (#[]++caps)).run Tryz.prog W=.ok (.enter f (#[]++caps)) W)
  (hW:∀W,Below w.heap.size w W->Calls Tryz.prog f (#[]++caps) W fun e w'=>Ends sval r e/\Below W.heap.size W w') :
  Calls Tryz.prog 32 #[.func (.func f) #[] caps] w fun e w'=>e=.returned (.tuple #[sval (orZ ((0,0):Int×Int) r),.int .i64 r.2])/\Below w.heap.size w w':=by
 have HI:=lh hi
 have HW:=lh hW
 skip
 have hmf:∀(fn:Fn) (first cap:Array Value) (w:World),(Instr.makeFunc fn first cap).run Tryz.prog w=.ok (.func fn first cap) w:=fun _ _ _ _=>rfl
 clear hi hW
 go_enter_defers Tryz.func32,Tryz.ntmps32
 refine wsk fun K0 HK0=>?_
 go_wp2_with fail
 obtain ⟨b,hb⟩:∃b,w.heap.size=b:=⟨_,rfl⟩
 refine HK0.out _ _ ?_
 refine wp_world (fun V=>Mut [] w V/\V.heap[b]?=some (cobj 31 [(0,0)])/\V.heap[b+1]?=some (iobj 38 0)) ?_
  (by
   rw [←hb]
   exact ⟨((Mut.refl _ _).alloc _).alloc _,heap_up _ (heap_at (cobj 31 [(0,0)]) (by simp)),heap_at _ (by simp)⟩)
 rintro V ⟨hm,hO,hE⟩
 rw [hb]
 have HM:=lh hm
 have HBW:=lh hb
 have HO:=lh hO
 have HE:=lh hE
 clear hm hO hE hb HK0
 refine wsk fun K1 HK1=>?_
 go_wp2_with fail
 refine HK1.out _ _ ?_
 refine wp_seq_k fun K2 hK2=>?_
 have HK2:=lh hK2
 clear hK2 hmf
 refine wp_cut_mergeK [none,none,none,none,none,some 5,some 6] (fun _ w'=>Mut [b,b+1] V w'/\w'.heap[b]?=some (cobj 31 ([r.1]))/\w'.heap[b+1]?=some (iobj 38 0)/\r.2=0) (fun ch w'=>ch=brk (fstE [r.2])/\¬fstE [r.2]=0/\Mut [b,b+1] V w'/\w'.heap[b]?=some (cobj 31 ([(0,0)]))/\w'.heap[b+1]?=some (iobj 38 0)) ?_ ?_ ?_
 ·intro Q2 hQ2 hP2
  refine wpG ?_
  refine wp_region_K (b:=false) (Pn:=(fun ch w'=>ch=brk (fstE [r.2])/\¬fstE [r.2]=0/\Mut [b,b+1] V w'/\w'.heap[b]?=some (cobj 31 ([(0,0)]))/\w'.heap[b+1]?=some (iobj 38 0))) (Cus V b f caps r) (by kernel_rfl) (by kernel_rfl) ?_ ?_ ?_ ?_
  ·exact ⟨Mut.start _ false _,fun _=>HO.out,nB,fun _=>HE.out,nB,nB,nB,nB,nB,nB⟩
  ·refine aC ?_ (aC ?_ (aC ?_ (aC ?_ aN)))
   ·intro L s w2 h hk hd hn K hK
    exact rs_move rfl (hk 0) (hK {h with e0:=rF})
   ·intro L s w2 h hk hd hn K hK
    have s5:=h.e0 hd.1
    refine rs_callv rfl s5 (vs:=#[]) (by simp) (HI.out _) ?_
    refine (HW.out _ (HM.out.stepM h.mu (by have:=HBW.out;intro x hx;simp at hx;right;omega)).to0).mono ?_
    rintro e w3 ⟨⟨hz,rfl⟩ | ⟨hz,rfl⟩,hb⟩
    ·exact .inl ⟨_,rfl,hK {h with mu:=h.mu.step hb,kt_out:=fun a=>bk hb (h.kt_out a),kr_out:=fun a=>bk hb (h.kr_out a),kt_er:=fun a=>bk hb (h.kt_er a),kr_er:=fun a=>bk hb (h.kr_er a),e1:=rF,z1:=fun _=>hz,b2_1:=rF,b3_1:=rF}⟩
    ·exact .inr ⟨_,rfl,congrArg brk (by rw [fstE_1 (hz)]),(by rw [fstE_1 (hz)];exact hz),h.mu.step hb,(hb.block _ (lt_of_block (h.kt_out (bF h.b2_1 hn)))).trans (h.kt_out (bF h.b2_1 hn)),(hb.block _ (lt_of_block (h.kt_er (bF h.b3_1 hn)))).trans (h.kt_er (bF h.b3_1 hn))⟩
   ·intro L s w2 h hk hd hn K hK
    have kb:=h.kt_out hn
    exact rs_store rfl (hk 2) (h.e1 hd.1) (sp_store (p:=0) kb (by simp) r.1) (hK {h with mu:=h.mu.put (List.Mem.head _) _,kt_er:=fun a=>pO (by omega) (h.kt_er a),kr_er:=fun a=>pO (by omega) (h.kr_er a),kt_out:=nF,kr_out:=fun _=>pH kb,b2_1:=fun _=>hd.1})
   ·intro L s w2 h hk hd hn K hK
    have kb:=h.kt_er hn
    exact rs_store rfl (hk 3) rfl (e_store kb) (hK {h with mu:=h.mu.put (List.Mem.tail _ (List.Mem.head _)) _,kt_out:=fun a=>pO (by omega) (h.kt_out a),kr_out:=fun a=>pO (by omega) (h.kr_out a),kt_er:=nF,kr_er:=fun _=>pH kb,b3_1:=fun _=>hd.2.2.1})
  ·intro L s w2 h hk hl
   refine cA ?_ (hQ2 s w2 (⟨h.mu,h.kr_out (hl 2 (by decide)),h.kr_er (hl 3 (by decide)),h.z1 (hl 1 (by decide))⟩))
   exact fq hk
  ·intro c s w2 hk hc
   refine (congrArg (fun a=>Q2 (.panic c) a w2) (?_:_=_)).mpr (hP2 c s w2 hc)
   exact fq hk
 ·rintro s2 V2 ⟨h1,h2,h3,hz⟩
  simp only [mergeL]
  refine HK2.out _ _ ?_
  refine wp_ret ?_
  have hB:=(HM.out.stepM h1 (by have:=HBW.out;intro x hx;simp at hx;right;omega)).to0
  rw [HBW.out] at hB
  refine leaves_cons (f:=71) (args:=#[.pointer (some ⟨b,0,none⟩),.pointer (some ⟨b+1,0,none⟩)]) (by simp) (by simp [go_sem]) ?_
  refine (catch_idle_s _ _ _).mono ?_
  rintro e u' w'' ⟨rfl,rfl,rfl⟩
  exact ⟨_,res_two Tryz.results32 rfl rfl (sp_loadVar h2) (e_loadVar h3),by rw [orZ_0 hz,hz],hB⟩
 ·rintro c s2 w' ⟨rfl,hz,h2,h3,h4⟩
  simp only [mergeL]
  rw [fstE_one] at hz ⊢
  have hB:=(HM.out.stepM h2 (by have:=HBW.out;intro x hx;simp at hx;right;omega)).to0
  rw [HBW.out] at hB
  refine leaves_cons (f:=71) (args:=#[.pointer (some ⟨b,0,none⟩),.pointer (some ⟨b+1,0,none⟩)]) (by simp [brk]) (by simp [go_sem]) ?_
  refine (catch_s b (b+1) r.2 0 _ w' h3 h4 (by omega)).mono ?_
  rintro e u' w'' ⟨rfl,rfl,ho,hq,hm⟩
  exact ⟨_,res_two Tryz.results32 rfl rfl (sp_loadVar ho) (e_loadVar hq),by rw [orZ_1 hz],hB.trans (hm.below (by have:=hB.size;have:=lt_of_block h3;omega) (by intro x hx;simp at hx;omega))⟩
end Go.Proofs.YthhkcfpljgdnhaaGreat
