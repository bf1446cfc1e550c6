/- Package taylor: bound, each, by. Printed by wip/genTB.py. -/
import Derived.Test.YthhkcfpljgdnhaaGreatTayD
set_option maxRecDepth 100000
set_option maxHeartbeats 4000000
namespace Go.Proofs.YthhkcfpljgdnhaaGreat
open Go.RowKit Mnc
attribute [local go_sem] RunSP_value RunSP_skip RunSP_enter evS_tmp evS_const evS_global evS_func
section
variable {P:Program} {Pn:List PanicEntry->World->Prop} {K:Value->World->Prop} {s:Nat->Value} {w:World} {o:Oper} {x:Operand}
theorem rs_callv {f:FuncId} {caps vs:Array Value} {ag:Array Operand} {ts:Array TypeId} (ho:o.op=.call {callee:=.value x,args:=ag,argTypes:=ts}) (hx:evS s x=.func (.func f) #[] caps) (has:ag.map (evS s)=vs) (hi:(callFunc f (vs++caps)).run P w=.ok (.enter f (vs++caps)) w)
  (h1:Calls P f (vs++caps) w (RetSP Pn K)):RunSP P Pn K ((execOp (evS s) o).run P w):=by
 have e:(execOp (evS s) o).run P w=.ok (.enter f (vs++caps)) w:=by
  unfold execOp;rw [ho];subst has
  simp only [resolve,hx,Deferred.ofValue,Sem.run_bind,Sem.run_pure,Result.andThen,invoke,Array.empty_append]
  simpa using hi
 rw [e]
 exact h1
end
theorem fst2z {α β:Type} {z:β} {x:α×Int} {f:α->β×Int}:(thenE z x f).2=fstE [x.2,(f x.1).2]:=by
 by_cases h1:x.2=0
 ·rw [fstE_0 h1,fstE_one,thenE_ok h1]
 ·rw [thenE_bad h1,fstE_1 h1]
structure Bd1 (W:World) (b:Nat) (a:List (Int×Int)) (L:Nat->Bool) (s:Nat->Value) (w:World):Prop where
 mu:Mut [b+1] W w
 kt_r:L 8=false->w.heap[b+1]?=some (cobj 31 ([(0,0)]))
 kr_r:L 8->w.heap[b+1]?=some (cobj 31 ([(sAdd (tSweep a).1 (tAt a 21)).1]))
 e0:L 0->s 3=mval a
 z1:L 1->(tSweep a).2=0
 e1:L 1->s 4=sval ((tSweep a).1)
 e2:L 2->s 5=.pointer (some ⟨b,21*2,none⟩)
 e3:L 3->s 6=sval (tAt a 21)
 e4:L 4->s 7=.tuple #[sval (sAdd ((tSweep a).1) (tAt a 21)).1,.int .i64 (sAdd ((tSweep a).1) (tAt a 21)).2]
 e5:L 5->s 8=sval ((sAdd ((tSweep a).1) (tAt a 21)).1)
 e6:L 6->s 9=.int .i64 ((sAdd ((tSweep a).1) (tAt a 21)).2)
 z7:L 7->(sAdd ((tSweep a).1) (tAt a 21)).2=0
 e7:L 7->s 10=sval ((sAdd ((tSweep a).1) (tAt a 21)).1)
 q5_1:L 5->(tSweep a).2=0
 q4_1:L 4->(tSweep a).2=0
set_option maxHeartbeats 2000000 in
theorem tay_bound (a:List (Int×Int)) (ha:a.length=22) (w:World) :
  Calls Tryz.prog 34 #[mval a] w fun e w'=>Ends sval (tBound a) e/\Below w.heap.size w w':=by
 have HL:=lh ha
 clear ha
 go_enter Tryz.func34,Tryz.ntmps34
 go_wp2_with fail
 rename_i x1 cs1 hc1
 obtain rfl:(mc a).toArray=cs1:=Value.agg.inj hc1
 clear hc1
 obtain ⟨b,hb⟩:∃b,w.heap.size=b:=⟨_,rfl⟩
 refine wp_world (fun W=>Mut [] w W/\b+2<=W.heap.size/\W.heap[b]?=some (cobj 34 a)/\W.heap[b+1]?=some (cobj 31 [(0,0)])) ?_
  (by
   rw [←hb]
   exact ⟨((Mut.refl _ _).alloc _).alloc _,by simp,heap_up _ (heap_at _ rfl),heap_at _ (by simp)⟩)
 rintro W ⟨hm,hs,hA,hR⟩
 rw [hb]
 have HM:=lh hm
 have HBW:=lh hb
 have HA:=lh hA
 have HR:=lh hR
 clear hm hs hA hR hb
 refine wp_cut_mergeP (nn::nn::nn::some 3::some 4::some 5::some 6::some 7::some 8::some 9::some 10::[]) (fun _ w'=>Mut [b+1] W w'/\w'.heap[b+1]?=some (cobj 31 ([(sAdd (tSweep a).1 (tAt a 21)).1]))/\(tSweep a).2=0/\(sAdd ((tSweep a).1) (tAt a 21)).2=0) (fun ch w'=>ch=brk (fstE [(tSweep a).2,(sAdd ((tSweep a).1) (tAt a 21)).2])/\¬fstE [(tSweep a).2,(sAdd ((tSweep a).1) (tAt a 21)).2]=0/\Mut [b+1] W w') ?_ ?_ ?_
 ·intro Q2 hQ2 hP2
  refine wH (fun ch w'=>ch=brk (fstE [(tSweep a).2,(sAdd ((tSweep a).1) (tAt a 21)).2])/\¬fstE [(tSweep a).2,(sAdd ((tSweep a).1) (tAt a 21)).2]=0/\Mut [b+1] W w') (Bd1 W b a) ?_ ?_ ?_ ?_
  ·exact ⟨Mut.start _ true _,fun _=>HR.out,nB,nB,nB,nB,nB,nB,nB,nB,nB,nB,nB,nB,nB⟩
  ·refine aC ?_ (aC ?_ (aC ?_ (aC ?_ (aC ?_ (aC ?_ (aC ?_ (aC ?_ (aC ?_ aN))))))))
   ·intro L s w2 h hk hd hn K hK
    have kb:=kY h.mu HA (by omega)
    exact rs_load rfl (hk 1) (md_load kb HL.out) (hK {h with e0:=rF})
   ·intro L s w2 h hk hd hn K hK
    have s3:=h.e0 hd.1
    go_simp
    refine (tay_sweep a HL.out _).mono ?_
    rintro e w3 ⟨⟨hz,rfl⟩ | ⟨hz,rfl⟩,hb⟩
    ·exact .inl ⟨_,rfl,hK {h with mu:=h.mu.step hb,kt_r:=fun a=>bk hb (h.kt_r a),kr_r:=fun a=>bk hb (h.kr_r a),e1:=rF,z1:=fun _=>hz}⟩
    ·exact .inr ⟨_,rfl,congrArg brk (by rw [fstE_1 (hz)]),(by rw [fstE_1 (hz)];exact hz),h.mu.step hb⟩
   ·intro L s w2 h hk hd hn K hK
    exact rs_field rfl (hk 1) (fl_model1 _ _) (hK {h with e2:=rF})
   ·intro L s w2 h hk hd hn K hK
    have kb:=kY h.mu HA (by omega)
    exact rs_load rfl (h.e2 hd.1) (sp_load (p:=21) kb (by have:=HL.out;omega)) (hK {h with e3:=rF})
   ·intro L s w2 h hk hd hn K hK
    have s4:=h.e1 hd.1
    have s6:=h.e3 hd.2.1
    go_simp
    refine (tm_add ((tSweep a).1) (tAt a 21) _).mono ?_
    rintro e w3 ⟨rfl,hb⟩
    exact .inl ⟨_,rfl,hK {h with mu:=h.mu.step hb,kt_r:=fun a=>bk hb (h.kt_r a),kr_r:=fun a=>bk hb (h.kr_r a),e4:=rF,q4_1:=fun _=>h.z1 hd.1}⟩
   ·intro L s w2 h hk hd hn K hK
    exact rs_extract rfl (h.e4 hd.1) rfl (hK {h with e5:=rF,q5_1:=fun _=>h.q4_1 hd.1})
   ·intro L s w2 h hk hd hn K hK
    exact rs_extract rfl (h.e4 hd.1) rfl (hK {h with e6:=rF})
   ·intro L s w2 h hk hd hn K hK
    have s8:=h.e5 hd.1
    have s9:=h.e6 hd.2.1
    go_simp
    refine (tm_must ((sAdd ((tSweep a).1) (tAt a 21)).1) ((sAdd ((tSweep a).1) (tAt a 21)).2) _).mono ?_
    rintro e w3 ⟨⟨hz,rfl⟩ | ⟨hz,rfl⟩,hb⟩
    ·exact .inl ⟨_,rfl,hK {h with mu:=h.mu.step hb,kt_r:=fun a=>bk hb (h.kt_r a),kr_r:=fun a=>bk hb (h.kr_r a),e7:=rF,z7:=fun _=>hz}⟩
    ·exact .inr ⟨_,rfl,congrArg brk (by rw [fstE_0 (h.q5_1 hd.1),fstE_1 (hz)]),(by rw [fstE_0 (h.q5_1 hd.1),fstE_1 (hz)];exact hz),h.mu.step hb⟩
   ·intro L s w2 h hk hd hn K hK
    have kb:=h.kt_r hn
    exact rs_store rfl (hk 2) (h.e7 hd.1) (sp_store (p:=0) kb (by simp) _) (hK {h with mu:=h.mu.put (List.Mem.head _) _,kt_r:=nF,kr_r:=fun _=>pH kb})
  ·intro L s w2 h hk hl
   refine cA ?_ (hQ2 s w2 (⟨h.mu,h.kr_r (hl 8),h.z1 (hl 1),h.z7 (hl 7)⟩))
   exact fq hk
  ·intro c s w2 hc
   exact hP2 _ _ _ hc
 ·rintro s1 V ⟨h1,h2,z1,z2⟩
  simp only [mergeL]
  have q0:=cell_two0 h2
  have q1:=cell_two1 h2
  have HB:=lh (HM.out.stepM h1 (by have:=HBW.out;intro x hx;simp at hx;right;omega)).to0
  have HE:=lh (show tBound a=((sAdd (tSweep a).1 (tAt a 21)).1,0) by rw [tBound,thenE_ok z1];exact Prod.ext rfl z2)
  clear h1 h2 z1 z2
  go_wp2_with fail
  exact bodyPost_ret (v:=sval (sAdd (tSweep a).1 (tAt a 21)).1) (by simp [results,Tryz.results34,go_sem,q0,q1,sval]) rfl ⟨.inl ⟨by rw [HE.out],by rw [HE.out]⟩,HB.out⟩
 ·rintro e l'' w' ⟨rfl,hz,h2⟩
  have he:(tBound a).2=_:=fst2z (x:=tSweep a) (f:=fun s=>sAdd s (tAt a 21))
  rw [←he] at hz ⊢
  exact ⟨rfl,.inr ⟨hz,rfl⟩,(HM.out.stepM h2 (by have:=HBW.out;intro x hx;simp at hx;right;omega)).to0⟩
/-- An operation on all parts of two models, one after the other. -/
def tEachI (F:Int×Int->Int×Int->(Int×Int)×Int) (a c:List (Int×Int)):Nat->Nat->List (Int×Int)->List (Int×Int)×Int
 | 0,_,O=>(O,0)
 | n+1,p,O=>thenE [] (F (tAt a p) (tAt c p)) fun r=>tEachI F a c n (p+1) (O.set p r)
theorem drop_at {a:List (Int×Int)} {p:Nat} (h:p<a.length):a.drop p=tAt a p::a.drop (p+1):=by
 rw [List.drop_eq_getElem_cons h]
 unfold tAt
 simp [List.getD,List.getElem?_eq_getElem h]
theorem tEachI_eq {F:Int×Int->Int×Int->(Int×Int)×Int} {a c:List (Int×Int)}:∀(n p:Nat) (O:List (Int×Int)),p+n=a.length->c.length=a.length->O.length=a.length ->
  tEachI F a c n p O=thenE [] (tEach F (a.drop p) (c.drop p)) fun t=>(O.take p++t,0):=by
 intro n
 induction n with
 | zero =>
  intro p O hp hc hO
  rw [List.drop_of_length_le (by omega),List.drop_of_length_le (by omega),tEachI,tEach,thenE_ok rfl,List.take_of_length_le (by omega),List.append_nil]
  all_goals simp
 | succ n ih =>
  intro p O hp hc hO
  rw [drop_at (show p<a.length by omega),drop_at (show p<c.length by omega),tEachI,tEach]
  by_cases h:(F (tAt a p) (tAt c p)).2=0
  ·rw [thenE_ok h,thenE_ok h,ih (p+1) _ (by omega) hc (by simpa using hO)]
   by_cases h2:(tEach F (a.drop (p+1)) (c.drop (p+1))).2=0
   ·rw [thenE_ok h2,thenE_ok h2,thenE_ok rfl]
    have:(O.set p (F (tAt a p) (tAt c p)).1).take (p+1)=O.take p++[(F (tAt a p) (tAt c p)).1]:=by
     rw [List.take_add_one,List.take_set_of_le (Nat.le_refl p)]
     simp [show p<O.length by omega]
    rw [this,List.append_assoc]
    rfl
   ·rw [thenE_bad h2,thenE_bad h2,thenE_bad (by exact h2)]
  ·rw [thenE_bad h,thenE_bad h,thenE_bad (by exact h)]
theorem tEachI_all {F:Int×Int->Int×Int->(Int×Int)×Int} {a c:List (Int×Int)} (ha:a.length=22) (hc:c.length=22):tEachI F a c 22 0 zeroM=tEach F a c:=by
 rw [tEachI_eq 22 0 zeroM (by omega) (by omega) (by rw [ha];rfl)]
 show thenE [] (tEach F a c) _=_
 by_cases h:(tEach F a c).2=0
 ·rw [thenE_ok h]
  exact Prod.ext rfl h.symm
 ·rw [thenE_bad h]
  have:∀(a c:List (Int×Int)),¬(tEach F a c).2=0->(tEach F a c).1=[]:=by
   intro a
   induction a with
   | nil=>intro c h;simp [tEach] at h
   | cons x a ih =>
    intro c h
    cases c with
    | nil=>simp [tEach] at h
    | cons y c =>
     rw [tEach] at h ⊢
     by_cases h1:(F x y).2=0
     ·rw [thenE_ok h1] at h ⊢
      by_cases h2:(tEach F a c).2=0
      ·rw [thenE_ok h2] at h
       exact absurd rfl h
      ·rw [thenE_bad h2]
     ·rw [thenE_bad h1]
  exact Prod.ext (this a c h).symm rfl
structure Ea4 (wr:World) (b f:Nat) (caps:Array Value) (F:Int×Int->Int×Int->(Int×Int)×Int) (a c O:List (Int×Int)) (p:Nat) (L:Nat->Bool) (s:Nat->Value) (w:World):Prop where
 mu:Mut [b+1+1] wr w
 kt_out:L 16=false->w.heap[b+1+1]?=some (cobj 34 O)
 kr_out:L 16->w.heap[b+1+1]?=some (cobj 34 (O.set p (F (tAt a p) (tAt c p)).1))
 e0:L 0->s 11=.int .i64 ((p:Nat):Int)
 e1:L 1->s 12=.func (.func f) #[] caps
 e2:L 2->s 13=.int .i64 ((p:Nat):Int)
 e3:L 3->s 14=.pointer (some ⟨b,0,none⟩)
 e4:L 4->s 15=.pointer (some ⟨b,p*2,none⟩)
 e5:L 5->s 16=sval (tAt a p)
 e6:L 6->s 17=.int .i64 ((p:Nat):Int)
 e7:L 7->s 18=.pointer (some ⟨b+1,0,none⟩)
 e8:L 8->s 19=.pointer (some ⟨b+1,p*2,none⟩)
 e9:L 9->s 20=sval (tAt c p)
 e10:L 10->s 21=.tuple #[sval (F (tAt a p) (tAt c p)).1,.int .i64 (F (tAt a p) (tAt c p)).2]
 e11:L 11->s 22=sval ((F (tAt a p) (tAt c p)).1)
 e12:L 12->s 23=.int .i64 ((F (tAt a p) (tAt c p)).2)
 z13:L 13->(F (tAt a p) (tAt c p)).2=0
 e13:L 13->s 24=sval ((F (tAt a p) (tAt c p)).1)
 e14:L 14->s 25=.pointer (some ⟨b+1+1,0,none⟩)
 e15:L 15->s 26=.pointer (some ⟨b+1+1,p*2,none⟩)
structure Ea6 (wr:World) (b f:Nat) (caps:Array Value) (F:Int×Int->Int×Int->(Int×Int)×Int) (a c O:List (Int×Int)) (L:Nat->Bool) (s:Nat->Value) (w:World):Prop where
 mu:Mut [b+1+1] wr w
 kt_out:L 10=false->w.heap[b+1+1]?=some (cobj 34 O)
 kr_out:L 10->w.heap[b+1+1]?=some (cobj 34 (O.set 21 (F (tAt a 21) (tAt c 21)).1))
 e0:L 0->s 28=.func (.func f) #[] caps
 e1:L 1->s 29=.pointer (some ⟨b,21*2,none⟩)
 e2:L 2->s 30=sval (tAt a 21)
 e3:L 3->s 31=.pointer (some ⟨b+1,21*2,none⟩)
 e4:L 4->s 32=sval (tAt c 21)
 e5:L 5->s 33=.tuple #[sval (F (tAt a 21) (tAt c 21)).1,.int .i64 (F (tAt a 21) (tAt c 21)).2]
 e6:L 6->s 34=sval ((F (tAt a 21) (tAt c 21)).1)
 e7:L 7->s 35=.int .i64 ((F (tAt a 21) (tAt c 21)).2)
 z8:L 8->(F (tAt a 21) (tAt c 21)).2=0
 e8:L 8->s 36=sval ((F (tAt a 21) (tAt c 21)).1)
 e9:L 9->s 37=.pointer (some ⟨b+1+1,21*2,none⟩)
structure Ea7 (V:World) (b:Nat) (O2:List (Int×Int)) (L:Nat->Bool) (s:Nat->Value) (w:World):Prop where
 mu:Mut [b+1+1] V w
 kt_out:L 1=false->w.heap[b+1+1]?=some (cobj 34 O2)
 kr_out:L 1->w.heap[b+1+1]?=some (cobj 34 O2)
 e0:L 0->s 38=mval O2
 b1_0:L 1->L 0
theorem tay_each (F:Int×Int->Int×Int->(Int×Int)×Int) (f:Nat) (caps:Array Value) (a c:List (Int×Int)) (ha:a.length=22) (hc:c.length=22) (w:World)
  (hi:∀x y W,(callFunc f (#[sval x,sval y]++caps)).run Tryz.prog W=.ok (.enter f (#[sval x,sval y]++caps)) W)
  (hF:∀x y W,Below w.heap.size w W->Calls Tryz.prog f (#[sval x,sval y]++caps) W fun e w'=>e=.returned (.tuple #[sval (F x y).1,.int .i64 (F x y).2])/\Below W.heap.size W w') :
  Calls Tryz.prog 80 #[mval a,mval c,.func (.func f) #[] caps] w fun e w'=>Ends mval (tEach F a c) e/\Below w.heap.size w w':=by
 have HL:=lh ha
 have HLC:=lh hc
 have HI:=lh hi
 have HF:=lh hF
 have HEA:=lh (tEachI_all (F:=F) ha hc)
 clear ha hc hi hF
 go_enter Tryz.func80,Tryz.ntmps80
 go_wp2_with fail
 rename_i x1 cs1 hc1 x2 cs2 hc2
 obtain rfl:(mc a).toArray=cs1:=Value.agg.inj hc1
 obtain rfl:(mc c).toArray=cs2:=Value.agg.inj hc2
 clear hc1 hc2
 obtain ⟨b,hb⟩:∃b,w.heap.size=b:=⟨_,rfl⟩
 refine wp_world (fun W=>Mut [] w W/\b+3<=W.heap.size/\W.heap[b]?=some (cobj 34 a)/\W.heap[b+1]?=some (cobj 34 c)/\W.heap[b+1+1]?=some (cobj 34 zeroM)) ?_
  (by
   rw [←hb]
   exact ⟨(((Mut.refl _ _).alloc _).alloc _).alloc _,by simp,heap_up _ (heap_up _ (heap_at _ rfl)),heap_up _ (heap_at _ (by simp)),heap_at (cobj 34 zeroM) (by simp)⟩)
 rintro W1 ⟨hm,hs,hA,hC,hO⟩
 rw [hb]
 rename_i Q' K hK
 have HK:=lh hK
 have HBW:=lh hb
 have HS4:=lh hs
 have HA1:=lh hA
 have HC1:=lh hC
 have HM1:=lh hm
 clear hK hm hs hA hC hb
 go_loopw [8] (fun x wr=>∃p:Nat,p<=21/\x=.int .i64 p/\Hid (∃O:List (Int×Int),O.length=22/\Mut [b+1+1] W1 wr/\wr.heap[b+1+1]?=some (cobj 34 O)/\tEachI F a c (22-p) p O=tEach F a c)) (fun x _=>21-(intOf x).toNat)
 case atStart=>exact ⟨0,by omega,rfl,lh ⟨zeroM,rfl,Mut.refl _ _,hO,HEA.out⟩⟩
 case round =>
  clear hO
  obtain ⟨p,hn,rfl,HG⟩:=hrel
  obtain ⟨O,hol,hmu,ho,hgo⟩:=HG.out
  have hsz:=HS4.out
  have hbw:=HBW.out
  have HOL:=lh hol
  have HO:=lh ho
  have HMU:=lh hmu
  have HM:=lh ((HM1.out.up (S':=[b+1+1]) (by simp)).trans hmu)
  have HGO:=lh hgo
  have HSZ:=lh (show b+3<=wr.heap.size from Nat.le_trans hsz hmu.size)
  have HA:=lh ((hmu.same _ (lt_of_block HA1.out) (notin1 (by omega))).trans HA1.out)
  have HC:=lh ((hmu.same _ (lt_of_block HC1.out) (notin1 (by omega))).trans HC1.out)
  clear HG hol hmu ho hgo hbw hsz
  rcases Nat.lt_or_ge p 21 with hp | hp
  ·have HPL:=lh hp
   have hd:decide ((p:Int)<21)=true:=by simp;omega
   have hlt:(p:Int)<21:=by omega
   have hp0:(0:Int)<=p:=by omega
   clear hn hp
   go_wp2_with fail
   refine wp_cut_mergeP (n8 (nn::nn::nn::some 11::some 12::some 13::some 14::some 15::some 16::some 17::some 18::some 19::some 20::some 21::some 22::some 23::some 24::some 25::some 26::n8 (nn::nn::nn::nn::[]))) (fun _ w'=>Mut [b+1+1] wr w'/\w'.heap[b+1+1]?=some (cobj 34 (O.set p (F (tAt a p) (tAt c p)).1))/\(F (tAt a p) (tAt c p)).2=0) (fun ch w'=>ch=brk (fstE [(F (tAt a p) (tAt c p)).2])/\¬fstE [(F (tAt a p) (tAt c p)).2]=0/\Mut [b+1+1] wr w') ?_ ?_ ?_
   ·intro Q2 hQ2 hP2
    refine wH (fun ch w'=>ch=brk (fstE [(F (tAt a p) (tAt c p)).2])/\¬fstE [(F (tAt a p) (tAt c p)).2]=0/\Mut [b+1+1] wr w') (Ea4 wr b f caps F a c O p) ?_ ?_ ?_ ?_
    ·exact ⟨Mut.start _ true _,fun _=>HO.out,nB,nB,nB,nB,nB,nB,nB,nB,nB,nB,nB,nB,nB,nB,nB,nB,nB,nB⟩
    ·refine aC ?_ (aC ?_ (aC ?_ (aC ?_ (aC ?_ (aC ?_ (aC ?_ (aC ?_ (aC ?_ (aC ?_ (aC ?_ (aC ?_ (aC ?_ (aC ?_ (aC ?_ (aC ?_ (aC ?_ aN))))))))))))))))
     ·intro L s w2 h hk hd hn K hK
      exact rs_move rfl (hk 7) (hK {h with e0:=rF})
     ·intro L s w2 h hk hd hn K hK
      exact rs_move rfl (hk 2) (hK {h with e1:=rF})
     ·intro L s w2 h hk hd hn K hK
      exact rs_move rfl (hk 7) (hK {h with e2:=rF})
     ·intro L s w2 h hk hd hn K hK
      exact rs_field rfl (hk 3) (fl_model0 _ _) (hK {h with e3:=rF})
     ·intro L s w2 h hk hd hn K hK
      exact rs_index rfl (h.e3 hd.1) (h.e2 hd.2.1) (ix_model _ p HPL.out) (hK {h with e4:=rF})
     ·intro L s w2 h hk hd hn K hK
      have kb:=kY h.mu HA (by have:=HSZ.out;omega)
      exact rs_load rfl (h.e4 hd.1) (sp_load (p:=p) kb (by have:=HL.out;have:=HLC.out;have:=HOL.out;have:=HPL.out;omega)) (hK {h with e5:=rF})
     ·intro L s w2 h hk hd hn K hK
      exact rs_move rfl (hk 7) (hK {h with e6:=rF})
     ·intro L s w2 h hk hd hn K hK
      exact rs_field rfl (hk 4) (fl_model0 _ _) (hK {h with e7:=rF})
     ·intro L s w2 h hk hd hn K hK
      exact rs_index rfl (h.e7 hd.1) (h.e6 hd.2.1) (ix_model _ p HPL.out) (hK {h with e8:=rF})
     ·intro L s w2 h hk hd hn K hK
      have kb:=kY h.mu HC (by have:=HSZ.out;omega)
      exact rs_load rfl (h.e8 hd.1) (sp_load (p:=p) kb (by have:=HL.out;have:=HLC.out;have:=HOL.out;have:=HPL.out;omega)) (hK {h with e9:=rF})
     ·intro L s w2 h hk hd hn K hK
      have s12:=h.e1 hd.1
      have s16:=h.e5 hd.2.1
      have s20:=h.e9 hd.2.2.1
      refine rs_callv rfl s12 (vs:=#[sval (tAt a p),sval (tAt c p)]) (by simp [evS_tmp,s16,s20]) (HI.out _ _ _) ?_
      refine (HF.out (tAt a p) (tAt c p) _ ((HM.out.trans h.mu).below (Nat.le_refl _) (by have:=HBW.out;intro x hx;simp at hx;omega))).mono ?_
      rintro e w3 ⟨rfl,hb⟩
      exact .inl ⟨_,rfl,hK {h with mu:=h.mu.step hb,kt_out:=fun a=>bk hb (h.kt_out a),kr_out:=fun a=>bk hb (h.kr_out a),e10:=rF}⟩
     ·intro L s w2 h hk hd hn K hK
      exact rs_extract rfl (h.e10 hd.1) rfl (hK {h with e11:=rF})
     ·intro L s w2 h hk hd hn K hK
      exact rs_extract rfl (h.e10 hd.1) rfl (hK {h with e12:=rF})
     ·intro L s w2 h hk hd hn K hK
      have s22:=h.e11 hd.1
      have s23:=h.e12 hd.2.1
      go_simp
      refine (tm_must ((F (tAt a p) (tAt c p)).1) ((F (tAt a p) (tAt c p)).2) _).mono ?_
      rintro e w3 ⟨⟨hz,rfl⟩ | ⟨hz,rfl⟩,hb⟩
      ·exact .inl ⟨_,rfl,hK {h with mu:=h.mu.step hb,kt_out:=fun a=>bk hb (h.kt_out a),kr_out:=fun a=>bk hb (h.kr_out a),e13:=rF,z13:=fun _=>hz}⟩
      ·exact .inr ⟨_,rfl,congrArg brk (by rw [fstE_1 (hz)]),(by rw [fstE_1 (hz)];exact hz),h.mu.step hb⟩
     ·intro L s w2 h hk hd hn K hK
      exact rs_field rfl (hk 6) (fl_model0 _ _) (hK {h with e14:=rF})
     ·intro L s w2 h hk hd hn K hK
      exact rs_index rfl (h.e14 hd.1) (h.e0 hd.2.1) (ix_model _ p HPL.out) (hK {h with e15:=rF})
     ·intro L s w2 h hk hd hn K hK
      have kb:=h.kt_out hn
      exact rs_store rfl (h.e15 hd.1) (h.e13 hd.2.1) (sp_store (p:=p) kb (by have:=HL.out;have:=HLC.out;have:=HOL.out;have:=HPL.out;omega) _) (hK {h with mu:=h.mu.put (List.Mem.head _) _,kt_out:=nF,kr_out:=fun _=>pH kb})
    ·intro L s w2 h hk hl
     refine cA ?_ (hQ2 s w2 (⟨h.mu,h.kr_out (hl 16),h.z13 (hl 13)⟩))
     exact fq hk
    ·intro c s w2 hc
     exact hP2 _ _ _ hc
   ·rintro s4 V ⟨h1,h2,z1⟩
    simp only [mergeL]
    have HE:=lh (show ∃O':List (Int×Int),O'.length=22/\Mut [b+1+1] W1 V/\V.heap[b+1+1]?=some (cobj 34 O')/\tEachI F a c (22-(p+1)) (p+1) O'=tEach F a c from
     ⟨_,by rw [List.length_set];exact HOL.out,HMU.out.trans h1,h2,by
      have hg:=HGO.out
      rw [show 22-p=(22-(p+1))+1 by have:=HPL.out;omega,tEachI,thenE_ok z1] at hg
      exact hg⟩)
    clear h1 h2 z1
    go_wp2_with fail
    go_roundw
    case rel=>first | exact ⟨p+1,by have:=HPL.out;omega,by go_num,HE⟩ | ((repeat apply Exists.intro);exact ⟨⟨p+1,by have:=HPL.out;omega,by go_num,HE⟩,rfl⟩)
    case measure=>simp [intOf];omega
   ·rintro e l'' w' ⟨rfl,hz,h2⟩
    rw [fstE_one] at hz ⊢
    have hg:=HGO.out
    rw [show 22-p=(22-(p+1))+1 by have:=HPL.out;omega,tEachI,thenE_bad hz] at hg
    have he:(F (tAt a p) (tAt c p)).2=(tEach F a c).2:=by rw [←hg]
    rw [he] at hz ⊢
    exact ⟨rfl,.inr ⟨hz,rfl⟩,(HM.out.trans h2).below (Nat.le_refl _) (by have:=HBW.out;intro x hx;simp at hx;omega)⟩
  ·obtain rfl:p=21:=by omega
   have HPL:=lh (show 21<22 by omega)
   clear hp hn
   go_wp2_with fail
   refine HK.out _ _ ?_
   refine wsk fun K5 HK5=>?_
   refine wp_cut_mergeP (n8 (n8 (n8 (nn::nn::nn::nn::some 28::some 29::some 30::some 31::some 32::some 33::some 34::some 35::some 36::some 37::nn::[])))) (fun _ w'=>Mut [b+1+1] wr w'/\w'.heap[b+1+1]?=some (cobj 34 (O.set 21 (F (tAt a 21) (tAt c 21)).1))/\(F (tAt a 21) (tAt c 21)).2=0) (fun ch w'=>ch=brk (fstE [(F (tAt a 21) (tAt c 21)).2])/\¬fstE [(F (tAt a 21) (tAt c 21)).2]=0/\Mut [b+1+1] wr w') ?_ ?_ ?_
   ·intro Q2 hQ2 hP2
    refine wH (fun ch w'=>ch=brk (fstE [(F (tAt a 21) (tAt c 21)).2])/\¬fstE [(F (tAt a 21) (tAt c 21)).2]=0/\Mut [b+1+1] wr w') (Ea6 wr b f caps F a c O) ?_ ?_ ?_ ?_
    ·exact ⟨Mut.start _ false _,fun _=>HO.out,nB,nB,nB,nB,nB,nB,nB,nB,nB,nB,nB,nB⟩
    ·refine aC ?_ (aC ?_ (aC ?_ (aC ?_ (aC ?_ (aC ?_ (aC ?_ (aC ?_ (aC ?_ (aC ?_ (aC ?_ aN))))))))))
     ·intro L s w2 h hk hd hn K hK
      exact rs_move rfl (hk 2) (hK {h with e0:=rF})
     ·intro L s w2 h hk hd hn K hK
      exact rs_field rfl (hk 3) (fl_model1 _ _) (hK {h with e1:=rF})
     ·intro L s w2 h hk hd hn K hK
      have kb:=kY h.mu HA (by have:=HSZ.out;omega)
      exact rs_load rfl (h.e1 hd.1) (sp_load (p:=21) kb (by have:=HL.out;have:=HLC.out;have:=HOL.out;have:=HPL.out;omega)) (hK {h with e2:=rF})
     ·intro L s w2 h hk hd hn K hK
      exact rs_field rfl (hk 4) (fl_model1 _ _) (hK {h with e3:=rF})
     ·intro L s w2 h hk hd hn K hK
      have kb:=kY h.mu HC (by have:=HSZ.out;omega)
      exact rs_load rfl (h.e3 hd.1) (sp_load (p:=21) kb (by have:=HL.out;have:=HLC.out;have:=HOL.out;have:=HPL.out;omega)) (hK {h with e4:=rF})
     ·intro L s w2 h hk hd hn K hK
      have s28:=h.e0 hd.1
      have s30:=h.e2 hd.2.1
      have s32:=h.e4 hd.2.2.1
      refine rs_callv rfl s28 (vs:=#[sval (tAt a 21),sval (tAt c 21)]) (by simp [evS_tmp,s30,s32]) (HI.out _ _ _) ?_
      refine (HF.out (tAt a 21) (tAt c 21) _ ((HM.out.trans h.mu).below (Nat.le_refl _) (by have:=HBW.out;intro x hx;simp at hx;omega))).mono ?_
      rintro e w3 ⟨rfl,hb⟩
      exact .inl ⟨_,rfl,hK {h with mu:=h.mu.step hb,kt_out:=fun a=>bk hb (h.kt_out a),kr_out:=fun a=>bk hb (h.kr_out a),e5:=rF}⟩
     ·intro L s w2 h hk hd hn K hK
      exact rs_extract rfl (h.e5 hd.1) rfl (hK {h with e6:=rF})
     ·intro L s w2 h hk hd hn K hK
      exact rs_extract rfl (h.e5 hd.1) rfl (hK {h with e7:=rF})
     ·intro L s w2 h hk hd hn K hK
      have s34:=h.e6 hd.1
      have s35:=h.e7 hd.2.1
      go_simp
      refine (tm_must ((F (tAt a 21) (tAt c 21)).1) ((F (tAt a 21) (tAt c 21)).2) _).mono ?_
      rintro e w3 ⟨⟨hz,rfl⟩ | ⟨hz,rfl⟩,hb⟩
      ·exact .inl ⟨_,rfl,hK {h with mu:=h.mu.step hb,kt_out:=fun a=>bk hb (h.kt_out a),kr_out:=fun a=>bk hb (h.kr_out a),e8:=rF,z8:=fun _=>hz}⟩
      ·exact .inr ⟨_,rfl,congrArg brk (by rw [fstE_1 (hz)]),(by rw [fstE_1 (hz)];exact hz),h.mu.step hb⟩
     ·intro L s w2 h hk hd hn K hK
      exact rs_field rfl (hk 6) (fl_model1 _ _) (hK {h with e9:=rF})
     ·intro L s w2 h hk hd hn K hK
      have kb:=h.kt_out hn
      exact rs_store rfl (h.e9 hd.1) (h.e8 hd.2.1) (sp_store (p:=21) kb (by have:=HL.out;have:=HLC.out;have:=HOL.out;have:=HPL.out;omega) _) (hK {h with mu:=h.mu.put (List.Mem.head _) _,kt_out:=nF,kr_out:=fun _=>pH kb})
    ·intro L s w2 h hk hl
     refine cA ?_ (hQ2 s w2 (⟨h.mu,h.kr_out (hl 10),h.z8 (hl 8)⟩))
     exact fq hk
    ·intro c s w2 hc
     exact hP2 _ _ _ hc
   ·rintro s6 V ⟨h1,h2,z1⟩
    simp only [mergeL]
    refine HK5.out _ _ ?_
    have HOL2:Hid ((O.set 21 (F (tAt a 21) (tAt c 21)).1).length=22):=lh (by rw [List.length_set];exact HOL.out)
    have HGO2:Hid (tEach F a c=(O.set 21 (F (tAt a 21) (tAt c 21)).1,0)):=lh (by
     have hg:=HGO.out
     rw [show 22-21=0+1 from rfl,tEachI,thenE_ok z1,tEachI] at hg
     exact hg.symm)
    have HM7:=lh (HM.out.trans h1)
    generalize O.set 21 (F (tAt a 21) (tAt c 21)).1=O2 at *
    have HO2:=lh h2
    clear h1 h2 z1
    refine wsk fun K6 HK6=>?_
    refine wp_cut_mergeP (n8 (n8 (n8 (n8 (nn::nn::nn::nn::nn::nn::some 38::[]))))) (fun _ w'=>Mut [b+1+1] V w'/\w'.heap[b+1+1]?=some (cobj 34 O2)) (fun _ _=>False) ?_ ?_ ?_
    ·intro Q2 hQ2 hP2
     refine wG (Ea7 V b O2) ?_ ?_ ?_
     ·exact ⟨Mut.start _ false _,fun _=>HO2.out,nB,nB,nB⟩
     ·refine aC ?_ (aC ?_ aN)
      ·intro L s w2 h hk hd hn K hK
       have kb:=(h.kt_out (bF h.b1_0 hn))
       exact rs_load rfl (hk 6) (md_load kb HOL2.out) (hK {h with e0:=rF,b1_0:=rF})
      ·intro L s w2 h hk hd hn K hK
       have kb:=h.kt_out hn
       exact rs_store rfl (hk 6) (h.e0 hd.1) (md_store kb HOL2.out _ HOL2.out) (hK {h with mu:=h.mu.put (List.Mem.head _) _,kt_out:=nF,kr_out:=fun _=>pH kb,b1_0:=fun _=>hd.1})
     ·intro L s w2 h hk hl
      refine cA ?_ (hQ2 s w2 (⟨h.mu,h.kr_out (hl 1)⟩))
      exact fq hk
    ·rintro s7 V2 ⟨h1,h2⟩
     simp only [mergeL]
     refine HK6.out _ _ ?_
     have hl:=md_loadVar h2 HOL2.out
     have HM8:=lh ((HM7.out.trans h1).below (Nat.le_refl _) (by have:=HBW.out;intro x hx;simp at hx;omega))
     refine wp_ret ?_
     exact bodyPost_ret (v:=mval O2) (res_model Tryz.results80 rfl hl) rfl ⟨.inl ⟨by rw [HGO2.out],by rw [HGO2.out]⟩,HM8.out⟩
    ·rintro _ _ _ h
     exact h.elim
   ·rintro e l'' w' ⟨rfl,hz,h2⟩
    rw [fstE_one] at hz ⊢
    have hg:=HGO.out
    rw [show 22-21=0+1 from rfl,tEachI,thenE_bad hz] at hg
    have he:(F (tAt a 21) (tAt c 21)).2=(tEach F a c).2:=by rw [←hg]
    rw [he] at hz ⊢
    exact ⟨rfl,.inr ⟨hz,rfl⟩,(HM.out.trans h2).below (Nat.le_refl _) (by have:=HBW.out;intro x hx;simp at hx;omega)⟩
end Go.Proofs.YthhkcfpljgdnhaaGreat
namespace Go.Proofs.YthhkcfpljgdnhaaGreat
open Go.RowKit Mnc
attribute [local go_sem] RunSP_value RunSP_skip RunSP_enter evS_tmp evS_const evS_global evS_func
attribute [local go_sem] Oper.semAt_some
/-- The place of a pair of exponents, and the error where there is none. -/
def xPlace (i j:Int):Int×Int:=if 0<=i/\0<=j/\i+j<=5 then (((tIdx (i.toNat+j.toNat) i.toNat:Nat):Int),0) else (0,2)
theorem xPlace_at (s i:Nat) (hi:i<=s) (hs:s<=5):xPlace i ((s-i:Nat):Int)=(((tIdx s i:Nat):Int),0):=by
 unfold xPlace
 rw [if_pos (by omega)]
 have:(i:Int).toNat+((s-i:Nat):Int).toNat=s:=by omega
 rw [this]
 simp
/-- What holds ahead of the pair (i, s - i): it is none of the pairs ahead of it. -/
structure JPl (W1:World) (b:Nat) (x y:Int) (s i:Nat) (W:World):Prop where
 mu:Mut [b+1+1,b+1+1+1,b+1+1+1+1] W1 W
 hn:W.heap[b+1+1+1+1]?=some (iobj 3 ((tIdx s i:Nat):Int))
 ha:W.heap[b+1+1]?=some (iobj 3 0)
 he:W.heap[b+1+1+1]?=some (iobj 38 0)
 go:¬(0<=x/\0<=y/\(x+y<s∨(x+y=s/\x<i)))
structure DPl (W1:World) (b:Nat) (x y:Int) (W:World):Prop where
 mu:Mut [b+1+1,b+1+1+1,b+1+1+1+1] W1 W
 ha:W.heap[b+1+1]?=some (iobj 3 (xPlace x y).1)
 he:W.heap[b+1+1+1]?=some (iobj 38 (xPlace x y).2)
theorem JPl.put {W1:World} {b:Nat} {x y:Int} {s i:Nat} {W:World} (h:JPl W1 b x y s i W) (hb:b+5<=W1.heap.size) {k:Nat} (hk:W1.heap.size<=k) (o:Obj):JPl W1 b x y s i (W.putObj k o) :=
 ⟨h.mu.putNew hk o,(World.putObj_heap_other (by omega)).trans h.hn,(World.putObj_heap_other (by omega)).trans h.ha,(World.putObj_heap_other (by omega)).trans h.he,h.go⟩
theorem DPl.put {W1:World} {b:Nat} {x y:Int} {W:World} (h:DPl W1 b x y W) (hb:b+5<=W1.heap.size) {k:Nat} (hk:W1.heap.size<=k) (o:Obj):DPl W1 b x y (W.putObj k o) :=
 ⟨h.mu.putNew hk o,(World.putObj_heap_other (by omega)).trans h.ha,(World.putObj_heap_other (by omega)).trans h.he⟩
theorem taw_Place (x y:Int) (w:World) :
  Calls Tryz.prog 20 #[.int .i64 x,.int .i64 y] w fun e w'=>e=.returned (.tuple #[.int .i64 (xPlace x y).1,.int .i64 (xPlace x y).2])/\Below w.heap.size w w':=by
 refine (callsIn_wide (n:=5)).1 ?_
 refine callsIn_of_wpF Tryz.func20 rfl ?_
 simp only [Tryz.ntmps20,List.size_toArray,List.length_cons,List.length_nil,Nat.reduceAdd,Nat.reduceSub,Array.replicate_succ,Array.replicate_zero,List.push_toArray,List.append_toArray,List.nil_append,List.cons_append]
 refine wpF_seq (wpF_of (n:=5) ?_)
 gi_wp2_with fail
 refine wpF_seq (wpF_of (n:=5) ?_)
 gi_wp2_with fail
 refine wpF_seq (wpF_block ?_)
 obtain ⟨W1,hW1⟩:∃W1,(((((w.alloc (Obj.cells #[Value.int IntKind.i64 x] 3)).alloc (Obj.cells #[Value.int IntKind.i64 y] 3)).alloc (Obj.cells #[Value.int IntKind.i64 0] 3)).alloc (Obj.cells #[Value.int IntKind.i64 0] 38)).alloc (Obj.cells #[Value.int IntKind.i64 0] 3))=W1:=⟨_,rfl⟩
 have hS:W1.heap.size=w.heap.size+5:=by rw [←hW1];simp
 have hX:W1.heap[w.heap.size]?=some (iobj 3 x):=by rw [←hW1];exact heap_up _ (heap_up _ (heap_up _ (heap_up _ (heap_at _ rfl))))
 have hY:W1.heap[w.heap.size+1]?=some (iobj 3 y):=by rw [←hW1];exact heap_up _ (heap_up _ (heap_up _ (heap_at (iobj 3 y) (by simp))))
 have hA:W1.heap[w.heap.size+1+1]?=some (iobj 3 0):=by rw [←hW1];exact heap_up _ (heap_up _ (heap_at (iobj 3 0) (by simp)))
 have hE:W1.heap[w.heap.size+1+1+1]?=some (iobj 38 0):=by rw [←hW1];exact heap_up _ (heap_at (iobj 38 0) (by simp))
 have hN:W1.heap[w.heap.size+1+1+1+1]?=some (iobj 3 ((tIdx 0 0:Nat):Int)):=by rw [←hW1];exact heap_at (iobj 3 0) (by simp)
 have hB:Below w.heap.size w W1:=by rw [←hW1];exact below_alloc (below_alloc (below_alloc (below_alloc (below_alloc (Below.refl _ _) _) _) _) _) _
 rw [hW1]
 clear hW1
 generalize hb:w.heap.size=b at *
 have HS:=lh (show b+5<=W1.heap.size by omega)
 have HX1:=lh hX
 have HY1:=lh hY
 have HB1:=lh hB
 have HBW:=lh hb
 have H0:=lh (show JPl W1 b x y 0 0 W1 from ⟨Mut.refl _ _,hN,hA,hE,by omega⟩)
 clear hS hX hY hA hE hN hB hb
 refine pairs_outer 5 20 Tryz.func20 rfl (fun s i W=>JPl W1 b x y s i W) (fun W=>DPl W1 b x y W) (fun _ _=>False)
  (fun s i W k o hk h=>h.put HS.out hk o) (fun W k o hk h=>h.put HS.out hk o) ?_ ?_ ?_ ?_ ?_ (fun c W h=>h.elim)
 ·rintro s W hs h
  have e:=tIdx_next ⟨s,by omega⟩
  dsimp only at e
  exact ⟨h.mu,by rw [←e];exact h.hn,h.ha,h.he,by have:=h.go;omega⟩
 ·intro o o'
  have h:=H0.out
  exact ⟨(h.mu.alloc _).alloc _,heap_up _ (heap_up _ h.hn),heap_up _ (heap_up _ h.ha),heap_up _ (heap_up _ h.he),h.go⟩
 ·rintro l hl s i W0 hi hs hJ hrec
  have HJ:=lh hJ
  have HLL:=lh hl
  have HI:=lh (show i<=s/\s<=5 from ⟨hi,hs⟩)
  have HTI:=lh (tIdx_lt ⟨s,by omega⟩ ⟨i,by omega⟩ hi)
  dsimp only at HTI
  obtain ⟨j,hj⟩:∃j,s-i=j:=⟨_,rfl⟩
  have HJJ:=lh hj
  rw [hj]
  clear hJ hl hrec hi hs hj
  refine wpF_ofR (n:=5) ?_
  gi_wp2_with fail
  refine ⟨KeepA.refl _ _,fun o=>?_⟩
  obtain ⟨W,hW⟩:∃W,W=W0.putObj l (.loop o):=⟨_,rfl⟩
  rw [←hW]
  have hJ2:JPl W1 b x y s i W:=by rw [hW];exact HJ.out.put HS.out HLL.out _
  clear hW
  have cx:=cell_of_one ((hJ2.mu.same b (by have:=HS.out;omega) (notin3 (by omega) (by omega) (by omega))).trans HX1.out)
  have cy:=cell_of_one ((hJ2.mu.same (b+1) (by have:=HS.out;omega) (notin3 (by omega) (by omega) (by omega))).trans HY1.out)
  have ca:=cell_of_one hJ2.ha
  have ce:=cell_of_one hJ2.he
  have cn:=cell_of_one hJ2.hn
  have fa:W.frozen? ⟨b+1+1,0,none⟩=false:=by simp [World.frozen?,hJ2.ha,iobj]
  have fe:W.frozen? ⟨b+1+1+1,0,none⟩=false:=by simp [World.frozen?,hJ2.he,iobj]
  have fn:W.frozen? ⟨b+1+1+1+1,0,none⟩=false:=by simp [World.frozen?,hJ2.hn,iobj]
  have HJ2:=lh hJ2
  clear hJ2
  have hp0:(0:Int)<=(tIdx s i:Int):=by omega
  have hp1:(tIdx s i:Int)<=20:=by have:=HTI.out;omega
  refine wpF_ofR (n:=5) ?_
  gi_wp2_with fail
  ·rename_i h1 h2
   have h3:(j:Int)=y:=by simpa using h2
   have e:=xPlace_at s i HI.out.1 HI.out.2
   rw [HJJ.out,h1,h3] at e
   have h:=HJ2.out
   rw [show W.setCell ⟨b+1+1,0,none⟩ (.int .i64 (tIdx s i:Int))=W.putObj (b+1+1) (iobj 3 ((tIdx s i:Nat):Int)) from setCell_put h.ha 0 _]
   have he:(W.putObj (b+1+1) (iobj 3 ((tIdx s i:Nat):Int))).heap[b+1+1+1]?=some (iobj 38 0):=(World.putObj_heap_other (by omega)).trans h.he
   rw [show (W.putObj (b+1+1) (iobj 3 ((tIdx s i:Nat):Int))).setCell ⟨b+1+1+1,0,none⟩ (.int .i64 0)=(W.putObj (b+1+1) (iobj 3 ((tIdx s i:Nat):Int))).putObj (b+1+1+1) (iobj 38 0) from setCell_put he 0 _]
   have hmu:Mut [b+1+1,b+1+1+1,b+1+1+1+1] W ((W.putObj (b+1+1) (iobj 3 ((tIdx s i:Nat):Int))).putObj (b+1+1+1) (iobj 38 0)):=((Mut.refl _ _).put (by simp) _).put (by simp) _
   refine ⟨hmu.keep (by have:=HS.out;intro x hx;simp at hx;omega),h.mu.trans hmu,?_,?_⟩
   ·rw [e]
    exact (World.putObj_heap_other (by omega)).trans (World.putObj_heap_same (lt_of_block h.ha))
   ·rw [e]
    exact World.putObj_heap_same (lt_of_block he)
  ·rename_i h1 h2
   ·have h3:¬(j:Int)=y:=by simpa using h2
    rw [show W.setCell ⟨b+1+1+1+1,0,none⟩ (.int .i64 ((tIdx s i:Int)+1))=W.putObj (b+1+1+1+1) (iobj 3 ((tIdx s (i+1):Nat):Int)) from setCell_put HJ2.out.hn 0 _]
    have hmu:Mut [b+1+1,b+1+1+1,b+1+1+1+1] W (W.putObj (b+1+1+1+1) (iobj 3 ((tIdx s (i+1):Nat):Int))):=(Mut.refl _ _).put (by simp) _
    have h:=HJ2.out
    refine ⟨hmu.keep (by have:=HS.out;intro x hx;simp at hx;omega),h.mu.trans hmu,World.putObj_heap_same (lt_of_block h.hn),(World.putObj_heap_other (by omega)).trans h.ha,(World.putObj_heap_other (by omega)).trans h.he,?_⟩
    have hg:=h.go
    have:=HJJ.out
    have:=HI.out
    omega
  ·rename_i h1
   ·skip
    rw [show W.setCell ⟨b+1+1+1+1,0,none⟩ (.int .i64 ((tIdx s i:Int)+1))=W.putObj (b+1+1+1+1) (iobj 3 ((tIdx s (i+1):Nat):Int)) from setCell_put HJ2.out.hn 0 _]
    have hmu:Mut [b+1+1,b+1+1+1,b+1+1+1+1] W (W.putObj (b+1+1+1+1) (iobj 3 ((tIdx s (i+1):Nat):Int))):=(Mut.refl _ _).put (by simp) _
    have h:=HJ2.out
    refine ⟨hmu.keep (by have:=HS.out;intro x hx;simp at hx;omega),h.mu.trans hmu,World.putObj_heap_same (lt_of_block h.hn),(World.putObj_heap_other (by omega)).trans h.ha,(World.putObj_heap_other (by omega)).trans h.he,?_⟩
    have hg:=h.go
    have:=HJJ.out
    have:=HI.out
    omega
 ·rintro W hJ hD
  have ca:=cell_of_one hJ.ha
  have ce:=cell_of_one hJ.he
  have fa:W.frozen? ⟨b+1+1,0,none⟩=false:=by simp [World.frozen?,hJ.ha,iobj]
  have fe:W.frozen? ⟨b+1+1+1,0,none⟩=false:=by simp [World.frozen?,hJ.he,iobj]
  have e:xPlace x y=(0,2):=if_neg (by have:=hJ.go;omega)
  have HJ:=lh hJ
  have HD:=lh hD
  have HE:=lh e
  clear hJ hD e
  show wpF _ _ _ _ _ _ _
  refine wpF_seq (wpF_of (n:=5) ?_)
  gi_wp2_with fail
  refine wpF_of (n:=5) (wpIn_ret ?_)
  have h:=HJ.out
  rw [show W.setCell ⟨b+1+1,0,none⟩ (.int .i64 0)=W.putObj (b+1+1) (iobj 3 0) from setCell_put h.ha 0 _]
  have he:(W.putObj (b+1+1) (iobj 3 0)).heap[b+1+1+1]?=some (iobj 38 0):=(World.putObj_heap_other (by omega)).trans h.he
  rw [show (W.putObj (b+1+1) (iobj 3 0)).setCell ⟨b+1+1+1,0,none⟩ (.int .i64 2)=(W.putObj (b+1+1) (iobj 3 0)).putObj (b+1+1+1) (iobj 38 2) from setCell_put he 0 _]
  have hK2:((W.putObj (b+1+1) (iobj 3 0)).putObj (b+1+1+1) (iobj 38 2)).heap[W1.heap.size]?=some (.deferred (some [])):=(World.putObj_heap_other (by have:=HS.out;omega)).trans ((World.putObj_heap_other (by have:=HS.out;omega)).trans HD.out)
  refine ⟨by simp,.inl ⟨_,_,rfl,run_takeDeferred hK2,?_⟩⟩
  have ha2:(((W.putObj (b+1+1) (iobj 3 0)).putObj (b+1+1+1) (iobj 38 2)).putObj W1.heap.size (.deferred none)).heap[b+1+1]?=some (iobj 3 0):=(World.putObj_heap_other (by have:=HS.out;omega)).trans ((World.putObj_heap_other (by omega)).trans (World.putObj_heap_same (lt_of_block h.ha)))
  have he2:(((W.putObj (b+1+1) (iobj 3 0)).putObj (b+1+1+1) (iobj 38 2)).putObj W1.heap.size (.deferred none)).heap[b+1+1+1]?=some (iobj 38 2):=(World.putObj_heap_other (by have:=HS.out;omega)).trans (World.putObj_heap_same (lt_of_block he))
  have q0:=cell_of_one ha2
  have q1:=cell_of_one he2
  refine ⟨.tuple #[.int .i64 0,.int .i64 2],?_,by rw [HE.out],?_⟩
  ·simp [results,Tryz.results20,go_sem,q0,q1]
  ·exact HB1.out.trans (put_bel (put_bel (put_bel (h.mu.below (by have:=HS.out;omega) (by intro x hx;simp at hx;omega)) (by omega)) (by omega)) (by have:=HS.out;omega))
 ·rintro W h hD
  have hK2:=hD
  refine ⟨by simp,.inl ⟨_,_,rfl,run_takeDeferred hK2,?_⟩⟩
  have ha2:(W.putObj W1.heap.size (.deferred none)).heap[b+1+1]?=some (iobj 3 (xPlace x y).1):=(World.putObj_heap_other (by have:=HS.out;omega)).trans h.ha
  have he2:(W.putObj W1.heap.size (.deferred none)).heap[b+1+1+1]?=some (iobj 38 (xPlace x y).2):=(World.putObj_heap_other (by have:=HS.out;omega)).trans h.he
  have q0:=cell_of_one ha2
  have q1:=cell_of_one he2
  refine ⟨.tuple #[.int .i64 (xPlace x y).1,.int .i64 (xPlace x y).2],?_,rfl,?_⟩
  ·simp [results,Tryz.results20,go_sem,q0,q1]
  ·exact HB1.out.trans (put_bel (h.mu.below (by have:=HS.out;omega) (by intro x hx;simp at hx;omega)) (by have:=HS.out;omega))
end Go.Proofs.YthhkcfpljgdnhaaGreat
