/- Package taylor: what Bound and Mul compute, inside caught. Printed by wip/genTO.py. -/
import Derived.Test.YthhkcfpljgdnhaaGreatTayL
import Derived.Test.YthhkcfpljgdnhaaGreatTayM
set_option maxRecDepth 100000
set_option maxHeartbeats 4000000
namespace Go.Proofs.YthhkcfpljgdnhaaGreat
open Go.RowKit Mnc
attribute [local go_sem] RunSP_value RunSP_skip RunSP_enter evS_tmp evS_const evS_global evS_func
/-- Whether all intervals are right. -/
def tRight (ml:List (Int×Int)):Unit×Int:=((),if ∀s∈ml,okS s then 0 else 210)
theorem tm_right (ml:List (Int×Int)) (n:Nat) (hml:ml.length=22*n) (hn3:n<=3) (B0 cap:Nat) (w:World) (h:w.heap[B0]?=some (cobj 34 ml)) :
  Calls Tryz.prog 27 #[.slice (some ⟨B0,0,none⟩) n cap] w fun e w'=>(((tRight ml).2=0/\∃v,e=.returned v)∨(¬(tRight ml).2=0/\e=.panicked (brk (tRight ml).2)))/\Below w.heap.size w w':=by
 refine (tay_right ml n hml hn3 B0 cap w h).mono ?_
 rintro e w' ⟨⟨ha,hv⟩ | ⟨ha,he⟩,hb⟩
 ·exact ⟨.inl ⟨if_pos ha,hv⟩,hb⟩
 ·have h1:(tRight ml).2=210:=if_neg ha
  exact ⟨.inr ⟨by rw [h1];decide,by rw [h1];exact he⟩,hb⟩
structure Bw1 (V:World) (A:Nat) (a:List (Int×Int)) (b:Nat) (L:Nat->Bool) (s:Nat->Value) (w:World):Prop where
 mu:Mut [] V w
 e0:L 0->s 2=mval a
 nb:L 1->∃q:Nat,s 3=.slice (some ⟨q,0,none⟩) 1 1/\w.heap[q]?=some (cobj 34 (a))
 z2:L 2->(tRight (a)).2=0
structure Bw2 (V:World) (A:Nat) (a:List (Int×Int)) (b:Nat) (L:Nat->Bool) (s:Nat->Value) (w:World):Prop where
 mu:Mut [b] V w
 kt_r:L 2=false->w.heap[b]?=some (cobj 31 ([(0,0)]))
 kr_r:L 2->w.heap[b]?=some (cobj 31 ([(tBound a).1]))
 e0:L 0->s 5=mval a
 z1:L 1->(tBound a).2=0
 e1:L 1->s 6=sval ((tBound a).1)
theorem tay_bound1 (A:Nat) (a:List (Int×Int)) (ha:a.length=22) (w:World) (h:w.heap[A]?=some (cobj 34 a)) :
  Calls Tryz.prog 33 #[.pointer (some ⟨A,0,none⟩)] w fun e w'=>Ends sval (thenE (0,0) (tRight a) fun _=>tBound a) e/\Below w.heap.size w w':=by
 have HL:=lh ha
 have HA0:=lh h
 clear ha h
 go_enter Tryz.func33,Tryz.ntmps33
 refine wsk fun K0 HK0=>?_
 go_wp2_with fail
 obtain ⟨b,hb⟩:∃b,w.heap.size=b:=⟨_,rfl⟩
 refine HK0.out _ _ ?_
 refine wp_world (fun V=>Mut [] w V/\V.heap[A]?=some (cobj 34 a)/\V.heap[b]?=some (cobj 31 [(0,0)])) ?_
  (by
   rw [←hb]
   exact ⟨((Mut.refl _ _).alloc _),heap_up _ (HA0.out),heap_at (cobj 31 [(0,0)]) (by simp)⟩)
 rintro V ⟨hm,hHA,hHR⟩
 rw [hb]
 have HM:=lh hm
 have HBW:=lh hb
 have HLT:=lh (show A<b from hb ▸ lt_of_block HA0.out)
 have HP0:=lh (show (thenE (0,0) (tRight a) fun _=>tBound a)=(thenE (0,0) (tRight a) fun _=>tBound a) from rfl)
 have HA:=lh hHA
 have HR:=lh hHR
 clear hm hHA hHR hb HK0
 refine wsk fun K1 HK1=>?_
 refine wp_cut_mergeP (nn::nn::some 2::some 3::some 4::nn::nn::[]) (fun _ w'=>Mut [] V w'/\(tRight (a)).2=0) (fun ch w'=>ch=brk (fstE [(tRight (a)).2])/\¬fstE [(tRight (a)).2]=0/\Mut [] V w') ?_ ?_ ?_
 ·intro Q2 hQ2 hP2
  refine wH (fun ch w'=>ch=brk (fstE [(tRight (a)).2])/\¬fstE [(tRight (a)).2]=0/\Mut [] V w') (Bw1 V A a b) ?_ ?_ ?_ ?_
  ·exact ⟨Mut.start _ false _,nB,nB,nB⟩
  ·refine aC ?_ (aC ?_ (aC ?_ aN))
   ·intro L s w2 h hk hd hn K hK
    have kb:=kZ h.mu HA
    exact rs_load rfl (hk 0) (md_load kb HL.out) (hK {h with e0:=rF})
   ·intro L s w2 h hk hd hn K hK
    exact rs_build rfl (by simp [evS_tmp,(h.e0 hd.1)]) (bs_one HL.out _) (hK {h with mu:=h.mu.alloc _,nb:=fun _=>⟨_,rfl,heap_at _ rfl⟩})
   ·intro L s w2 h hk hd hn K hK
    obtain ⟨q,s3,hq⟩:=h.nb hd.1
    go_simp
    refine (tm_right (a) 1 (by simp [HL.out]) (by omega) q 1 _ hq).mono ?_
    rintro e w3 ⟨⟨hz,v,rfl⟩ | ⟨hz,rfl⟩,hb⟩
    ·exact .inl ⟨_,rfl,hK {h with mu:=h.mu.step hb,nb:=fun a=>let ⟨q,h1,h2⟩:=h.nb a;⟨q,h1,(hb.block _ (lt_of_block h2)).trans h2⟩,z2:=fun _=>hz}⟩
    ·exact .inr ⟨_,rfl,congrArg brk (by rw [fstE_1 (hz)]),(by rw [fstE_1 (hz)];exact hz),h.mu.step hb⟩
  ·intro L s w2 h hk hl
   refine cA ?_ (hQ2 s w2 (⟨h.mu,h.z2 (hl 2)⟩))
   exact fq hk
  ·intro c s w2 hc
   exact hP2 _ _ _ hc
 rotate_left
 ·rintro e l'' w' ⟨rfl,hz,h2⟩
  have he:(thenE (0,0) (tRight a) fun _=>tBound a).2=fstE [(tRight (a)).2]:=by
   have h:=hz
   rw [HP0.out]
   first | exact thenE_fst1 h | exact fstE_one.symm | exact fstE_one.symm
  rw [←he] at hz ⊢
  exact ⟨rfl,.inr ⟨hz,rfl⟩,(by rw [←HBW.out];exact (HM.out.stepM h2 (by simp)).to0)⟩
 rintro s1 V ⟨h1,z1⟩
 simp only [mergeL]
 replace HA:=sm h1 HA
 replace HR:=sm h1 HR
 have HP1:=lh (show (thenE (0,0) (tRight a) fun _=>tBound a)=_ from by rw [HP0.out,thenE_ok z1])
 replace HM:=mE HM h1
 clear h1 z1
 refine HK1.out _ _ ?_
 refine wsk fun K2 HK2=>?_
 refine wp_cut_mergeP (nn::nn::nn::nn::nn::some 5::some 6::[]) (fun _ w'=>Mut [b] V w'/\w'.heap[b]?=some (cobj 31 ([(tBound a).1]))/\(tBound a).2=0) (fun ch w'=>ch=brk (fstE [(tBound a).2])/\¬fstE [(tBound a).2]=0/\Mut [b] V w') ?_ ?_ ?_
 ·intro Q2 hQ2 hP2
  refine wH (fun ch w'=>ch=brk (fstE [(tBound a).2])/\¬fstE [(tBound a).2]=0/\Mut [b] V w') (Bw2 V A a b) ?_ ?_ ?_ ?_
  ·exact ⟨Mut.start _ false _,fun _=>HR.out,nB,nB,nB,nB⟩
  ·refine aC ?_ (aC ?_ (aC ?_ aN))
   ·intro L s w2 h hk hd hn K hK
    have kb:=kY h.mu HA (by have:=HLT.out;omega)
    exact rs_load rfl (hk 0) (md_load kb HL.out) (hK {h with e0:=rF})
   ·intro L s w2 h hk hd hn K hK
    have s5:=h.e0 hd.1
    go_simp
    refine (tay_bound a HL.out _).mono ?_
    rintro e w3 ⟨⟨hz,rfl⟩ | ⟨hz,rfl⟩,hb⟩
    ·exact .inl ⟨_,rfl,hK {h with mu:=h.mu.step hb,kt_r:=fun a=>bk hb (h.kt_r a),kr_r:=fun a=>bk hb (h.kr_r a),e1:=rF,z1:=fun _=>hz}⟩
    ·exact .inr ⟨_,rfl,congrArg brk (by rw [fstE_1 (hz)]),(by rw [fstE_1 (hz)];exact hz),h.mu.step hb⟩
   ·intro L s w2 h hk hd hn K hK
    have kb:=h.kt_r hn
    exact rs_store rfl (hk 1) (h.e1 hd.1) (sp_store (p:=0) kb (by simp) _) (hK {h with mu:=h.mu.put (List.Mem.head _) _,kt_r:=nF,kr_r:=fun _=>pH kb})
  ·intro L s w2 h hk hl
   refine cA ?_ (hQ2 s w2 (⟨h.mu,h.kr_r (hl 2),h.z1 (hl 1)⟩))
   exact fq hk
  ·intro c s w2 hc
   exact hP2 _ _ _ hc
 rotate_left
 ·rintro e l'' w' ⟨rfl,hz,h2⟩
  have he:(thenE (0,0) (tRight a) fun _=>tBound a).2=fstE [(tBound a).2]:=by
   have h:=hz
   rw [HP1.out]
   first | exact thenE_fst1 h | exact fstE_one.symm | exact fstE_one.symm
  rw [←he] at hz ⊢
  exact ⟨rfl,.inr ⟨hz,rfl⟩,(by rw [←HBW.out];exact (HM.out.stepM h2 (by have:=HBW.out;have:=HLT.out;intro x hx;simp at hx;right;omega)).to0)⟩
 rintro s2 V ⟨h1,c_r,z1⟩
 simp only [mergeL]
 replace HA:=j1 h1 HA (by have:=HLT.out;omega)
 replace HR:=lh c_r
 replace HM:=mB HM h1 (by have:=HBW.out;have:=HLT.out;simp;omega)
 have HZ:=lh z1
 clear h1 c_r z1
 refine HK2.out _ _ ?_
 refine wp_ret ?_
 have hq0:=cell_two0 HR.out
 have hq1:=cell_two1 HR.out
 exact bodyPost_ret (v:=sval (tBound a).1) (by simp [results,Tryz.results33,go_sem,hq0,hq1,sval]) rfl ⟨.inl ⟨by rw [HP1.out];exact HZ.out,by rw [HP1.out]⟩,by rw [←HBW.out];exact HM.out.to0⟩
structure Mw1 (V:World) (A:Nat) (D:Nat) (a:List (Int×Int)) (d:List (Int×Int)) (b:Nat) (L:Nat->Bool) (s:Nat->Value) (w:World):Prop where
 mu:Mut [] V w
 e0:L 0->s 3=mval a
 e1:L 1->s 4=mval d
 nb:L 2->∃q:Nat,s 5=.slice (some ⟨q,0,none⟩) 2 2/\w.heap[q]?=some (cobj 34 (a++d))
 z3:L 3->(tRight (a++d)).2=0
structure Mw2 (V:World) (A:Nat) (D:Nat) (a:List (Int×Int)) (d:List (Int×Int)) (b:Nat) (L:Nat->Bool) (s:Nat->Value) (w:World):Prop where
 mu:Mut [b] V w
 kt_r:L 3=false->w.heap[b]?=some (cobj 34 zeroM)
 kr_r:L 3->w.heap[b]?=some (cobj 34 ((tProduct a d).1))
 e0:L 0->s 7=mval a
 e1:L 1->s 8=mval d
 z2:L 2->(tProduct a d).2=0
 e2:L 2->s 9=mval ((tProduct a d).1)
theorem tay_mul1 (A D:Nat) (a d:List (Int×Int)) (ha:a.length=22) (hd:d.length=22) (w:World) (h:w.heap[A]?=some (cobj 34 a)) (k:w.heap[D]?=some (cobj 34 d)) :
  Calls Tryz.prog 26 #[.pointer (some ⟨A,0,none⟩),.pointer (some ⟨D,0,none⟩)] w fun e w'=>Ends mval (thenE [] (tRight (a++d)) fun _=>tProduct a d) e/\Below w.heap.size w w':=by
 have HL:=lh ha
 have HLD:=lh hd
 have HA0:=lh h
 have HD0:=lh k
 clear ha hd h k
 go_enter Tryz.func26,Tryz.ntmps26
 refine wsk fun K0 HK0=>?_
 go_wp2_with fail
 obtain ⟨b,hb⟩:∃b,w.heap.size=b:=⟨_,rfl⟩
 refine HK0.out _ _ ?_
 refine wp_world (fun V=>Mut [] w V/\V.heap[A]?=some (cobj 34 a)/\V.heap[D]?=some (cobj 34 d)/\V.heap[b]?=some (cobj 34 zeroM)) ?_
  (by
   rw [←hb]
   exact ⟨((Mut.refl _ _).alloc _),heap_up _ (HA0.out),heap_up _ (HD0.out),heap_at (cobj 34 zeroM) (by simp)⟩)
 rintro V ⟨hm,hHA,hHD,hHR⟩
 rw [hb]
 have HM:=lh hm
 have HBW:=lh hb
 have HLT:=lh (show A<b/\D<b from ⟨hb ▸ lt_of_block HA0.out,hb ▸ lt_of_block HD0.out⟩)
 have HP0:=lh (show (thenE [] (tRight (a++d)) fun _=>tProduct a d)=(thenE [] (tRight (a++d)) fun _=>tProduct a d) from rfl)
 have HA:=lh hHA
 have HD:=lh hHD
 have HR:=lh hHR
 clear hm hHA hHD hHR hb HK0
 refine wsk fun K1 HK1=>?_
 refine wp_cut_mergeP (nn::nn::nn::some 3::some 4::some 5::some 6::nn::nn::nn::[]) (fun _ w'=>Mut [] V w'/\(tRight (a++d)).2=0) (fun ch w'=>ch=brk (fstE [(tRight (a++d)).2])/\¬fstE [(tRight (a++d)).2]=0/\Mut [] V w') ?_ ?_ ?_
 ·intro Q2 hQ2 hP2
  refine wH (fun ch w'=>ch=brk (fstE [(tRight (a++d)).2])/\¬fstE [(tRight (a++d)).2]=0/\Mut [] V w') (Mw1 V A D a d b) ?_ ?_ ?_ ?_
  ·exact ⟨Mut.start _ false _,nB,nB,nB,nB⟩
  ·refine aC ?_ (aC ?_ (aC ?_ (aC ?_ aN)))
   ·intro L s w2 h hk hd hn K hK
    have kb:=kZ h.mu HA
    exact rs_load rfl (hk 0) (md_load kb HL.out) (hK {h with e0:=rF})
   ·intro L s w2 h hk hd hn K hK
    have kb:=kZ h.mu HD
    exact rs_load rfl (hk 1) (md_load kb HLD.out) (hK {h with e1:=rF})
   ·intro L s w2 h hk hd hn K hK
    exact rs_build rfl (by simp [evS_tmp,(h.e0 hd.1),(h.e1 hd.2.1)]) (bs_both HL.out HLD.out _) (hK {h with mu:=h.mu.alloc _,nb:=fun _=>⟨_,rfl,heap_at _ rfl⟩})
   ·intro L s w2 h hk hd hn K hK
    obtain ⟨q,s5,hq⟩:=h.nb hd.1
    go_simp
    refine (tm_right (a++d) 2 (by simp [HL.out,HLD.out]) (by omega) q 2 _ hq).mono ?_
    rintro e w3 ⟨⟨hz,v,rfl⟩ | ⟨hz,rfl⟩,hb⟩
    ·exact .inl ⟨_,rfl,hK {h with mu:=h.mu.step hb,nb:=fun a=>let ⟨q,h1,h2⟩:=h.nb a;⟨q,h1,(hb.block _ (lt_of_block h2)).trans h2⟩,z3:=fun _=>hz}⟩
    ·exact .inr ⟨_,rfl,congrArg brk (by rw [fstE_1 (hz)]),(by rw [fstE_1 (hz)];exact hz),h.mu.step hb⟩
  ·intro L s w2 h hk hl
   refine cA ?_ (hQ2 s w2 (⟨h.mu,h.z3 (hl 3)⟩))
   exact fq hk
  ·intro c s w2 hc
   exact hP2 _ _ _ hc
 rotate_left
 ·rintro e l'' w' ⟨rfl,hz,h2⟩
  have he:(thenE [] (tRight (a++d)) fun _=>tProduct a d).2=fstE [(tRight (a++d)).2]:=by
   have h:=hz
   rw [HP0.out]
   first | exact thenE_fst1 h | exact fstE_one.symm | exact fstE_one.symm
  rw [←he] at hz ⊢
  exact ⟨rfl,.inr ⟨hz,rfl⟩,(by rw [←HBW.out];exact (HM.out.stepM h2 (by simp)).to0)⟩
 rintro s1 V ⟨h1,z1⟩
 simp only [mergeL]
 replace HA:=sm h1 HA
 replace HD:=sm h1 HD
 replace HR:=sm h1 HR
 have HP1:=lh (show (thenE [] (tRight (a++d)) fun _=>tProduct a d)=_ from by rw [HP0.out,thenE_ok z1])
 replace HM:=mE HM h1
 clear h1 z1
 refine HK1.out _ _ ?_
 refine wsk fun K2 HK2=>?_
 refine wp_cut_mergeP (nn::nn::nn::nn::nn::nn::nn::some 7::some 8::some 9::[]) (fun _ w'=>Mut [b] V w'/\w'.heap[b]?=some (cobj 34 ((tProduct a d).1))/\(tProduct a d).2=0) (fun ch w'=>ch=brk (fstE [(tProduct a d).2])/\¬fstE [(tProduct a d).2]=0/\Mut [b] V w') ?_ ?_ ?_
 ·intro Q2 hQ2 hP2
  refine wH (fun ch w'=>ch=brk (fstE [(tProduct a d).2])/\¬fstE [(tProduct a d).2]=0/\Mut [b] V w') (Mw2 V A D a d b) ?_ ?_ ?_ ?_
  ·exact ⟨Mut.start _ false _,fun _=>HR.out,nB,nB,nB,nB,nB⟩
  ·refine aC ?_ (aC ?_ (aC ?_ (aC ?_ aN)))
   ·intro L s w2 h hk hd hn K hK
    have kb:=kY h.mu HA (by have:=HLT.out;omega)
    exact rs_load rfl (hk 0) (md_load kb HL.out) (hK {h with e0:=rF})
   ·intro L s w2 h hk hd hn K hK
    have kb:=kY h.mu HD (by have:=HLT.out;omega)
    exact rs_load rfl (hk 1) (md_load kb HLD.out) (hK {h with e1:=rF})
   ·intro L s w2 h hk hd hn K hK
    have s7:=h.e0 hd.1
    have s8:=h.e1 hd.2.1
    go_simp
    refine (tay_product a d HL.out HLD.out _).mono ?_
    rintro e w3 ⟨⟨hz,rfl⟩ | ⟨hz,rfl⟩,hb⟩
    ·exact .inl ⟨_,rfl,hK {h with mu:=h.mu.step hb,kt_r:=fun a=>bk hb (h.kt_r a),kr_r:=fun a=>bk hb (h.kr_r a),e2:=rF,z2:=fun _=>hz}⟩
    ·exact .inr ⟨_,rfl,congrArg brk (by rw [fstE_1 (hz)]),(by rw [fstE_1 (hz)];exact hz),h.mu.step hb⟩
   ·intro L s w2 h hk hd hn K hK
    have kb:=h.kt_r hn
    exact rs_store rfl (hk 2) (h.e2 hd.1) (md_store kb rfl _ (tProduct_len (h.z2 hd.1))) (hK {h with mu:=h.mu.put (List.Mem.head _) _,kt_r:=nF,kr_r:=fun _=>pH kb})
  ·intro L s w2 h hk hl
   refine cA ?_ (hQ2 s w2 (⟨h.mu,h.kr_r (hl 3),h.z2 (hl 2)⟩))
   exact fq hk
  ·intro c s w2 hc
   exact hP2 _ _ _ hc
 rotate_left
 ·rintro e l'' w' ⟨rfl,hz,h2⟩
  have he:(thenE [] (tRight (a++d)) fun _=>tProduct a d).2=fstE [(tProduct a d).2]:=by
   have h:=hz
   rw [HP1.out]
   first | exact thenE_fst1 h | exact fstE_one.symm | exact fstE_one.symm
  rw [←he] at hz ⊢
  exact ⟨rfl,.inr ⟨hz,rfl⟩,(by rw [←HBW.out];exact (HM.out.stepM h2 (by have:=HBW.out;have:=HLT.out;intro x hx;simp at hx;right;omega)).to0)⟩
 rintro s2 V ⟨h1,c_r,z1⟩
 simp only [mergeL]
 replace HA:=j1 h1 HA (by have:=HLT.out;omega)
 replace HD:=j1 h1 HD (by have:=HLT.out;omega)
 replace HR:=lh c_r
 replace HM:=mB HM h1 (by have:=HBW.out;have:=HLT.out;simp;omega)
 have HZ:=lh z1
 clear h1 c_r z1
 refine HK2.out _ _ ?_
 refine wp_ret ?_
 exact bodyPost_ret (v:=mval (tProduct a d).1) (res_model Tryz.results26 rfl (md_loadVar HR.out (tProduct_len HZ.out))) rfl ⟨.inl ⟨by rw [HP1.out];exact HZ.out,by rw [HP1.out]⟩,by rw [←HBW.out];exact HM.out.to0⟩
/-- The model of a variable. -/
def xU:List (Int×Int):=zeroM.set 2 (4294967296,4294967296)
structure VU1 (V:World) (b:Nat) (L:Nat->Bool) (s:Nat->Value) (w:World):Prop where
 mu:Mut [b] V w
 kt_r:L 4=false->w.heap[b]?=some (cobj 34 zeroM)
 kr_r:L 4->w.heap[b]?=some (cobj 34 (zeroM.set (tPlace 1 0) (4294967296,4294967296)))
 e0:L 0->s 1=.int .i64 ((tPlace 1 0:Nat):Int)
 e1:L 1->s 2=sval (4294967296,4294967296)
 e2:L 2->s 3=.pointer (some ⟨b,0,none⟩)
 e3:L 3->s 4=.pointer (some ⟨b,(tPlace 1 0)*2,none⟩)
structure VU2 (V:World) (b:Nat) (L:Nat->Bool) (s:Nat->Value) (w:World):Prop where
 mu:Mut [b] V w
 kt_r:L 1=false->w.heap[b]?=some (cobj 34 (zeroM.set (tPlace 1 0) (4294967296,4294967296)))
 kr_r:L 1->w.heap[b]?=some (cobj 34 (zeroM.set (tPlace 1 0) (4294967296,4294967296)))
 e0:L 0->s 5=mval (zeroM.set (tPlace 1 0) (4294967296,4294967296))
 b1_0:L 1->L 0
theorem taw_U (w:World):Calls Tryz.prog 21 #[] w fun e w'=>e=.returned (mval xU)/\Below w.heap.size w w':=by
 go_enter Tryz.func21,Tryz.ntmps21
 refine wsk fun K0 HK0=>?_
 go_wp2_with fail
 obtain ⟨b,hb⟩:∃b,w.heap.size=b:=⟨_,rfl⟩
 refine HK0.out _ _ ?_
 refine wp_world (fun V=>Mut [] w V/\V.heap[b]?=some (cobj 34 zeroM)) ?_
  (by
   rw [←hb]
   exact ⟨((Mut.refl _ _).alloc _),heap_at (cobj 34 zeroM) (by simp)⟩)
 rintro V ⟨hm,hHR⟩
 rw [hb]
 have HM:=lh hm
 have HBW:=lh hb
 have HLT:=lh trivial
 have HR:=lh hHR
 clear hm hHR hb HK0
 refine wsk fun K1 HK1=>?_
 refine wc (nn::some 1::some 2::some 3::some 4::nn::[]) (fun _ w'=>Mut [b] V w'/\w'.heap[b]?=some (cobj 34 (zeroM.set (tPlace 1 0) (4294967296,4294967296)))) ?_ ?_
 ·intro Q2 hQ2
  refine wG (VU1 V b) ?_ ?_ ?_
  ·exact ⟨Mut.start _ false _,fun _=>HR.out,nB,nB,nB,nB,nB⟩
  ·refine aC ?_ (aC ?_ (aC ?_ (aC ?_ (aC ?_ aN))))
   ·intro L s w2 h hk hd hn K hK
    go_simp
    refine (tay_place 1 0 (by omega) _).mono ?_
    rintro e w3 ⟨rfl,hb⟩
    exact .inl ⟨_,rfl,hK {h with mu:=h.mu.step hb,kt_r:=fun a=>bk hb (h.kt_r a),kr_r:=fun a=>bk hb (h.kr_r a),e0:=rF}⟩
   ·intro L s w2 h hk hd hn K hK
    go_simp
    refine (tm_point 4294967296 _).mono ?_
    rintro e w3 ⟨rfl,hb⟩
    exact .inl ⟨_,rfl,hK {h with mu:=h.mu.step hb,kt_r:=fun a=>bk hb (h.kt_r a),kr_r:=fun a=>bk hb (h.kr_r a),e1:=rF}⟩
   ·intro L s w2 h hk hd hn K hK
    exact rs_field rfl (hk 0) (fl_model0 _ _) (hK {h with e2:=rF})
   ·intro L s w2 h hk hd hn K hK
    exact rs_index rfl (h.e2 hd.1) (h.e0 hd.2.1) (ix_model _ (tPlace 1 0) (by decide)) (hK {h with e3:=rF})
   ·intro L s w2 h hk hd hn K hK
    have kb:=h.kt_r hn
    exact rs_store rfl (h.e3 hd.1) (h.e1 hd.2.1) (sp_store (p:=tPlace 1 0) kb (by decide) _) (hK {h with mu:=h.mu.put (List.Mem.head _) _,kt_r:=nF,kr_r:=fun _=>pH kb})
  ·intro L s w2 h hk hl
   refine cA ?_ (hQ2 s w2 (⟨h.mu,h.kr_r (hl 4)⟩))
   exact fq hk
 rintro s1 V ⟨h1,c_r⟩
 simp only [mergeL]
 replace HR:=lh c_r
 replace HM:=mB HM h1 (by have:=HBW.out;have:=HLT.out;simp;omega)
 clear h1 c_r
 refine HK1.out _ _ ?_
 refine wsk fun K2 HK2=>?_
 refine wc (nn::nn::nn::nn::nn::some 5::[]) (fun _ w'=>Mut [b] V w'/\w'.heap[b]?=some (cobj 34 (zeroM.set (tPlace 1 0) (4294967296,4294967296)))) ?_ ?_
 ·intro Q2 hQ2
  refine wG (VU2 V b) ?_ ?_ ?_
  ·exact ⟨Mut.start _ false _,fun _=>HR.out,nB,nB,nB⟩
  ·refine aC ?_ (aC ?_ aN)
   ·intro L s w2 h hk hd hn K hK
    have kb:=(h.kt_r (bF h.b1_0 hn))
    exact rs_load rfl (hk 0) (md_load kb (by simp [zeroM])) (hK {h with e0:=rF,b1_0:=rF})
   ·intro L s w2 h hk hd hn K hK
    have kb:=h.kt_r hn
    exact rs_store rfl (hk 0) (h.e0 hd.1) (md_store kb (by simp [zeroM]) _ (by simp [zeroM])) (hK {h with mu:=h.mu.put (List.Mem.head _) _,kt_r:=nF,kr_r:=fun _=>pH kb,b1_0:=fun _=>hd.1})
  ·intro L s w2 h hk hl
   refine cA ?_ (hQ2 s w2 (⟨h.mu,h.kr_r (hl 1)⟩))
   exact fq hk
 rintro s2 V ⟨h1,c_r⟩
 simp only [mergeL]
 replace HR:=lh c_r
 replace HM:=mB HM h1 (by have:=HBW.out;have:=HLT.out;simp;omega)
 clear h1 c_r
 refine HK2.out _ _ ?_
 refine wp_ret ?_
 exact bodyPost_ret (v:=mval xU) (res_model Tryz.results21 rfl (md_loadVar HR.out (show (zeroM.set (tPlace 1 0) (4294967296,4294967296)).length=22 from rfl))) rfl ⟨rfl,by rw [←HBW.out];exact HM.out.to0⟩
/-- The model of a variable. -/
def xV:List (Int×Int):=zeroM.set 1 (4294967296,4294967296)
structure VV1 (V:World) (b:Nat) (L:Nat->Bool) (s:Nat->Value) (w:World):Prop where
 mu:Mut [b] V w
 kt_r:L 4=false->w.heap[b]?=some (cobj 34 zeroM)
 kr_r:L 4->w.heap[b]?=some (cobj 34 (zeroM.set (tPlace 0 1) (4294967296,4294967296)))
 e0:L 0->s 1=.int .i64 ((tPlace 0 1:Nat):Int)
 e1:L 1->s 2=sval (4294967296,4294967296)
 e2:L 2->s 3=.pointer (some ⟨b,0,none⟩)
 e3:L 3->s 4=.pointer (some ⟨b,(tPlace 0 1)*2,none⟩)
structure VV2 (V:World) (b:Nat) (L:Nat->Bool) (s:Nat->Value) (w:World):Prop where
 mu:Mut [b] V w
 kt_r:L 1=false->w.heap[b]?=some (cobj 34 (zeroM.set (tPlace 0 1) (4294967296,4294967296)))
 kr_r:L 1->w.heap[b]?=some (cobj 34 (zeroM.set (tPlace 0 1) (4294967296,4294967296)))
 e0:L 0->s 5=mval (zeroM.set (tPlace 0 1) (4294967296,4294967296))
 b1_0:L 1->L 0
theorem taw_V (w:World):Calls Tryz.prog 22 #[] w fun e w'=>e=.returned (mval xV)/\Below w.heap.size w w':=by
 go_enter Tryz.func22,Tryz.ntmps22
 refine wsk fun K0 HK0=>?_
 go_wp2_with fail
 obtain ⟨b,hb⟩:∃b,w.heap.size=b:=⟨_,rfl⟩
 refine HK0.out _ _ ?_
 refine wp_world (fun V=>Mut [] w V/\V.heap[b]?=some (cobj 34 zeroM)) ?_
  (by
   rw [←hb]
   exact ⟨((Mut.refl _ _).alloc _),heap_at (cobj 34 zeroM) (by simp)⟩)
 rintro V ⟨hm,hHR⟩
 rw [hb]
 have HM:=lh hm
 have HBW:=lh hb
 have HLT:=lh trivial
 have HR:=lh hHR
 clear hm hHR hb HK0
 refine wsk fun K1 HK1=>?_
 refine wc (nn::some 1::some 2::some 3::some 4::nn::[]) (fun _ w'=>Mut [b] V w'/\w'.heap[b]?=some (cobj 34 (zeroM.set (tPlace 0 1) (4294967296,4294967296)))) ?_ ?_
 ·intro Q2 hQ2
  refine wG (VV1 V b) ?_ ?_ ?_
  ·exact ⟨Mut.start _ false _,fun _=>HR.out,nB,nB,nB,nB,nB⟩
  ·refine aC ?_ (aC ?_ (aC ?_ (aC ?_ (aC ?_ aN))))
   ·intro L s w2 h hk hd hn K hK
    go_simp
    refine (tay_place 0 1 (by omega) _).mono ?_
    rintro e w3 ⟨rfl,hb⟩
    exact .inl ⟨_,rfl,hK {h with mu:=h.mu.step hb,kt_r:=fun a=>bk hb (h.kt_r a),kr_r:=fun a=>bk hb (h.kr_r a),e0:=rF}⟩
   ·intro L s w2 h hk hd hn K hK
    go_simp
    refine (tm_point 4294967296 _).mono ?_
    rintro e w3 ⟨rfl,hb⟩
    exact .inl ⟨_,rfl,hK {h with mu:=h.mu.step hb,kt_r:=fun a=>bk hb (h.kt_r a),kr_r:=fun a=>bk hb (h.kr_r a),e1:=rF}⟩
   ·intro L s w2 h hk hd hn K hK
    exact rs_field rfl (hk 0) (fl_model0 _ _) (hK {h with e2:=rF})
   ·intro L s w2 h hk hd hn K hK
    exact rs_index rfl (h.e2 hd.1) (h.e0 hd.2.1) (ix_model _ (tPlace 0 1) (by decide)) (hK {h with e3:=rF})
   ·intro L s w2 h hk hd hn K hK
    have kb:=h.kt_r hn
    exact rs_store rfl (h.e3 hd.1) (h.e1 hd.2.1) (sp_store (p:=tPlace 0 1) kb (by decide) _) (hK {h with mu:=h.mu.put (List.Mem.head _) _,kt_r:=nF,kr_r:=fun _=>pH kb})
  ·intro L s w2 h hk hl
   refine cA ?_ (hQ2 s w2 (⟨h.mu,h.kr_r (hl 4)⟩))
   exact fq hk
 rintro s1 V ⟨h1,c_r⟩
 simp only [mergeL]
 replace HR:=lh c_r
 replace HM:=mB HM h1 (by have:=HBW.out;have:=HLT.out;simp;omega)
 clear h1 c_r
 refine HK1.out _ _ ?_
 refine wsk fun K2 HK2=>?_
 refine wc (nn::nn::nn::nn::nn::some 5::[]) (fun _ w'=>Mut [b] V w'/\w'.heap[b]?=some (cobj 34 (zeroM.set (tPlace 0 1) (4294967296,4294967296)))) ?_ ?_
 ·intro Q2 hQ2
  refine wG (VV2 V b) ?_ ?_ ?_
  ·exact ⟨Mut.start _ false _,fun _=>HR.out,nB,nB,nB⟩
  ·refine aC ?_ (aC ?_ aN)
   ·intro L s w2 h hk hd hn K hK
    have kb:=(h.kt_r (bF h.b1_0 hn))
    exact rs_load rfl (hk 0) (md_load kb (by simp [zeroM])) (hK {h with e0:=rF,b1_0:=rF})
   ·intro L s w2 h hk hd hn K hK
    have kb:=h.kt_r hn
    exact rs_store rfl (hk 0) (h.e0 hd.1) (md_store kb (by simp [zeroM]) _ (by simp [zeroM])) (hK {h with mu:=h.mu.put (List.Mem.head _) _,kt_r:=nF,kr_r:=fun _=>pH kb,b1_0:=fun _=>hd.1})
  ·intro L s w2 h hk hl
   refine cA ?_ (hQ2 s w2 (⟨h.mu,h.kr_r (hl 1)⟩))
   exact fq hk
 rintro s2 V ⟨h1,c_r⟩
 simp only [mergeL]
 replace HR:=lh c_r
 replace HM:=mB HM h1 (by have:=HBW.out;have:=HLT.out;simp;omega)
 clear h1 c_r
 refine HK2.out _ _ ?_
 refine wp_ret ?_
 exact bodyPost_ret (v:=mval xV) (res_model Tryz.results22 rfl (md_loadVar HR.out (show (zeroM.set (tPlace 0 1) (4294967296,4294967296)).length=22 from rfl))) rfl ⟨rfl,by rw [←HBW.out];exact HM.out.to0⟩
end Go.Proofs.YthhkcfpljgdnhaaGreat
