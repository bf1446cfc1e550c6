/- Package taylor: what Inverse computes, inside caught. Printed by wip/genTQ.py. -/
import Derived.Test.YthhkcfpljgdnhaaGreatTayO
set_option maxRecDepth 100000
set_option maxHeartbeats 4000000
namespace Go.Proofs.YthhkcfpljgdnhaaGreat
open Go.RowKit Mnc
attribute [local go_sem] RunSP_value RunSP_skip RunSP_enter evS_tmp evS_const evS_global evS_func
theorem tRelative_len {a:List (Int×Int)} (h:(tRelative a).2=0):(tRelative a).1.1.length=a.length:=by
 unfold tRelative at h ⊢
 refine thenE_ind (fun x=>x.1.length=a.length) h fun v hv h=>?_
 refine thenE_ind (fun x=>x.1.length=a.length) h fun _ _ h=>?_
 refine thenE_ind (fun x=>x.1.length=a.length) h fun _ _ h=>?_
 refine thenE_ind (fun x=>x.1.length=a.length) h fun _ _ h=>?_
 have h1:=tEach_len (F:=fun x _=>sDiv x (tAt a 0)) (a:=a.set 0 (0,0)) (c:=a.set 0 (0,0)) rfl (by have:=congrArg Prod.snd hv;exact this)
 have h2:tEach (fun x _=>sDiv x (tAt a 0)) (a.set 0 (0,0)) (a.set 0 (0,0))=(v,0):=hv
 rw [h2] at h1
 simpa using h1
structure Iw1 (V:World) (A:Nat) (a:List (Int×Int)) (b:Nat) (L:Nat->Bool) (s:Nat->Value) (w:World):Prop where
 mu:Mut [] V w
 e0:L 0->s 8=mval a
 nb:L 1->∃q:Nat,s 9=.slice (some ⟨q,0,none⟩) 1 1/\w.heap[q]?=some (cobj 34 (a))
 z2:L 2->(tRight (a)).2=0
structure Iw2 (V:World) (A:Nat) (a:List (Int×Int)) (b:Nat) (L:Nat->Bool) (s:Nat->Value) (w:World):Prop where
 mu:Mut [] V w
 e0:L 0->s 11=.pointer (some ⟨A,0,none⟩)
 e1:L 1->s 12=.pointer (some ⟨A,0*2,none⟩)
 e2:L 2->s 13=sval (tAt a 0)
 al_c:L 3->∃g:Nat,s 2=.pointer (some ⟨g,0,none⟩)/\V.heap.size<=g/\g<w.heap.size/\(L 4=false->w.heap[g]?=some (cobj 31 [(0,0)]))/\(L 4=true->w.heap[g]?=some (cobj 31 [tAt a 0]))
 b4_3:L 4->L 3
structure Iw5 (V:World) (A:Nat) (a:List (Int×Int)) (b:Nat) (g0:Nat) (L:Nat->Bool) (s:Nat->Value) (w:World):Prop where
 mu:Mut [] V w
 e0:L 0->s 25=mval a
 z1:L 1->(tRelative a).2=0
 e1:L 1->s 26=r3val ((tRelative a).1)
 e2:L 2->s 24=r3val ((tRelative a).1)
 e3:L 3->s 27=mval (((tRelative a).1).1)
 e4:L 4->s 28=sval (((tRelative a).1).2.1)
 e5:L 5->s 29=sval (((tRelative a).1).2.2)
 al_h:L 6->∃g:Nat,s 3=.pointer (some ⟨g,0,none⟩)/\V.heap.size<=g/\g<w.heap.size/\(L 9=false->w.heap[g]?=some (cobj 34 zeroM))/\(L 9=true->w.heap[g]?=some (cobj 34 ((tRelative a).1.1)))
 dn_h_bb:L 6->L 7->s 3≠s 4
 dn_h_ee:L 6->L 8->s 3≠s 5
 al_bb:L 7->∃g:Nat,s 4=.pointer (some ⟨g,0,none⟩)/\V.heap.size<=g/\g<w.heap.size/\(L 10=false->w.heap[g]?=some (cobj 31 [(0,0)]))/\(L 10=true->w.heap[g]?=some (cobj 31 [(tRelative a).1.2.1]))
 dn_bb_ee:L 7->L 8->s 4≠s 5
 al_ee:L 8->∃g:Nat,s 5=.pointer (some ⟨g,0,none⟩)/\V.heap.size<=g/\g<w.heap.size/\(L 11=false->w.heap[g]?=some (cobj 31 [(0,0)]))/\(L 11=true->w.heap[g]?=some (cobj 31 [(tRelative a).1.2.2]))
 b9_6:L 9->L 6
 b10_7:L 10->L 7
 b11_8:L 11->L 8
structure Iw8 (V:World) (A:Nat) (a:List (Int×Int)) (b:Nat) (g0:Nat) (r:List (Int×Int)×(Int×Int)×(Int×Int)) (g1:Nat) (g2:Nat) (g3:Nat) (L:Nat->Bool) (s:Nat->Value) (w:World):Prop where
 mu:Mut [] V w
 e0:L 0->s 35=mval r.1
 e1:L 1->s 36=.agg #[.int .i64 (-4294967296),.int .i64 4294967296,.int .i64 (-4294967296),.int .i64 4294967296,.int .i64 (-4294967296),.int .i64 4294967296]
 z2:L 2->(tSeries r.1 [4294967296,-4294967296,4294967296,-4294967296,4294967296] (zeroM.set 0 (-4294967296,-4294967296))).2=0
 e2:L 2->s 37=mval ((tSeries r.1 [4294967296,-4294967296,4294967296,-4294967296,4294967296] (zeroM.set 0 (-4294967296,-4294967296))).1)
 al_m:L 3->∃g:Nat,s 6=.pointer (some ⟨g,0,none⟩)/\V.heap.size<=g/\g<w.heap.size/\(L 4=false->w.heap[g]?=some (cobj 34 zeroM))/\(L 4=true->w.heap[g]?=some (cobj 34 ((tSeries r.1 [4294967296,-4294967296,4294967296,-4294967296,4294967296] (zeroM.set 0 (-4294967296,-4294967296))).1)))
 b4_3:L 4->L 3
structure Iw9 (V:World) (A:Nat) (a:List (Int×Int)) (b:Nat) (g0:Nat) (r:List (Int×Int)×(Int×Int)×(Int×Int)) (g1:Nat) (g2:Nat) (g3:Nat) (m:List (Int×Int)) (g4:Nat) (L:Nat->Bool) (s:Nat->Value) (w:World):Prop where
 mu:Mut [] V w
 e0:L 0->s 38=sval r.2.1
 e1:L 1->s 39=.tuple #[sval (sPow (r.2.1) (6)).1,.int .i64 (sPow (r.2.1) (6)).2]
 e2:L 2->s 40=sval ((sPow (r.2.1) (6)).1)
 e3:L 3->s 41=.int .i64 ((sPow (r.2.1) (6)).2)
 z4:L 4->(sPow (r.2.1) (6)).2=0
 e4:L 4->s 42=sval ((sPow (r.2.1) (6)).1)
 al_sx:L 5->∃g:Nat,s 7=.pointer (some ⟨g,0,none⟩)/\V.heap.size<=g/\g<w.heap.size/\(L 6=false->w.heap[g]?=some (cobj 31 [(0,0)]))/\(L 6=true->w.heap[g]?=some (cobj 31 [(sPow r.2.1 6).1]))
 b6_5:L 6->L 5
structure Iw10 (V:World) (A:Nat) (a:List (Int×Int)) (b:Nat) (g0:Nat) (r:List (Int×Int)×(Int×Int)×(Int×Int)) (g1:Nat) (g2:Nat) (g3:Nat) (m:List (Int×Int)) (g4:Nat) (sx:(Int×Int)) (g5:Nat) (L:Nat->Bool) (s:Nat->Value) (w:World):Prop where
 mu:Mut [g4] V w
 kt_m:L 17=false->w.heap[g4]?=some (cobj 34 m)
 kr_m:L 17->w.heap[g4]?=some (cobj 34 (m.set 21 (sAdd (tAt m 21) (sDiv sx (sPow r.2.2 7).1).1).1))
 e0:L 0->s 43=.pointer (some ⟨g4,21*2,none⟩)
 e1:L 1->s 44=sval (tAt m 21)
 e2:L 2->s 45=sval sx
 e3:L 3->s 46=sval r.2.2
 e4:L 4->s 47=.tuple #[sval (sPow (r.2.2) (7)).1,.int .i64 (sPow (r.2.2) (7)).2]
 e5:L 5->s 48=sval ((sPow (r.2.2) (7)).1)
 e6:L 6->s 49=.int .i64 ((sPow (r.2.2) (7)).2)
 z7:L 7->(sPow (r.2.2) (7)).2=0
 e7:L 7->s 50=sval ((sPow (r.2.2) (7)).1)
 e8:L 8->s 51=.tuple #[sval (sDiv (sx) ((sPow (r.2.2) (7)).1)).1,.int .i64 (sDiv (sx) ((sPow (r.2.2) (7)).1)).2]
 e9:L 9->s 52=sval ((sDiv (sx) ((sPow (r.2.2) (7)).1)).1)
 e10:L 10->s 53=.int .i64 ((sDiv (sx) ((sPow (r.2.2) (7)).1)).2)
 z11:L 11->(sDiv (sx) ((sPow (r.2.2) (7)).1)).2=0
 e11:L 11->s 54=sval ((sDiv (sx) ((sPow (r.2.2) (7)).1)).1)
 e12:L 12->s 55=.tuple #[sval (sAdd (tAt m 21) ((sDiv (sx) ((sPow (r.2.2) (7)).1)).1)).1,.int .i64 (sAdd (tAt m 21) ((sDiv (sx) ((sPow (r.2.2) (7)).1)).1)).2]
 e13:L 13->s 56=sval ((sAdd (tAt m 21) ((sDiv (sx) ((sPow (r.2.2) (7)).1)).1)).1)
 e14:L 14->s 57=.int .i64 ((sAdd (tAt m 21) ((sDiv (sx) ((sPow (r.2.2) (7)).1)).1)).2)
 z15:L 15->(sAdd (tAt m 21) ((sDiv (sx) ((sPow (r.2.2) (7)).1)).1)).2=0
 e15:L 15->s 58=sval ((sAdd (tAt m 21) ((sDiv (sx) ((sPow (r.2.2) (7)).1)).1)).1)
 e16:L 16->s 59=.pointer (some ⟨g4,21*2,none⟩)
 q9_7:L 9->(sPow (r.2.2) (7)).2=0
 q13_11:L 13->(sDiv (sx) ((sPow (r.2.2) (7)).1)).2=0
 q13_7:L 13->(sPow (r.2.2) (7)).2=0
 q8_7:L 8->(sPow (r.2.2) (7)).2=0
 q12_11:L 12->(sDiv (sx) ((sPow (r.2.2) (7)).1)).2=0
 q12_7:L 12->(sPow (r.2.2) (7)).2=0
 q11_7:L 11->(sPow (r.2.2) (7)).2=0
 b17_1:L 17->L 1
structure Iw11 (V:World) (A:Nat) (a:List (Int×Int)) (b:Nat) (g0:Nat) (r:List (Int×Int)×(Int×Int)×(Int×Int)) (g1:Nat) (g2:Nat) (g3:Nat) (m:List (Int×Int)) (g4:Nat) (sx:(Int×Int)) (g5:Nat) (q:List (Int×Int)) (L:Nat->Bool) (s:Nat->Value) (w:World):Prop where
 mu:Mut [b] V w
 kt_r:L 3=false->w.heap[b]?=some (cobj 34 zeroM)
 kr_r:L 3->w.heap[b]?=some (cobj 34 ((tBy sDiv q (tAt a 0)).1))
 e0:L 0->s 60=mval q
 e1:L 1->s 61=sval (tAt a 0)
 z2:L 2->(tBy sDiv q (tAt a 0)).2=0
 e2:L 2->s 62=mval ((tBy sDiv q (tAt a 0)).1)
theorem tay_inverse1 (A:Nat) (a:List (Int×Int)) (ha:a.length=22) (w:World) (h:w.heap[A]?=some (cobj 34 a)) :
  Calls Tryz.prog 38 #[.pointer (some ⟨A,0,none⟩)] w fun e w'=>Ends mval (thenE [] (tRight a) fun _=>tInverse a) e/\Below w.heap.size w w':=by
 have HL:=lh ha
 have HA0:=lh h
 clear ha h
 go_enter Tryz.func38,Tryz.ntmps38
 refine wsk fun K0 HK0=>?_
 go_wp2_with fail
 obtain ⟨b,hb⟩:∃b,w.heap.size=b:=⟨_,rfl⟩
 refine HK0.out _ _ ?_
 refine wp_world (fun V=>Mut [] w V/\V.heap[A]?=some (cobj 34 a)/\V.heap[b]?=some (cobj 34 zeroM)) ?_
  (by
   rw [←hb]
   exact ⟨((Mut.refl _ _).alloc _),heap_up _ (HA0.out),heap_at (cobj 34 zeroM) (by simp)⟩)
 rintro V ⟨hm,hHA,hHR⟩
 rw [hb]
 have HM:=lh hm
 have HBW:=lh hb
 have HLT:=lh (show A<b from hb ▸ lt_of_block HA0.out)
 have HP0:=lh (show (thenE [] (tRight a) fun _=>tInverse a)=(thenE [] (tRight a) fun _=>tInverse a) from rfl)
 have HA:=lh hHA
 have HR:=lh hHR
 clear hm hHA hHR hb HK0
 refine wsk fun K1 HK1=>?_
 refine wp_cut_mergeP (n8 (some 8::some 9::some 10::n8 (n8 (n8 (n8 (n8 (n8 (nn::nn::nn::nn::[])))))))) (fun _ w'=>Mut [] V w'/\(tRight (a)).2=0) (fun ch w'=>ch=brk (fstE [(tRight (a)).2])/\¬fstE [(tRight (a)).2]=0/\Mut [] V w') ?_ ?_ ?_
 ·intro Q2 hQ2 hP2
  refine wH (fun ch w'=>ch=brk (fstE [(tRight (a)).2])/\¬fstE [(tRight (a)).2]=0/\Mut [] V w') (Iw1 V A a b) ?_ ?_ ?_ ?_
  ·exact ⟨Mut.start _ false _,nB,nB,nB⟩
  ·refine aC ?_ (aC ?_ (aC ?_ aN))
   ·intro L s w2 h hk hd hn K hK
    have kb:=kZ h.mu HA
    exact rs_load rfl (hk 0) (md_load kb HL.out) (hK {h with e0:=rF})
   ·intro L s w2 h hk hd hn K hK
    exact rs_build rfl (by simp [evS_tmp,(h.e0 hd.1)]) (bs_one HL.out _) (hK {h with mu:=h.mu.alloc _,nb:=fun _=>⟨_,rfl,heap_at _ rfl⟩})
   ·intro L s w2 h hk hd hn K hK
    obtain ⟨q,s9,hq⟩:=h.nb hd.1
    go_simp
    refine (tm_right (a) 1 (by simp [HL.out]) (by omega) q 1 _ hq).mono ?_
    rintro e w3 ⟨⟨hz,v,rfl⟩ | ⟨hz,rfl⟩,hb⟩
    ·exact .inl ⟨_,rfl,hK {h with mu:=h.mu.step hb,nb:=fun a=>let ⟨q,h1,h2⟩:=h.nb a;⟨q,h1,(hb.block _ (lt_of_block h2)).trans h2⟩,z2:=fun _=>hz}⟩
    ·exact .inr ⟨_,rfl,congrArg brk (by rw [fstE_1 (hz)]),(by rw [fstE_1 (hz)];exact hz),h.mu.step hb⟩
  ·intro L s w2 h hk hl
   refine cA ?_ (hQ2 s w2 (⟨h.mu,h.z2 (hl 2)⟩))
   exact fq hk
  ·intro c s w2 hc
   exact hP2 _ _ _ hc
 rotate_left
 ·rintro e l'' w' ⟨rfl,hz,h2⟩
  have he:(thenE [] (tRight a) fun _=>tInverse a).2=fstE [(tRight (a)).2]:=by
   have h:=hz
   rw [HP0.out]
   first | exact thenE_fst1 h | exact fstE_one.symm | exact fstE_one.symm
  rw [←he] at hz ⊢
  exact ⟨rfl,.inr ⟨hz,rfl⟩,(by rw [←HBW.out];exact (HM.out.stepM h2 (by simp)).to0)⟩
 rintro s1 V ⟨h1,z1⟩
 simp only [mergeL]
 replace HA:=sm h1 HA
 replace HR:=sm h1 HR
 have HP1:=lh (show (thenE [] (tRight a) fun _=>tInverse a)=_ from by rw [HP0.out,thenE_ok z1])
 replace HM:=mE HM h1
 clear h1 z1
 refine HK1.out _ _ ?_
 refine wsk fun K2 HK2=>?_
 refine wc (nn::nn::some 2::n8 (some 11::some 12::some 13::n8 (n8 (n8 (n8 (n8 (n8 (nn::[])))))))) (fun s w'=>Mut [] V w'/\(∃g:Nat,s 2=.pointer (some ⟨g,0,none⟩)/\V.heap.size<=g/\w'.heap[g]?=some (cobj 31 [tAt a 0]))) ?_ ?_
 ·intro Q2 hQ2
  refine wG (Iw2 V A a b) ?_ ?_ ?_
  ·exact ⟨Mut.start _ false _,nB,nB,nB,nB,nB⟩
  ·refine aC ?_ (aC ?_ (aC ?_ (aC ?_ (aC ?_ aN))))
   ·intro L s w2 h hk hd hn K hK
    exact rs_field rfl (hk 0) (fl_model0 _ _) (hK {h with e0:=rF})
   ·intro L s w2 h hk hd hn K hK
    exact rs_index rfl (h.e0 hd.1) rfl (ix_model _ 0 (by omega)) (hK {h with e1:=rF})
   ·intro L s w2 h hk hd hn K hK
    have kb:=kZ h.mu HA
    exact rs_load rfl (h.e1 hd.1) (sp_load (p:=0) kb (by have:=(HL.out:a.length=22);omega)) (hK {h with e2:=rF})
   ·intro L s w2 h hk hd hn K hK
    go_simp
    exact hK {h with mu:=h.mu.alloc _,al_c:=fun _=>aW h.mu.size h.b4_3 hn,b4_3:=rF}
   ·intro L s w2 h hk hd hn K hK
    obtain ⟨g,hg0,hg1,hgl,hg2,hg3⟩:=h.al_c hd.1
    have kb:=hg2 hn
    exact rs_store rfl hg0 (h.e2 hd.2.1) (sp_store (p:=0) kb (by simp) _) (hK {h with mu:=h.mu.putNew hg1 _,al_c:=fun _=>aT hg0 hg1 hgl kb,b4_3:=fun _=>hd.1})
  ·intro L s w2 h hk hl
   refine cA ?_ (hQ2 s w2 (⟨h.mu,aE (h.al_c (hl 3)) (hl 4)⟩))
   exact fq hk
 rintro s2 V ⟨h1,⟨g0,k_c,g_c,c_c⟩⟩
 simp only [mergeL]
 rw [k_c]
 replace HLT:=lh (show b<=g0/\A<g0/\b<g0/\A<b from by
  have hlt:=HLT.out
  have hbw:=HM.out.size
  have hbw2:=HBW.out
  have:=lt_of_block HA.out
  have:=lt_of_block HR.out
  omega)
 replace HA:=sm h1 HA
 replace HR:=sm h1 HR
 have HC:=lh c_c
 replace HM:=mE HM h1
 clear h1 k_c g_c c_c
 refine HK2.out _ _ ?_
 refine wsk fun K3 HK3=>?_
 refine wp_cut_mergeP (n8 (nn::nn::nn::nn::nn::nn::some 14::some 15::some 16::some 17::some 18::some 19::some 20::some 21::some 22::some 23::n8 (n8 (n8 (n8 (nn::nn::nn::nn::nn::nn::nn::[])))))) (fun _ w'=>w'=V/\¬((tAt a 0).1<=0/\0<=(tAt a 0).2)) (fun ch w'=>ch=brk 7/\((tAt a 0).1<=0/\0<=(tAt a 0).2)/\w'=V) ?_ ?_ ?_
 ·intro Q2 hQ2 hP2
  have hq0:=cell_two0 HC.out
  have hq1:=cell_two1 HC.out
  go_wp2_with fail
  all_goals first | rfl | exact merge_meet hQ2 (by kernel_rfl) ⟨rfl,by simp_all<;>omega⟩ | exact hP2 _ _ _ ⟨rfl,by simp_all<;>omega,rfl⟩
 rotate_left
 ·rintro e l'' w' ⟨rfl,hz,rfl⟩
  have he:(thenE [] (tRight a) fun _=>tInverse a).2=7:=by rw [HP1.out,tInverse,if_pos hz]
  exact ⟨rfl,.inr ⟨by rw [he];first | decide | exact hz,by rw [he]⟩,by rw [←HBW.out];exact HM.out.to0⟩
 rintro s3 V2 ⟨he,hz⟩
 replace he:=he.symm
 subst he
 simp only [mergeL]
 have HP2:=lh (show (thenE [] (tRight a) fun _=>tInverse a)=_ from by rw [HP1.out,tInverse,if_neg hz])
 clear hz
 refine HK3.out _ _ ?_
 refine wsk fun K5 HK5=>?_
 refine wp_cut_mergeP (nn::nn::nn::some 3::some 4::some 5::n8 (n8 (nn::nn::some 24::some 25::some 26::some 27::some 28::some 29::n8 (n8 (n8 (n8 (nn::[]))))))) (fun s w'=>Mut [] V w'/\(∃g:Nat,s 3=.pointer (some ⟨g,0,none⟩)/\V.heap.size<=g/\w'.heap[g]?=some (cobj 34 ((tRelative a).1.1)))/\(∃g:Nat,s 4=.pointer (some ⟨g,0,none⟩)/\V.heap.size<=g/\w'.heap[g]?=some (cobj 31 [(tRelative a).1.2.1]))/\(∃g:Nat,s 5=.pointer (some ⟨g,0,none⟩)/\V.heap.size<=g/\w'.heap[g]?=some (cobj 31 [(tRelative a).1.2.2]))/\(tRelative a).2=0) (fun ch w'=>ch=brk (fstE [(tRelative a).2])/\¬fstE [(tRelative a).2]=0/\Mut [] V w') ?_ ?_ ?_
 ·intro Q2 hQ2 hP2
  refine wH (fun ch w'=>ch=brk (fstE [(tRelative a).2])/\¬fstE [(tRelative a).2]=0/\Mut [] V w') (Iw5 V A a b g0) ?_ ?_ ?_ ?_
  ·exact ⟨Mut.start _ false _,nB,nB,nB,nB,nB,nB,nB,nB,nB,nB,nB,nB,nB,nB,nB,nB⟩
  ·refine aC ?_ (aC ?_ (aC ?_ (aC ?_ (aC ?_ (aC ?_ (aC ?_ (aC ?_ (aC ?_ (aC ?_ (aC ?_ (aC ?_ aN)))))))))))
   ·intro L s w2 h hk hd hn K hK
    have kb:=kZ h.mu HA
    exact rs_load rfl (hk 0) (md_load kb HL.out) (hK {h with e0:=rF})
   ·intro L s w2 h hk hd hn K hK
    have s25:=h.e0 hd.1
    go_simp
    refine (tay_relative a HL.out _).mono ?_
    rintro e w3 ⟨⟨hz,rfl⟩ | ⟨hz,rfl⟩,hb⟩
    ·exact .inl ⟨_,rfl,hK {h with mu:=h.mu.step hb,al_h:=fun a=>aS hb (h.al_h a),al_bb:=fun a=>aS hb (h.al_bb a),al_ee:=fun a=>aS hb (h.al_ee a),e1:=rF,z1:=fun _=>hz}⟩
    ·exact .inr ⟨_,rfl,congrArg brk (by rw [fstE_1 (hz)]),(by rw [fstE_1 (hz)];exact hz),h.mu.step hb⟩
   ·intro L s w2 h hk hd hn K hK
    exact rs_move rfl (h.e1 hd.1) (hK {h with e2:=rF})
   ·intro L s w2 h hk hd hn K hK
    exact rs_extract rfl (h.e2 hd.1) rfl (hK {h with e3:=rF})
   ·intro L s w2 h hk hd hn K hK
    exact rs_extract rfl (h.e2 hd.1) rfl (hK {h with e4:=rF})
   ·intro L s w2 h hk hd hn K hK
    exact rs_extract rfl (h.e2 hd.1) rfl (hK {h with e5:=rF})
   ·intro L s w2 h hk hd hn K hK
    go_simp
    exact hK {h with mu:=h.mu.alloc _,al_bb:=fun a=>aU (h.al_bb a),dn_h_bb:=fun _ b=>dU (h.al_bb b),al_ee:=fun a=>aU (h.al_ee a),dn_h_ee:=fun _ b=>dU (h.al_ee b),al_h:=fun _=>aW h.mu.size h.b9_6 hn,b9_6:=rF}
   ·intro L s w2 h hk hd hn K hK
    go_simp
    exact hK {h with mu:=h.mu.alloc _,al_h:=fun a=>aU (h.al_h a),dn_h_bb:=fun a _=>(dU (h.al_h a)).symm,al_ee:=fun a=>aU (h.al_ee a),dn_bb_ee:=fun _ b=>dU (h.al_ee b),al_bb:=fun _=>aW h.mu.size h.b10_7 hn,b10_7:=rF}
   ·intro L s w2 h hk hd hn K hK
    go_simp
    exact hK {h with mu:=h.mu.alloc _,al_h:=fun a=>aU (h.al_h a),dn_h_ee:=fun a _=>(dU (h.al_h a)).symm,al_bb:=fun a=>aU (h.al_bb a),dn_bb_ee:=fun a _=>(dU (h.al_bb a)).symm,al_ee:=fun _=>aW h.mu.size h.b11_8 hn,b11_8:=rF}
   ·intro L s w2 h hk hd hn K hK
    obtain ⟨g,hg0,hg1,hgl,hg2,hg3⟩:=h.al_h hd.1
    have kb:=hg2 hn
    exact rs_store rfl hg0 (h.e3 hd.2.1) (md_store kb rfl _ ((tRelative_len (h.z1 hd.2.2.1)).trans HL.out)) (hK {h with mu:=h.mu.putNew hg1 _,al_bb:=fun a=>aP (h.dn_h_bb hd.1 a) hg0 (h.al_bb a),al_ee:=fun a=>aP (h.dn_h_ee hd.1 a) hg0 (h.al_ee a),al_h:=fun _=>aT hg0 hg1 hgl kb,b9_6:=fun _=>hd.1})
   ·intro L s w2 h hk hd hn K hK
    obtain ⟨g,hg0,hg1,hgl,hg2,hg3⟩:=h.al_bb hd.1
    have kb:=hg2 hn
    exact rs_store rfl hg0 (h.e4 hd.2.1) (sp_store (p:=0) kb (by simp) _) (hK {h with mu:=h.mu.putNew hg1 _,al_h:=fun a=>aP ((h.dn_h_bb a hd.1).symm) hg0 (h.al_h a),al_ee:=fun a=>aP (h.dn_bb_ee hd.1 a) hg0 (h.al_ee a),al_bb:=fun _=>aT hg0 hg1 hgl kb,b10_7:=fun _=>hd.1})
   ·intro L s w2 h hk hd hn K hK
    obtain ⟨g,hg0,hg1,hgl,hg2,hg3⟩:=h.al_ee hd.1
    have kb:=hg2 hn
    exact rs_store rfl hg0 (h.e5 hd.2.1) (sp_store (p:=0) kb (by simp) _) (hK {h with mu:=h.mu.putNew hg1 _,al_h:=fun a=>aP ((h.dn_h_ee a hd.1).symm) hg0 (h.al_h a),al_bb:=fun a=>aP ((h.dn_bb_ee a hd.1).symm) hg0 (h.al_bb a),al_ee:=fun _=>aT hg0 hg1 hgl kb,b11_8:=fun _=>hd.1})
  ·intro L s w2 h hk hl
   refine cA ?_ (hQ2 s w2 (⟨h.mu,aE (h.al_h (hl 6)) (hl 9),aE (h.al_bb (hl 7)) (hl 10),aE (h.al_ee (hl 8)) (hl 11),h.z1 (hl 1)⟩))
   exact fq hk
  ·intro c s w2 hc
   exact hP2 _ _ _ hc
 rotate_left
 ·rintro e l'' w' ⟨rfl,hz,h2⟩
  have he:(thenE [] (tRight a) fun _=>tInverse a).2=fstE [(tRelative a).2]:=by
   have h:=hz
   rw [HP2.out]
   first | exact thenE_fst1 h | exact fstE_one.symm | exact fstE_one.symm
  rw [←he] at hz ⊢
  exact ⟨rfl,.inr ⟨hz,rfl⟩,(by rw [←HBW.out];exact (HM.out.stepM h2 (by simp)).to0)⟩
 rintro s5 V ⟨h1,⟨g1,k_h,g_h,c_h⟩,⟨g2,k_bb,g_bb,c_bb⟩,⟨g3,k_ee,g_ee,c_ee⟩,z1⟩
 simp only [mergeL]
 rw [k_h]
 rw [k_bb]
 rw [k_ee]
 replace HLT:=lh (show b<=g1/\b<=g2/\b<=g3/\A<g1/\b<g1/\g0<g1/\A<g2/\b<g2/\g0<g2/\A<g3/\b<g3/\g0<g3/\b<=g0/\A<g0/\b<g0/\A<b from by
  have hlt:=HLT.out
  have hbw:=HM.out.size
  have hbw2:=HBW.out
  have:=lt_of_block HA.out
  have:=lt_of_block HR.out
  have:=lt_of_block HC.out
  omega)
 replace HA:=sm h1 HA
 replace HR:=sm h1 HR
 replace HC:=sm h1 HC
 have HH:=lh c_h
 have HBB:=lh c_bb
 have HEE:=lh c_ee
 have HP3:=lh (show (thenE [] (tRight a) fun _=>tInverse a)=_ from by rw [HP2.out,thenE_ok z1])
 have HLR:=lh (show (tRelative a).1.1.length=22 from (tRelative_len z1).trans HL.out)
 obtain ⟨r,hr0⟩:∃x,(tRelative a).1=x:=⟨_,rfl⟩
 try rw [hr0] at HA
 try rw [hr0] at HR
 try rw [hr0] at HC
 try rw [hr0] at HH
 try rw [hr0] at HBB
 try rw [hr0] at HEE
 try rw [hr0] at HP3
 try rw [hr0] at HLR
 replace HM:=mE HM h1
 clear h1 k_h g_h c_h k_bb g_bb c_bb k_ee g_ee c_ee z1 hr0
 refine HK5.out _ _ ?_
 refine wsk fun K6 HK6=>?_
 refine wp_cut_mergeP (n8 (n8 (n8 (nn::nn::nn::nn::nn::nn::some 30::some 31::some 32::some 33::some 34::n8 (n8 (n8 (nn::nn::nn::nn::[]))))))) (fun _ w'=>w'=V/\¬(r.2.2.1<=0)) (fun ch w'=>ch=brk 7/\(r.2.2.1<=0)/\w'=V) ?_ ?_ ?_
 ·intro Q2 hQ2 hP2
  have hq0:=cell_two0 HEE.out
  have hq1:=cell_two1 HEE.out
  go_wp2_with fail
  all_goals first | rfl | exact merge_meet hQ2 (by kernel_rfl) ⟨rfl,by simp_all<;>omega⟩ | exact hP2 _ _ _ ⟨rfl,by simp_all<;>omega,rfl⟩
 rotate_left
 ·rintro e l'' w' ⟨rfl,hz,rfl⟩
  have he:(thenE [] (tRight a) fun _=>tInverse a).2=7:=by rw [HP3.out,if_pos hz]
  exact ⟨rfl,.inr ⟨by rw [he];first | decide | exact hz,by rw [he]⟩,by rw [←HBW.out];exact HM.out.to0⟩
 rintro s6 V2 ⟨he,hz⟩
 replace he:=he.symm
 subst he
 simp only [mergeL]
 have HP4:=lh (show (thenE [] (tRight a) fun _=>tInverse a)=_ from by rw [HP3.out,if_neg hz])
 clear hz
 refine HK6.out _ _ ?_
 refine wsk fun K8 HK8=>?_
 refine wp_cut_mergeP (nn::nn::nn::nn::nn::nn::some 6::n8 (n8 (n8 (nn::nn::nn::nn::some 35::some 36::some 37::n8 (n8 (n8 (nn::[]))))))) (fun s w'=>Mut [] V w'/\(∃g:Nat,s 6=.pointer (some ⟨g,0,none⟩)/\V.heap.size<=g/\w'.heap[g]?=some (cobj 34 ((tSeries r.1 [4294967296,-4294967296,4294967296,-4294967296,4294967296] (zeroM.set 0 (-4294967296,-4294967296))).1)))/\(tSeries r.1 [4294967296,-4294967296,4294967296,-4294967296,4294967296] (zeroM.set 0 (-4294967296,-4294967296))).2=0) (fun ch w'=>ch=brk (fstE [(tSeries r.1 [4294967296,-4294967296,4294967296,-4294967296,4294967296] (zeroM.set 0 (-4294967296,-4294967296))).2])/\¬fstE [(tSeries r.1 [4294967296,-4294967296,4294967296,-4294967296,4294967296] (zeroM.set 0 (-4294967296,-4294967296))).2]=0/\Mut [] V w') ?_ ?_ ?_
 ·intro Q2 hQ2 hP2
  refine wH (fun ch w'=>ch=brk (fstE [(tSeries r.1 [4294967296,-4294967296,4294967296,-4294967296,4294967296] (zeroM.set 0 (-4294967296,-4294967296))).2])/\¬fstE [(tSeries r.1 [4294967296,-4294967296,4294967296,-4294967296,4294967296] (zeroM.set 0 (-4294967296,-4294967296))).2]=0/\Mut [] V w') (Iw8 V A a b g0 r g1 g2 g3) ?_ ?_ ?_ ?_
  ·exact ⟨Mut.start _ false _,nB,nB,nB,nB,nB,nB⟩
  ·refine aC ?_ (aC ?_ (aC ?_ (aC ?_ (aC ?_ aN))))
   ·intro L s w2 h hk hd hn K hK
    have kb:=kZ h.mu HH
    exact rs_load rfl (hk 3) (md_load kb HLR.out) (hK {h with e0:=rF})
   ·intro L s w2 h hk hd hn K hK
    go_simp
    exact hK {h with e1:=rF}
   ·intro L s w2 h hk hd hn K hK
    have s35:=h.e0 hd.1
    have s36:=h.e1 hd.2.1
    go_simp
    refine (tay_series r.1 HLR.out (-4294967296) 4294967296 (-4294967296) 4294967296 (-4294967296) 4294967296 (by decide +kernel) _).mono ?_
    rintro e w3 ⟨⟨hz,rfl⟩ | ⟨hz,rfl⟩,hb⟩
    ·exact .inl ⟨_,rfl,hK {h with mu:=h.mu.step hb,al_m:=fun a=>aS hb (h.al_m a),e2:=rF,z2:=fun _=>hz}⟩
    ·exact .inr ⟨_,rfl,congrArg brk (by rw [fstE_1 (hz)]),(by rw [fstE_1 (hz)];exact hz),h.mu.step hb⟩
   ·intro L s w2 h hk hd hn K hK
    go_simp
    exact hK {h with mu:=h.mu.alloc _,al_m:=fun _=>aW h.mu.size h.b4_3 hn,b4_3:=rF}
   ·intro L s w2 h hk hd hn K hK
    obtain ⟨g,hg0,hg1,hgl,hg2,hg3⟩:=h.al_m hd.1
    have kb:=hg2 hn
    exact rs_store rfl hg0 (h.e2 hd.2.1) (md_store kb rfl _ (tSeries_len (by simp [zeroM]) (h.z2 hd.2.1))) (hK {h with mu:=h.mu.putNew hg1 _,al_m:=fun _=>aT hg0 hg1 hgl kb,b4_3:=fun _=>hd.1})
  ·intro L s w2 h hk hl
   refine cA ?_ (hQ2 s w2 (⟨h.mu,aE (h.al_m (hl 3)) (hl 4),h.z2 (hl 2)⟩))
   exact fq hk
  ·intro c s w2 hc
   exact hP2 _ _ _ hc
 rotate_left
 ·rintro e l'' w' ⟨rfl,hz,h2⟩
  have he:(thenE [] (tRight a) fun _=>tInverse a).2=fstE [(tSeries r.1 [4294967296,-4294967296,4294967296,-4294967296,4294967296] (zeroM.set 0 (-4294967296,-4294967296))).2]:=by
   have h:=hz
   rw [HP4.out]
   first | exact thenE_fst1 h | exact fstE_one.symm | exact fstE_one.symm
  rw [←he] at hz ⊢
  exact ⟨rfl,.inr ⟨hz,rfl⟩,(by rw [←HBW.out];exact (HM.out.stepM h2 (by simp)).to0)⟩
 rintro s8 V ⟨h1,⟨g4,k_m,g_m,c_m⟩,z1⟩
 simp only [mergeL]
 rw [k_m]
 replace HLT:=lh (show b<=g4/\A<g4/\b<g4/\g0<g4/\g1<g4/\g2<g4/\g3<g4/\b<=g1/\b<=g2/\b<=g3/\A<g1/\b<g1/\g0<g1/\A<g2/\b<g2/\g0<g2/\A<g3/\b<g3/\g0<g3/\b<=g0/\A<g0/\b<g0/\A<b from by
  have hlt:=HLT.out
  have hbw:=HM.out.size
  have hbw2:=HBW.out
  have:=lt_of_block HA.out
  have:=lt_of_block HR.out
  have:=lt_of_block HC.out
  have:=lt_of_block HH.out
  have:=lt_of_block HBB.out
  have:=lt_of_block HEE.out
  omega)
 replace HA:=sm h1 HA
 replace HR:=sm h1 HR
 replace HC:=sm h1 HC
 replace HH:=sm h1 HH
 replace HBB:=sm h1 HBB
 replace HEE:=sm h1 HEE
 have HMM:=lh c_m
 have HP5:=lh (show (thenE [] (tRight a) fun _=>tInverse a)=_ from by rw [HP4.out,thenE_ok z1])
 have HLM:=lh (show (tSeries r.1 [4294967296,-4294967296,4294967296,-4294967296,4294967296] (zeroM.set 0 (-4294967296,-4294967296))).1.length=22 from tSeries_len (by simp [zeroM]) z1)
 obtain ⟨m,hr0⟩:∃x,(tSeries r.1 [4294967296,-4294967296,4294967296,-4294967296,4294967296] (zeroM.set 0 (-4294967296,-4294967296))).1=x:=⟨_,rfl⟩
 try rw [hr0] at HA
 try rw [hr0] at HR
 try rw [hr0] at HC
 try rw [hr0] at HH
 try rw [hr0] at HBB
 try rw [hr0] at HEE
 try rw [hr0] at HMM
 try rw [hr0] at HP5
 try rw [hr0] at HLM
 replace HM:=mE HM h1
 clear h1 k_m g_m c_m z1 hr0
 refine HK8.out _ _ ?_
 refine wsk fun K9 HK9=>?_
 refine wp_cut_mergeP (nn::nn::nn::nn::nn::nn::nn::some 7::n8 (n8 (n8 (nn::nn::nn::nn::nn::nn::some 38::some 39::some 40::some 41::some 42::n8 (n8 (nn::nn::nn::nn::[])))))) (fun s w'=>Mut [] V w'/\(∃g:Nat,s 7=.pointer (some ⟨g,0,none⟩)/\V.heap.size<=g/\w'.heap[g]?=some (cobj 31 [(sPow r.2.1 6).1]))/\(sPow (r.2.1) (6)).2=0) (fun ch w'=>ch=brk (fstE [(sPow (r.2.1) (6)).2])/\¬fstE [(sPow (r.2.1) (6)).2]=0/\Mut [] V w') ?_ ?_ ?_
 ·intro Q2 hQ2 hP2
  refine wH (fun ch w'=>ch=brk (fstE [(sPow (r.2.1) (6)).2])/\¬fstE [(sPow (r.2.1) (6)).2]=0/\Mut [] V w') (Iw9 V A a b g0 r g1 g2 g3 m g4) ?_ ?_ ?_ ?_
  ·exact ⟨Mut.start _ false _,nB,nB,nB,nB,nB,nB,nB,nB⟩
  ·refine aC ?_ (aC ?_ (aC ?_ (aC ?_ (aC ?_ (aC ?_ (aC ?_ aN))))))
   ·intro L s w2 h hk hd hn K hK
    have kb:=kZ h.mu HBB
    exact rs_load rfl (hk 4) (sp_load (p:=0) kb (by simp)) (hK {h with e0:=rF})
   ·intro L s w2 h hk hd hn K hK
    have s38:=h.e0 hd.1
    go_simp
    refine (tm_pow (r.2.1) (6) _).mono ?_
    rintro e w3 ⟨rfl,hb⟩
    exact .inl ⟨_,rfl,hK {h with mu:=h.mu.step hb,al_sx:=fun a=>aS hb (h.al_sx a),e1:=rF}⟩
   ·intro L s w2 h hk hd hn K hK
    exact rs_extract rfl (h.e1 hd.1) rfl (hK {h with e2:=rF})
   ·intro L s w2 h hk hd hn K hK
    exact rs_extract rfl (h.e1 hd.1) rfl (hK {h with e3:=rF})
   ·intro L s w2 h hk hd hn K hK
    have s40:=h.e2 hd.1
    have s41:=h.e3 hd.2.1
    go_simp
    refine (tm_must ((sPow (r.2.1) (6)).1) ((sPow (r.2.1) (6)).2) _).mono ?_
    rintro e w3 ⟨⟨hz,rfl⟩ | ⟨hz,rfl⟩,hb⟩
    ·exact .inl ⟨_,rfl,hK {h with mu:=h.mu.step hb,al_sx:=fun a=>aS hb (h.al_sx a),e4:=rF,z4:=fun _=>hz}⟩
    ·exact .inr ⟨_,rfl,congrArg brk (by rw [fstE_1 (hz)]),(by rw [fstE_1 (hz)];exact hz),h.mu.step hb⟩
   ·intro L s w2 h hk hd hn K hK
    go_simp
    exact hK {h with mu:=h.mu.alloc _,al_sx:=fun _=>aW h.mu.size h.b6_5 hn,b6_5:=rF}
   ·intro L s w2 h hk hd hn K hK
    obtain ⟨g,hg0,hg1,hgl,hg2,hg3⟩:=h.al_sx hd.1
    have kb:=hg2 hn
    exact rs_store rfl hg0 (h.e4 hd.2.1) (sp_store (p:=0) kb (by simp) _) (hK {h with mu:=h.mu.putNew hg1 _,al_sx:=fun _=>aT hg0 hg1 hgl kb,b6_5:=fun _=>hd.1})
  ·intro L s w2 h hk hl
   refine cA ?_ (hQ2 s w2 (⟨h.mu,aE (h.al_sx (hl 5)) (hl 6),h.z4 (hl 4)⟩))
   exact fq hk
  ·intro c s w2 hc
   exact hP2 _ _ _ hc
 rotate_left
 ·rintro e l'' w' ⟨rfl,hz,h2⟩
  have he:(thenE [] (tRight a) fun _=>tInverse a).2=fstE [(sPow (r.2.1) (6)).2]:=by
   have h:=hz
   rw [HP5.out]
   first | exact thenE_fst1 h | exact fstE_one.symm | exact fstE_one.symm
  rw [←he] at hz ⊢
  exact ⟨rfl,.inr ⟨hz,rfl⟩,(by rw [←HBW.out];exact (HM.out.stepM h2 (by simp)).to0)⟩
 rintro s9 V ⟨h1,⟨g5,k_sx,g_sx,c_sx⟩,z1⟩
 simp only [mergeL]
 rw [k_sx]
 replace HLT:=lh (show b<=g5/\A<g5/\b<g5/\g0<g5/\g1<g5/\g2<g5/\g3<g5/\g4<g5/\b<=g4/\A<g4/\b<g4/\g0<g4/\g1<g4/\g2<g4/\g3<g4/\b<=g1/\b<=g2/\b<=g3/\A<g1/\b<g1/\g0<g1/\A<g2/\b<g2/\g0<g2/\A<g3/\b<g3/\g0<g3/\b<=g0/\A<g0/\b<g0/\A<b from by
  have hlt:=HLT.out
  have hbw:=HM.out.size
  have hbw2:=HBW.out
  have:=lt_of_block HA.out
  have:=lt_of_block HR.out
  have:=lt_of_block HC.out
  have:=lt_of_block HH.out
  have:=lt_of_block HBB.out
  have:=lt_of_block HEE.out
  have:=lt_of_block HMM.out
  omega)
 replace HA:=sm h1 HA
 replace HR:=sm h1 HR
 replace HC:=sm h1 HC
 replace HH:=sm h1 HH
 replace HBB:=sm h1 HBB
 replace HEE:=sm h1 HEE
 replace HMM:=sm h1 HMM
 have HSX:=lh c_sx
 have HP6:=lh (show (thenE [] (tRight a) fun _=>tInverse a)=_ from by rw [HP5.out,thenE_ok z1])
 obtain ⟨sx,hr0⟩:∃x,(sPow r.2.1 6).1=x:=⟨_,rfl⟩
 try rw [hr0] at HA
 try rw [hr0] at HR
 try rw [hr0] at HC
 try rw [hr0] at HH
 try rw [hr0] at HBB
 try rw [hr0] at HEE
 try rw [hr0] at HMM
 try rw [hr0] at HSX
 try rw [hr0] at HP6
 replace HM:=mE HM h1
 clear h1 k_sx g_sx c_sx z1 hr0
 refine HK9.out _ _ ?_
 refine wsk fun K10 HK10=>?_
 refine wp_cut_mergeP (n8 (n8 (n8 (n8 (n8 (nn::nn::nn::some 43::some 44::some 45::some 46::some 47::some 48::some 49::some 50::some 51::some 52::some 53::some 54::some 55::some 56::some 57::some 58::some 59::nn::nn::nn::[])))))) (fun _ w'=>Mut [g4] V w'/\w'.heap[g4]?=some (cobj 34 (m.set 21 (sAdd (tAt m 21) (sDiv sx (sPow r.2.2 7).1).1).1))/\(sPow (r.2.2) (7)).2=0/\(sDiv (sx) ((sPow (r.2.2) (7)).1)).2=0/\(sAdd (tAt m 21) ((sDiv (sx) ((sPow (r.2.2) (7)).1)).1)).2=0) (fun ch w'=>ch=brk (fstE [(sPow (r.2.2) (7)).2,(sDiv (sx) ((sPow (r.2.2) (7)).1)).2,(sAdd (tAt m 21) ((sDiv (sx) ((sPow (r.2.2) (7)).1)).1)).2])/\¬fstE [(sPow (r.2.2) (7)).2,(sDiv (sx) ((sPow (r.2.2) (7)).1)).2,(sAdd (tAt m 21) ((sDiv (sx) ((sPow (r.2.2) (7)).1)).1)).2]=0/\Mut [g4] V w') ?_ ?_ ?_
 ·intro Q2 hQ2 hP2
  refine wH (fun ch w'=>ch=brk (fstE [(sPow (r.2.2) (7)).2,(sDiv (sx) ((sPow (r.2.2) (7)).1)).2,(sAdd (tAt m 21) ((sDiv (sx) ((sPow (r.2.2) (7)).1)).1)).2])/\¬fstE [(sPow (r.2.2) (7)).2,(sDiv (sx) ((sPow (r.2.2) (7)).1)).2,(sAdd (tAt m 21) ((sDiv (sx) ((sPow (r.2.2) (7)).1)).1)).2]=0/\Mut [g4] V w') (Iw10 V A a b g0 r g1 g2 g3 m g4 sx g5) ?_ ?_ ?_ ?_
  ·exact ⟨Mut.start _ true _,fun _=>HMM.out,nB,nB,nB,nB,nB,nB,nB,nB,nB,nB,nB,nB,nB,nB,nB,nB,nB,nB,nB,nB,nB,nB,nB,nB,nB,nB,nB,nB,nB⟩
  ·refine aC ?_ (aC ?_ (aC ?_ (aC ?_ (aC ?_ (aC ?_ (aC ?_ (aC ?_ (aC ?_ (aC ?_ (aC ?_ (aC ?_ (aC ?_ (aC ?_ (aC ?_ (aC ?_ (aC ?_ (aC ?_ aN)))))))))))))))))
   ·intro L s w2 h hk hd hn K hK
    exact rs_field rfl (hk 6) (fl_model1 _ _) (hK {h with e0:=rF})
   ·intro L s w2 h hk hd hn K hK
    have kb:=(h.kt_m (bF h.b17_1 hn))
    exact rs_load rfl (h.e0 hd.1) (sp_load (p:=21) kb (by have:=(HLM.out:m.length=22);omega)) (hK {h with e1:=rF,b17_1:=rF})
   ·intro L s w2 h hk hd hn K hK
    have kb:=kY h.mu HSX (by have:=HLT.out;omega)
    exact rs_load rfl (hk 7) (sp_load (p:=0) kb (by simp)) (hK {h with e2:=rF})
   ·intro L s w2 h hk hd hn K hK
    have kb:=kY h.mu HEE (by have:=HLT.out;omega)
    exact rs_load rfl (hk 5) (sp_load (p:=0) kb (by simp)) (hK {h with e3:=rF})
   ·intro L s w2 h hk hd hn K hK
    have s46:=h.e3 hd.1
    go_simp
    refine (tm_pow (r.2.2) (7) _).mono ?_
    rintro e w3 ⟨rfl,hb⟩
    exact .inl ⟨_,rfl,hK {h with mu:=h.mu.step hb,kt_m:=fun a=>bk hb (h.kt_m a),kr_m:=fun a=>bk hb (h.kr_m a),e4:=rF}⟩
   ·intro L s w2 h hk hd hn K hK
    exact rs_extract rfl (h.e4 hd.1) rfl (hK {h with e5:=rF})
   ·intro L s w2 h hk hd hn K hK
    exact rs_extract rfl (h.e4 hd.1) rfl (hK {h with e6:=rF})
   ·intro L s w2 h hk hd hn K hK
    have s48:=h.e5 hd.1
    have s49:=h.e6 hd.2.1
    go_simp
    refine (tm_must ((sPow (r.2.2) (7)).1) ((sPow (r.2.2) (7)).2) _).mono ?_
    rintro e w3 ⟨⟨hz,rfl⟩ | ⟨hz,rfl⟩,hb⟩
    ·exact .inl ⟨_,rfl,hK {h with mu:=h.mu.step hb,kt_m:=fun a=>bk hb (h.kt_m a),kr_m:=fun a=>bk hb (h.kr_m a),e7:=rF,z7:=fun _=>hz}⟩
    ·exact .inr ⟨_,rfl,congrArg brk (by rw [fstE_1 (hz)]),(by rw [fstE_1 (hz)];exact hz),h.mu.step hb⟩
   ·intro L s w2 h hk hd hn K hK
    have s45:=h.e2 hd.1
    have s50:=h.e7 hd.2.1
    go_simp
    refine (tm_div (sx) ((sPow (r.2.2) (7)).1) _).mono ?_
    rintro e w3 ⟨rfl,hb⟩
    exact .inl ⟨_,rfl,hK {h with mu:=h.mu.step hb,kt_m:=fun a=>bk hb (h.kt_m a),kr_m:=fun a=>bk hb (h.kr_m a),e8:=rF,q8_7:=fun _=>h.z7 hd.2.1}⟩
   ·intro L s w2 h hk hd hn K hK
    exact rs_extract rfl (h.e8 hd.1) rfl (hK {h with e9:=rF,q9_7:=fun _=>h.q8_7 hd.1})
   ·intro L s w2 h hk hd hn K hK
    exact rs_extract rfl (h.e8 hd.1) rfl (hK {h with e10:=rF})
   ·intro L s w2 h hk hd hn K hK
    have s52:=h.e9 hd.1
    have s53:=h.e10 hd.2.1
    go_simp
    refine (tm_must ((sDiv (sx) ((sPow (r.2.2) (7)).1)).1) ((sDiv (sx) ((sPow (r.2.2) (7)).1)).2) _).mono ?_
    rintro e w3 ⟨⟨hz,rfl⟩ | ⟨hz,rfl⟩,hb⟩
    ·exact .inl ⟨_,rfl,hK {h with mu:=h.mu.step hb,kt_m:=fun a=>bk hb (h.kt_m a),kr_m:=fun a=>bk hb (h.kr_m a),e11:=rF,z11:=fun _=>hz,q11_7:=fun _=>h.q9_7 hd.1}⟩
    ·exact .inr ⟨_,rfl,congrArg brk (by rw [fstE_0 (h.q9_7 hd.1),fstE_1 (hz)]),(by rw [fstE_0 (h.q9_7 hd.1),fstE_1 (hz)];exact hz),h.mu.step hb⟩
   ·intro L s w2 h hk hd hn K hK
    have s44:=h.e1 hd.1
    have s54:=h.e11 hd.2.1
    go_simp
    refine (tm_add (tAt m 21) ((sDiv (sx) ((sPow (r.2.2) (7)).1)).1) _).mono ?_
    rintro e w3 ⟨rfl,hb⟩
    exact .inl ⟨_,rfl,hK {h with mu:=h.mu.step hb,kt_m:=fun a=>bk hb (h.kt_m a),kr_m:=fun a=>bk hb (h.kr_m a),e12:=rF,q12_11:=fun _=>h.z11 hd.2.1,q12_7:=fun _=>h.q11_7 hd.2.1}⟩
   ·intro L s w2 h hk hd hn K hK
    exact rs_extract rfl (h.e12 hd.1) rfl (hK {h with e13:=rF,q13_11:=fun _=>h.q12_11 hd.1,q13_7:=fun _=>h.q12_7 hd.1})
   ·intro L s w2 h hk hd hn K hK
    exact rs_extract rfl (h.e12 hd.1) rfl (hK {h with e14:=rF})
   ·intro L s w2 h hk hd hn K hK
    have s56:=h.e13 hd.1
    have s57:=h.e14 hd.2.1
    go_simp
    refine (tm_must ((sAdd (tAt m 21) ((sDiv (sx) ((sPow (r.2.2) (7)).1)).1)).1) ((sAdd (tAt m 21) ((sDiv (sx) ((sPow (r.2.2) (7)).1)).1)).2) _).mono ?_
    rintro e w3 ⟨⟨hz,rfl⟩ | ⟨hz,rfl⟩,hb⟩
    ·exact .inl ⟨_,rfl,hK {h with mu:=h.mu.step hb,kt_m:=fun a=>bk hb (h.kt_m a),kr_m:=fun a=>bk hb (h.kr_m a),e15:=rF,z15:=fun _=>hz}⟩
    ·exact .inr ⟨_,rfl,congrArg brk (by rw [fstE_0 (h.q13_7 hd.1),fstE_0 (h.q13_11 hd.1),fstE_1 (hz)]),(by rw [fstE_0 (h.q13_7 hd.1),fstE_0 (h.q13_11 hd.1),fstE_1 (hz)];exact hz),h.mu.step hb⟩
   ·intro L s w2 h hk hd hn K hK
    exact rs_field rfl (hk 6) (fl_model1 _ _) (hK {h with e16:=rF})
   ·intro L s w2 h hk hd hn K hK
    have kb:=h.kt_m hn
    exact rs_store rfl (h.e16 hd.1) (h.e15 hd.2.1) (sp_store (p:=21) kb (by have:=(HLM.out:m.length=22);omega) ((sAdd (tAt m 21) ((sDiv (sx) ((sPow (r.2.2) (7)).1)).1)).1)) (hK {h with mu:=h.mu.put (List.Mem.head _) _,kt_m:=nF,kr_m:=fun _=>pH kb,b17_1:=fun _=>hd.2.2.2.2.1})
  ·intro L s w2 h hk hl
   refine cA ?_ (hQ2 s w2 (⟨h.mu,h.kr_m (hl 17),h.z7 (hl 7),h.z11 (hl 11),h.z15 (hl 15)⟩))
   exact fq hk
  ·intro c s w2 hc
   exact hP2 _ _ _ hc
 rotate_left
 ·rintro e l'' w' ⟨rfl,hz,h2⟩
  have he:(thenE [] (tRight a) fun _=>tInverse a).2=fstE [(sPow (r.2.2) (7)).2,(sDiv (sx) ((sPow (r.2.2) (7)).1)).2,(sAdd (tAt m 21) ((sDiv (sx) ((sPow (r.2.2) (7)).1)).1)).2]:=by
   have h:=hz
   rw [HP6.out]
   first | exact thenE_fstC h fun _ h=>thenE_fstC h fun _ h=>thenE_fst1 h | exact fstE_one.symm | exact thenE_fstC h fun _ h=>thenE_fstC h fun _ h=>fstE_one.symm
  rw [←he] at hz ⊢
  exact ⟨rfl,.inr ⟨hz,rfl⟩,(by rw [←HBW.out];exact (HM.out.stepM h2 (by have:=HBW.out;have:=HLT.out;intro x hx;simp at hx;right;omega)).to0)⟩
 rintro s10 V ⟨h1,c_m,z1,z2,z3⟩
 simp only [mergeL]
 replace HA:=j1 h1 HA (by have:=HLT.out;omega)
 replace HR:=j1 h1 HR (by have:=HLT.out;omega)
 replace HC:=j1 h1 HC (by have:=HLT.out;omega)
 replace HH:=j1 h1 HH (by have:=HLT.out;omega)
 replace HBB:=j1 h1 HBB (by have:=HLT.out;omega)
 replace HEE:=j1 h1 HEE (by have:=HLT.out;omega)
 replace HMM:=lh c_m
 replace HSX:=j1 h1 HSX (by have:=HLT.out;omega)
 have HP7:=lh (show (thenE [] (tRight a) fun _=>tInverse a)=_ from by rw [HP6.out,thenE_ok z1,thenE_ok z2,thenE_ok z3])
 have HLQ:=lh (show (m.set 21 (sAdd (tAt m 21) (sDiv sx (sPow r.2.2 7).1).1).1).length=22 by rw [List.length_set];exact HLM.out)
 obtain ⟨q,hr0⟩:∃x,m.set 21 (sAdd (tAt m 21) (sDiv sx (sPow r.2.2 7).1).1).1=x:=⟨_,rfl⟩
 try rw [hr0] at HA
 try rw [hr0] at HR
 try rw [hr0] at HC
 try rw [hr0] at HH
 try rw [hr0] at HBB
 try rw [hr0] at HEE
 try rw [hr0] at HMM
 try rw [hr0] at HSX
 try rw [hr0] at HP7
 try rw [hr0] at HLQ
 replace HM:=mB HM h1 (by have:=HBW.out;have:=HLT.out;simp;omega)
 clear h1 c_m z1 z2 z3 hr0
 refine HK10.out _ _ ?_
 refine wsk fun K11 HK11=>?_
 refine wp_cut_mergeP (n8 (n8 (n8 (n8 (n8 (n8 (n8 (nn::nn::nn::nn::some 60::some 61::some 62::[])))))))) (fun _ w'=>Mut [b] V w'/\w'.heap[b]?=some (cobj 34 ((tBy sDiv q (tAt a 0)).1))/\(tBy sDiv q (tAt a 0)).2=0) (fun ch w'=>ch=brk (fstE [(tBy sDiv q (tAt a 0)).2])/\¬fstE [(tBy sDiv q (tAt a 0)).2]=0/\Mut [b] V w') ?_ ?_ ?_
 ·intro Q2 hQ2 hP2
  refine wH (fun ch w'=>ch=brk (fstE [(tBy sDiv q (tAt a 0)).2])/\¬fstE [(tBy sDiv q (tAt a 0)).2]=0/\Mut [b] V w') (Iw11 V A a b g0 r g1 g2 g3 m g4 sx g5 q) ?_ ?_ ?_ ?_
  ·exact ⟨Mut.start _ false _,fun _=>HR.out,nB,nB,nB,nB,nB⟩
  ·refine aC ?_ (aC ?_ (aC ?_ (aC ?_ aN)))
   ·intro L s w2 h hk hd hn K hK
    have kb:=kY h.mu HMM (by have:=HLT.out;omega)
    exact rs_load rfl (hk 6) (md_load kb HLQ.out) (hK {h with e0:=rF})
   ·intro L s w2 h hk hd hn K hK
    have kb:=kY h.mu HC (by have:=HLT.out;omega)
    exact rs_load rfl (hk 2) (sp_load (p:=0) kb (by simp)) (hK {h with e1:=rF})
   ·intro L s w2 h hk hd hn K hK
    have s60:=h.e0 hd.1
    have s61:=h.e1 hd.2.1
    go_simp
    refine (tay_by_Div q HLQ.out (tAt a 0) _).mono ?_
    rintro e w3 ⟨⟨hz,rfl⟩ | ⟨hz,rfl⟩,hb⟩
    ·exact .inl ⟨_,rfl,hK {h with mu:=h.mu.step hb,kt_r:=fun a=>bk hb (h.kt_r a),kr_r:=fun a=>bk hb (h.kr_r a),e2:=rF,z2:=fun _=>hz}⟩
    ·exact .inr ⟨_,rfl,congrArg brk (by rw [fstE_1 (hz)]),(by rw [fstE_1 (hz)];exact hz),h.mu.step hb⟩
   ·intro L s w2 h hk hd hn K hK
    have kb:=h.kt_r hn
    exact rs_store rfl (hk 1) (h.e2 hd.1) (md_store kb rfl _ ((tEach_len rfl (h.z2 hd.1)).trans HLQ.out)) (hK {h with mu:=h.mu.put (List.Mem.head _) _,kt_r:=nF,kr_r:=fun _=>pH kb})
  ·intro L s w2 h hk hl
   refine cA ?_ (hQ2 s w2 (⟨h.mu,h.kr_r (hl 3),h.z2 (hl 2)⟩))
   exact fq hk
  ·intro c s w2 hc
   exact hP2 _ _ _ hc
 rotate_left
 ·rintro e l'' w' ⟨rfl,hz,h2⟩
  have he:(thenE [] (tRight a) fun _=>tInverse a).2=fstE [(tBy sDiv q (tAt a 0)).2]:=by
   have h:=hz
   rw [HP7.out]
   first | exact thenE_fst1 h | exact fstE_one.symm | exact fstE_one.symm
  rw [←he] at hz ⊢
  exact ⟨rfl,.inr ⟨hz,rfl⟩,(by rw [←HBW.out];exact (HM.out.stepM h2 (by have:=HBW.out;have:=HLT.out;intro x hx;simp at hx;right;omega)).to0)⟩
 rintro s11 V ⟨h1,c_r,z1⟩
 simp only [mergeL]
 replace HA:=j1 h1 HA (by have:=HLT.out;omega)
 replace HR:=lh c_r
 replace HC:=j1 h1 HC (by have:=HLT.out;omega)
 replace HH:=j1 h1 HH (by have:=HLT.out;omega)
 replace HBB:=j1 h1 HBB (by have:=HLT.out;omega)
 replace HEE:=j1 h1 HEE (by have:=HLT.out;omega)
 replace HMM:=j1 h1 HMM (by have:=HLT.out;omega)
 replace HSX:=j1 h1 HSX (by have:=HLT.out;omega)
 have HLO:=lh (show (tBy sDiv q (tAt a 0)).1.length=22 from (tEach_len rfl z1).trans HLQ.out)
 obtain ⟨o,hr0⟩:∃x,(tBy sDiv q (tAt a 0)).1=x:=⟨_,rfl⟩
 try rw [hr0] at HA
 try rw [hr0] at HR
 try rw [hr0] at HC
 try rw [hr0] at HH
 try rw [hr0] at HBB
 try rw [hr0] at HEE
 try rw [hr0] at HMM
 try rw [hr0] at HSX
 try rw [hr0] at HP7
 try rw [hr0] at HLO
 replace HM:=mB HM h1 (by have:=HBW.out;have:=HLT.out;simp;omega)
 have HZ:=lh z1
 have HO:=lh hr0
 clear h1 c_r z1 hr0
 refine HK11.out _ _ ?_
 refine wp_ret ?_
 exact bodyPost_ret (v:=mval o) (res_model Tryz.results38 rfl (md_loadVar HR.out HLO.out)) rfl ⟨.inl ⟨by rw [HP7.out];exact HZ.out,by rw [HP7.out,HO.out]⟩,by rw [←HBW.out];exact HM.out.to0⟩
/-- The product of two models, or its first error. -/
def xMul (a:List (Int×Int)) (d:List (Int×Int)):List (Int×Int)×Int:=(orZ zeroM (thenE [] (tRight (a++d)) fun _=>tProduct a d),(thenE [] (tRight (a++d)) fun _=>tProduct a d).2)
theorem xMulLen (a:List (Int×Int)) (d:List (Int×Int)) (ha:a.length=22) (hd:d.length=22):(xMul a d).1.length=22:=by
 have _:=ha
 have _:=hd
 show (orZ zeroM (thenE [] (tRight (a++d)) fun _=>tProduct a d)).length=22
 unfold orZ
 by_cases h:(thenE [] (tRight (a++d)) fun _=>tProduct a d).2=0
 ·rw [if_pos h]
  exact (show (thenE [] (tRight (a++d)) fun _=>tProduct a d).2=0->_ from fun h=>thenE_ind (fun x=>x.length=22) h fun _ _ h=>tProduct_len h) h
 ·rw [if_neg h]
  rfl
structure EMul1 (V:World) (b:Nat) (a:List (Int×Int)) (d:List (Int×Int)) (L:Nat->Bool) (s:Nat->Value) (w:World):Prop where
 mu:Mut [b+1+1] V w
 kt_r:L 4=false->w.heap[b+1+1]?=some (cobj 34 zeroM)
 kr_r:L 4->w.heap[b+1+1]?=some (cobj 34 ((xMul a d).1))
 e0:L 0->s 6=.func (.func 26) #[] #[.pointer (some ⟨b,0,none⟩),.pointer (some ⟨b+1,0,none⟩)]
 e1:L 1->s 7=.tuple #[mval (xMul a d).1,.int .i64 (xMul a d).2]
 e2:L 2->s 8=mval ((xMul a d).1)
 e3:L 3->s 9=.int .i64 ((xMul a d).2)
 e5:L 5->s 5=.int .i64 ((xMul a d).2)
theorem taw_Mul (a:List (Int×Int)) (d:List (Int×Int)) (ha:a.length=22) (hd:d.length=22) (w:World) :
  Calls Tryz.prog 8 #[mval a,mval d] w fun e w'=>e=.returned (.tuple #[mval (xMul a d).1,.int .i64 (xMul a d).2])/\Below w.heap.size w w':=by
 have HLa:=lh ha
 have HLd:=lh hd
 clear ha hd
 go_enter Tryz.func8,Tryz.ntmps8
 refine wsk fun K0 HK0=>?_
 go_wp2_with fail
 rename_i xa csa hca xd csd hcd
 obtain rfl:(mc a).toArray=csa:=Value.agg.inj hca
 obtain rfl:(mc d).toArray=csd:=Value.agg.inj hcd
 clear hca hcd
 obtain ⟨b,hb⟩:∃b,w.heap.size=b:=⟨_,rfl⟩
 refine HK0.out _ _ ?_
 refine wp_world (fun V=>Mut [] w V/\V.heap[b]?=some (cobj 34 a)/\V.heap[b+1]?=some (cobj 34 d)/\V.heap[b+1+1]?=some (cobj 34 zeroM)) ?_
  (by
   rw [←hb]
   exact ⟨((((Mut.refl _ _).alloc _).alloc _).alloc _),heap_up _ (heap_up _ (heap_at (cobj 34 a) (by simp))),heap_up _ (heap_at (cobj 34 d) (by simp)),heap_at (cobj 34 zeroM) (by simp)⟩)
 rintro V ⟨hm,hHBa,hHBd,hHR⟩
 rw [hb]
 have HM:=lh hm
 have HBW:=lh hb
 have HLT:=lh trivial
 have HBa:=lh hHBa
 have HBd:=lh hHBd
 have HR:=lh hHR
 clear hm hHBa hHBd hHR hb HK0
 refine wsk fun K1 HK1=>?_
 refine wc (nn::nn::nn::nn::nn::some 5::some 6::some 7::some 8::some 9::[]) (fun s w'=>Mut [b+1+1] V w'/\w'.heap[b+1+1]?=some (cobj 34 ((xMul a d).1))/\s 5=.int .i64 ((xMul a d).2)) ?_ ?_
 ·intro Q2 hQ2
  refine wG (EMul1 V b a d) ?_ ?_ ?_
  ·exact ⟨Mut.start _ false _,fun _=>HR.out,nB,nB,nB,nB,nB,nB⟩
  ·refine aC ?_ (aC ?_ (aC ?_ (aC ?_ (aC ?_ (aC ?_ aN)))))
   ·intro L s w2 h hk hd hn K hK
    exact rs_makeFunc rfl (cs:=#[.pointer (some ⟨b,0,none⟩),.pointer (some ⟨b+1,0,none⟩)]) (by simp [evS_tmp,(hk 2),(hk 3)]) (hK {h with e0:=rF})
   ·intro L s w2 h hk hd hn K hK
    have s6:=h.e0 hd.1
    go_simp
    have kb0:=(h.mu.same _ (lt_of_block HBa.out) (notin1 (by omega))).trans HBa.out
    have kb1:=(h.mu.same _ (lt_of_block HBd.out) (notin1 (by omega))).trans HBd.out
    refine (tay_caught_m 26 #[.pointer (some ⟨b,0,none⟩),.pointer (some ⟨b+1,0,none⟩)] (thenE [] (tRight (a++d)) fun _=>tProduct a d) (fun h=>thenE_ind (fun x=>x.length=22) h fun _ _ h=>tProduct_len h) _ (fun W=>enters_of Tryz.func26 (by kernel_rfl) rfl _ W) (fun W hB=>tay_mul1 (b) (b+1) a d HLa.out HLd.out W ((hB.block _ (lt_of_block kb0)).trans kb0) ((hB.block _ (lt_of_block kb1)).trans kb1))).mono ?_
    rintro e w3 ⟨rfl,hb⟩
    exact .inl ⟨_,rfl,hK {h with mu:=h.mu.step hb,kt_r:=fun a=>bk hb (h.kt_r a),kr_r:=fun a=>bk hb (h.kr_r a),e1:=rF}⟩
   ·intro L s w2 h hk hd hn K hK
    exact rs_extract rfl (h.e1 hd.1) rfl (hK {h with e2:=rF})
   ·intro L s w2 h hk hd hn K hK
    exact rs_extract rfl (h.e1 hd.1) rfl (hK {h with e3:=rF})
   ·intro L s w2 h hk hd hn K hK
    have kb:=h.kt_r hn
    exact rs_store rfl (hk 4) (h.e2 hd.1) (md_store kb rfl _ (xMulLen a d HLa.out HLd.out)) (hK {h with mu:=h.mu.put (List.Mem.head _) _,kt_r:=nF,kr_r:=fun _=>pH kb})
   ·intro L s w2 h hk hd hn K hK
    exact rs_assign rfl (h.e3 hd.1) (hK {h with e5:=rF})
  ·intro L s w2 h hk hl
   refine cA ?_ (hQ2 s w2 (⟨h.mu,h.kr_r (hl 4),h.e5 (hl 5)⟩))
   exact fq hk
 rintro s1 V ⟨h1,c_r,k5⟩
 simp only [mergeL]
 rw [k5]
 replace HBa:=j1 h1 HBa (by have:=HLT.out;omega)
 replace HBd:=j1 h1 HBd (by have:=HLT.out;omega)
 replace HR:=lh c_r
 replace HM:=mB HM h1 (by have:=HBW.out;have:=HLT.out;simp;omega)
 clear h1 c_r k5
 refine HK1.out _ _ ?_
 have HLX:=lh (xMulLen a d HLa.out HLd.out)
 refine wp_ret ?_
 exact bodyPost_ret (v:=.tuple #[mval (xMul a d).1,.int .i64 (xMul a d).2]) (res_slot Tryz.results8 rfl rfl (md_loadVar HR.out HLX.out)) rfl ⟨rfl,by rw [←HBW.out];exact HM.out.to0⟩
/-- The bound of a model, or the first error. -/
def xBound (a:List (Int×Int)):(Int×Int)×Int:=(orZ ((0,0):Int×Int) (thenE (0,0) (tRight a) fun _=>tBound a),(thenE (0,0) (tRight a) fun _=>tBound a).2)
structure EBound1 (V:World) (b:Nat) (a:List (Int×Int)) (L:Nat->Bool) (s:Nat->Value) (w:World):Prop where
 mu:Mut [b+1] V w
 kt_r:L 4=false->w.heap[b+1]?=some (cobj 31 ([(0,0)]))
 kr_r:L 4->w.heap[b+1]?=some (cobj 31 ([(xBound a).1]))
 e0:L 0->s 4=.func (.func 33) #[] #[.pointer (some ⟨b,0,none⟩)]
 e1:L 1->s 5=.tuple #[sval (xBound a).1,.int .i64 (xBound a).2]
 e2:L 2->s 6=sval ((xBound a).1)
 e3:L 3->s 7=.int .i64 ((xBound a).2)
 e5:L 5->s 3=.int .i64 ((xBound a).2)
theorem taw_Bound (a:List (Int×Int)) (ha:a.length=22) (w:World) :
  Calls Tryz.prog 10 #[mval a] w fun e w'=>e=.returned (.tuple #[sval (xBound a).1,.int .i64 (xBound a).2])/\Below w.heap.size w w':=by
 have HLa:=lh ha
 clear ha
 go_enter Tryz.func10,Tryz.ntmps10
 refine wsk fun K0 HK0=>?_
 go_wp2_with fail
 rename_i xa csa hca
 obtain rfl:(mc a).toArray=csa:=Value.agg.inj hca
 clear hca
 obtain ⟨b,hb⟩:∃b,w.heap.size=b:=⟨_,rfl⟩
 refine HK0.out _ _ ?_
 refine wp_world (fun V=>Mut [] w V/\V.heap[b]?=some (cobj 34 a)/\V.heap[b+1]?=some (cobj 31 [(0,0)])) ?_
  (by
   rw [←hb]
   exact ⟨(((Mut.refl _ _).alloc _).alloc _),heap_up _ (heap_at (cobj 34 a) (by simp)),heap_at (cobj 31 [(0,0)]) (by simp)⟩)
 rintro V ⟨hm,hHBa,hHR⟩
 rw [hb]
 have HM:=lh hm
 have HBW:=lh hb
 have HLT:=lh trivial
 have HBa:=lh hHBa
 have HR:=lh hHR
 clear hm hHBa hHR hb HK0
 refine wsk fun K1 HK1=>?_
 refine wc (nn::nn::nn::some 3::some 4::some 5::some 6::some 7::[]) (fun s w'=>Mut [b+1] V w'/\w'.heap[b+1]?=some (cobj 31 ([(xBound a).1]))/\s 3=.int .i64 ((xBound a).2)) ?_ ?_
 ·intro Q2 hQ2
  refine wG (EBound1 V b a) ?_ ?_ ?_
  ·exact ⟨Mut.start _ false _,fun _=>HR.out,nB,nB,nB,nB,nB,nB⟩
  ·refine aC ?_ (aC ?_ (aC ?_ (aC ?_ (aC ?_ (aC ?_ aN)))))
   ·intro L s w2 h hk hd hn K hK
    exact rs_makeFunc rfl (cs:=#[.pointer (some ⟨b,0,none⟩)]) (by simp [evS_tmp,(hk 1)]) (hK {h with e0:=rF})
   ·intro L s w2 h hk hd hn K hK
    have s4:=h.e0 hd.1
    go_simp
    have kb0:=(h.mu.same _ (lt_of_block HBa.out) (notin1 (by omega))).trans HBa.out
    refine (tay_caught_s 33 #[.pointer (some ⟨b,0,none⟩)] (thenE (0,0) (tRight a) fun _=>tBound a) _ (fun W=>enters_of Tryz.func33 (by kernel_rfl) rfl _ W) (fun W hB=>tay_bound1 (b) a HLa.out W ((hB.block _ (lt_of_block kb0)).trans kb0))).mono ?_
    rintro e w3 ⟨rfl,hb⟩
    exact .inl ⟨_,rfl,hK {h with mu:=h.mu.step hb,kt_r:=fun a=>bk hb (h.kt_r a),kr_r:=fun a=>bk hb (h.kr_r a),e1:=rF}⟩
   ·intro L s w2 h hk hd hn K hK
    exact rs_extract rfl (h.e1 hd.1) rfl (hK {h with e2:=rF})
   ·intro L s w2 h hk hd hn K hK
    exact rs_extract rfl (h.e1 hd.1) rfl (hK {h with e3:=rF})
   ·intro L s w2 h hk hd hn K hK
    have kb:=h.kt_r hn
    exact rs_store rfl (hk 2) (h.e2 hd.1) (sp_store (p:=0) kb (by simp) _) (hK {h with mu:=h.mu.put (List.Mem.head _) _,kt_r:=nF,kr_r:=fun _=>pH kb})
   ·intro L s w2 h hk hd hn K hK
    exact rs_assign rfl (h.e3 hd.1) (hK {h with e5:=rF})
  ·intro L s w2 h hk hl
   refine cA ?_ (hQ2 s w2 (⟨h.mu,h.kr_r (hl 4),h.e5 (hl 5)⟩))
   exact fq hk
 rintro s1 V ⟨h1,c_r,k3⟩
 simp only [mergeL]
 rw [k3]
 replace HBa:=j1 h1 HBa (by have:=HLT.out;omega)
 replace HR:=lh c_r
 replace HM:=mB HM h1 (by have:=HBW.out;have:=HLT.out;simp;omega)
 clear h1 c_r k3
 refine HK1.out _ _ ?_
 refine wp_ret ?_
 exact bodyPost_ret (v:=.tuple #[sval (xBound a).1,.int .i64 (xBound a).2]) (res_slot Tryz.results10 rfl rfl (sp_loadVar HR.out)) rfl ⟨rfl,by rw [←HBW.out];exact HM.out.to0⟩
theorem tBy_len {f:Int×Int->Int×Int->(Int×Int)×Int} {a:List (Int×Int)} {s:Int×Int} (h:(tBy f a s).2=0):(tBy f a s).1.length=a.length:=tEach_len rfl h
theorem tInverse_len {a:List (Int×Int)} (_:a.length=22) (h:(tInverse a).2=0):(tInverse a).1.length=22:=by
 unfold tInverse at h ⊢
 by_cases h0:(tAt a 0).1<=0/\0<=(tAt a 0).2
 ·simp [h0] at h
 rw [if_neg h0] at h ⊢
 refine thenE_ind (fun x=>x.length=22) h fun r _ h=>?_
 by_cases h1:r.2.2.1<=0
 ·simp [h1] at h
 rw [if_neg h1] at h ⊢
 refine thenE_ind (fun x=>x.length=22) h fun m hm h=>?_
 have hl:m.length=22:=by
  have:=tSeries_len (h:=r.1) (l:=[4294967296,-4294967296,4294967296,-4294967296,4294967296]) (m:=zeroM.set 0 (-4294967296,-4294967296)) (by simp [zeroM]) (by rw [hm])
  rw [hm] at this
  exact this
 iterate 4 refine thenE_ind (fun x=>x.length=22) h fun _ _ h=>?_
 refine (tBy_len h).trans ?_
 simpa using hl
/-- The reciprocal of a model, or the first error. -/
def xInverse (a:List (Int×Int)):List (Int×Int)×Int:=(orZ zeroM (thenE [] (tRight a) fun _=>tInverse a),(thenE [] (tRight a) fun _=>tInverse a).2)
theorem xInverseLen (a:List (Int×Int)) (ha:a.length=22):(xInverse a).1.length=22:=by
 have _:=ha
 show (orZ zeroM (thenE [] (tRight a) fun _=>tInverse a)).length=22
 unfold orZ
 by_cases h:(thenE [] (tRight a) fun _=>tInverse a).2=0
 ·rw [if_pos h]
  exact (show (thenE [] (tRight a) fun _=>tInverse a).2=0->_ from fun h=>thenE_ind (fun x=>x.length=22) h fun _ _ h=>tInverse_len ha h) h
 ·rw [if_neg h]
  rfl
structure EInverse1 (V:World) (b:Nat) (a:List (Int×Int)) (L:Nat->Bool) (s:Nat->Value) (w:World):Prop where
 mu:Mut [b+1] V w
 kt_r:L 4=false->w.heap[b+1]?=some (cobj 34 zeroM)
 kr_r:L 4->w.heap[b+1]?=some (cobj 34 ((xInverse a).1))
 e0:L 0->s 4=.func (.func 38) #[] #[.pointer (some ⟨b,0,none⟩)]
 e1:L 1->s 5=.tuple #[mval (xInverse a).1,.int .i64 (xInverse a).2]
 e2:L 2->s 6=mval ((xInverse a).1)
 e3:L 3->s 7=.int .i64 ((xInverse a).2)
 e5:L 5->s 3=.int .i64 ((xInverse a).2)
theorem taw_Inverse (a:List (Int×Int)) (ha:a.length=22) (w:World) :
  Calls Tryz.prog 16 #[mval a] w fun e w'=>e=.returned (.tuple #[mval (xInverse a).1,.int .i64 (xInverse a).2])/\Below w.heap.size w w':=by
 have HLa:=lh ha
 clear ha
 go_enter Tryz.func16,Tryz.ntmps16
 refine wsk fun K0 HK0=>?_
 go_wp2_with fail
 rename_i xa csa hca
 obtain rfl:(mc a).toArray=csa:=Value.agg.inj hca
 clear hca
 obtain ⟨b,hb⟩:∃b,w.heap.size=b:=⟨_,rfl⟩
 refine HK0.out _ _ ?_
 refine wp_world (fun V=>Mut [] w V/\V.heap[b]?=some (cobj 34 a)/\V.heap[b+1]?=some (cobj 34 zeroM)) ?_
  (by
   rw [←hb]
   exact ⟨(((Mut.refl _ _).alloc _).alloc _),heap_up _ (heap_at (cobj 34 a) (by simp)),heap_at (cobj 34 zeroM) (by simp)⟩)
 rintro V ⟨hm,hHBa,hHR⟩
 rw [hb]
 have HM:=lh hm
 have HBW:=lh hb
 have HLT:=lh trivial
 have HBa:=lh hHBa
 have HR:=lh hHR
 clear hm hHBa hHR hb HK0
 refine wsk fun K1 HK1=>?_
 refine wc (nn::nn::nn::some 3::some 4::some 5::some 6::some 7::[]) (fun s w'=>Mut [b+1] V w'/\w'.heap[b+1]?=some (cobj 34 ((xInverse a).1))/\s 3=.int .i64 ((xInverse a).2)) ?_ ?_
 ·intro Q2 hQ2
  refine wG (EInverse1 V b a) ?_ ?_ ?_
  ·exact ⟨Mut.start _ false _,fun _=>HR.out,nB,nB,nB,nB,nB,nB⟩
  ·refine aC ?_ (aC ?_ (aC ?_ (aC ?_ (aC ?_ (aC ?_ aN)))))
   ·intro L s w2 h hk hd hn K hK
    exact rs_makeFunc rfl (cs:=#[.pointer (some ⟨b,0,none⟩)]) (by simp [evS_tmp,(hk 1)]) (hK {h with e0:=rF})
   ·intro L s w2 h hk hd hn K hK
    have s4:=h.e0 hd.1
    go_simp
    have kb0:=(h.mu.same _ (lt_of_block HBa.out) (notin1 (by omega))).trans HBa.out
    refine (tay_caught_m 38 #[.pointer (some ⟨b,0,none⟩)] (thenE [] (tRight a) fun _=>tInverse a) (fun h=>thenE_ind (fun x=>x.length=22) h fun _ _ h=>tInverse_len HLa.out h) _ (fun W=>enters_of Tryz.func38 (by kernel_rfl) rfl _ W) (fun W hB=>tay_inverse1 (b) a HLa.out W ((hB.block _ (lt_of_block kb0)).trans kb0))).mono ?_
    rintro e w3 ⟨rfl,hb⟩
    exact .inl ⟨_,rfl,hK {h with mu:=h.mu.step hb,kt_r:=fun a=>bk hb (h.kt_r a),kr_r:=fun a=>bk hb (h.kr_r a),e1:=rF}⟩
   ·intro L s w2 h hk hd hn K hK
    exact rs_extract rfl (h.e1 hd.1) rfl (hK {h with e2:=rF})
   ·intro L s w2 h hk hd hn K hK
    exact rs_extract rfl (h.e1 hd.1) rfl (hK {h with e3:=rF})
   ·intro L s w2 h hk hd hn K hK
    have kb:=h.kt_r hn
    exact rs_store rfl (hk 2) (h.e2 hd.1) (md_store kb rfl _ (xInverseLen a HLa.out)) (hK {h with mu:=h.mu.put (List.Mem.head _) _,kt_r:=nF,kr_r:=fun _=>pH kb})
   ·intro L s w2 h hk hd hn K hK
    exact rs_assign rfl (h.e3 hd.1) (hK {h with e5:=rF})
  ·intro L s w2 h hk hl
   refine cA ?_ (hQ2 s w2 (⟨h.mu,h.kr_r (hl 4),h.e5 (hl 5)⟩))
   exact fq hk
 rintro s1 V ⟨h1,c_r,k3⟩
 simp only [mergeL]
 rw [k3]
 replace HBa:=j1 h1 HBa (by have:=HLT.out;omega)
 replace HR:=lh c_r
 replace HM:=mB HM h1 (by have:=HBW.out;have:=HLT.out;simp;omega)
 clear h1 c_r k3
 refine HK1.out _ _ ?_
 have HLX:=lh (xInverseLen a HLa.out)
 refine wp_ret ?_
 exact bodyPost_ret (v:=.tuple #[mval (xInverse a).1,.int .i64 (xInverse a).2]) (res_slot Tryz.results16 rfl rfl (md_loadVar HR.out HLX.out)) rfl ⟨rfl,by rw [←HBW.out];exact HM.out.to0⟩
end Go.Proofs.YthhkcfpljgdnhaaGreat
