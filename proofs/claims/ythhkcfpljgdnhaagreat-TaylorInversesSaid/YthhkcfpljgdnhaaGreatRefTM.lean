/- The reference of layer 21: div, pow. Printed by wip/genSU.py. -/
import Derived.Test.YthhkcfpljgdnhaaGreatRefTE
import Derived.Test.YthhkcfpljgdnhaaGreatRefDS
import Derived.Test.YthhkcfpljgdnhaaGreatRefPX
import Derived.Test.YthhkcfpljgdnhaaGreatRefTJ
import Derived.Test.YthhkcfpljgdnhaaGreatTayPl
set_option maxRecDepth 100000
set_option maxHeartbeats 4000000
namespace Go.Proofs.YthhkcfpljgdnhaaGreat
open Go.RowKit Mnc
attribute [local go_sem] RunSP_value RunSP_skip RunSP_enter evS_tmp evS_const evS_global evS_func
structure Sodiv1 (V:World) (x:(Int×Int)) (y:(Int×Int)) (L:Nat->Bool) (s:Nat->Value) (w:World):Prop where
 mu:Mut [] V w
 e0:L 0->s 10=sval x
 e1:L 1->s 11=sval y
 e2:L 2->s 12=.tuple #[sval (sDiv x y).1,.int .i64 (sDiv x y).2]
 e3:L 3->s 9=.tuple #[sval (sDiv x y).1,.int .i64 (sDiv x y).2]
 e4:L 4->s 13=sval ((sDiv x y).1)
 e5:L 5->s 14=.int .i64 ((sDiv x y).2)
 al_u:L 6->∃g:Nat,s 7=.pointer (some ⟨g,0,none⟩)/\V.heap.size<=g/\g<w.heap.size/\(L 7=false->w.heap[g]?=some (cobj 31 [(0,0)]))/\(L 7=true->w.heap[g]?=some (cobj 31 [(sDiv x y).1]))
 e8:L 8->s 8=.int .i64 ((sDiv x y).2)
 b7_6:L 7->L 6
structure Sodiv2 (V:World) (A:Nat) (e:Int) (x:(Int×Int)) (y:(Int×Int)) (b:Nat) (L:Nat->Bool) (s:Nat->Value) (w:World):Prop where
 mu:Mut [b+1+1,A] V w
 kt_r:L 4=false->w.heap[b+1+1]?=some (cobj 31 ([(0,0)]))
 kr_r:L 4->w.heap[b+1+1]?=some (cobj 31 ([(gt e (sDiv x y)).1]))
 kg_c_0:L 3=false->w.heap[A]?=some (iobj 62 e)
 kg_c_1:L 3->w.heap[A]?=some (iobj 62 ((gt e (sDiv x y)).2))
 e0:L 0->s 15=.pointer (some ⟨A,0,none⟩)
 e1:L 1->s 16=sval ((sDiv x y).1)
 e2:L 2->s 17=.int .i64 ((sDiv x y).2)
 e3:L 3->s 18=sval ((gt e (sDiv x y)).1)
theorem rf_div (A:Nat) (e:Int) (x y:Int×Int) (w:World) (h:w.heap[A]?=some (iobj 62 e)) :
  Calls Tryz.prog 49 #[.pointer (some ⟨A,0,none⟩),sval x,sval y] w fun r w'=>r=.returned (sval (gt e (sDiv x y)).1)/\w'.heap[A]?=some (iobj 62 ((gt e (sDiv x y)).2))/\Mut [A] w w':=by
 have HE0:=lh h
 clear h
 rw [show sval x=.agg #[.int .i64 x.1,.int .i64 x.2] from rfl]
 rw [show sval y=.agg #[.int .i64 y.1,.int .i64 y.2] from rfl]
 go_enter Tryz.func49,Tryz.ntmps49
 refine wsk fun K0 HK0=>?_
 go_wp2_with fail
 obtain ⟨b,hb⟩:∃b,w.heap.size=b:=⟨_,rfl⟩
 have HLT:=lh (show A<b from hb ▸ lt_of_block HE0.out)
 refine HK0.out _ _ ?_
 refine wp_world (fun V=>Mut [A] w V/\V.heap[A]?=some (iobj 62 e)/\V.heap[b]?=some (cobj 31 [x])/\V.heap[b+1]?=some (cobj 31 [y])/\V.heap[b+1+1]?=some (cobj 31 [(0,0)])) ?_
  (by
   rw [←hb]
   exact ⟨((((Mut.refl _ _).alloc _).alloc _).alloc _),heap_up _ (heap_up _ (heap_up _ (HE0.out))),heap_up _ (heap_up _ (heap_at (cobj 31 [x]) (by simp))),heap_up _ (heap_at (cobj 31 [y]) (by simp)),heap_at (cobj 31 [(0,0)]) (by simp)⟩)
 rintro V ⟨hm,hHE,hHX,hHY,hHR⟩
 rw [hb]
 have HM:=lh hm
 have HBW:=lh hb
 have HE:=lh hHE
 have HX:=lh hHX
 have HY:=lh hHY
 have HR:=lh hHR
 clear hm hHE hHX hHY hHR hb HK0 HE0
 refine wsk fun K1 HK1=>?_
 refine wc (nn::nn::nn::nn::nn::nn::nn::some 7::some 8::some 9::some 10::some 11::some 12::some 13::some 14::nn::nn::nn::nn::[]) (fun s w'=>Mut [] V w'/\(∃g:Nat,s 7=.pointer (some ⟨g,0,none⟩)/\V.heap.size<=g/\w'.heap[g]?=some (cobj 31 [(sDiv x y).1]))/\s 8=.int .i64 ((sDiv x y).2)) ?_ ?_
 ·intro Q2 hQ2
  refine wG (Sodiv1 V x y) ?_ ?_ ?_
  ·exact ⟨Mut.start _ false _,nB,nB,nB,nB,nB,nB,nB,nB,nB⟩
  ·refine aC ?_ (aC ?_ (aC ?_ (aC ?_ (aC ?_ (aC ?_ (aC ?_ (aC ?_ (aC ?_ aN))))))))
   ·intro L s w2 h hk hd hn K hK
    have kb:=kZ h.mu HX
    exact rs_load rfl (hk 4) (sp_load (p:=0) kb (by simp)) (hK {h with e0:=rF})
   ·intro L s w2 h hk hd hn K hK
    have kb:=kZ h.mu HY
    exact rs_load rfl (hk 5) (sp_load (p:=0) kb (by simp)) (hK {h with e1:=rF})
   ·intro L s w2 h hk hd hn K hK
    have s10:=h.e0 hd.1
    have s11:=h.e1 hd.2.1
    go_simp
    refine (ref2_Div x y _).mono ?_
    rintro e w3 ⟨rfl,hb⟩
    exact .inl ⟨_,rfl,hK {h with mu:=h.mu.step hb,al_u:=fun a=>aS hb (h.al_u a),e2:=rF}⟩
   ·intro L s w2 h hk hd hn K hK
    exact rs_move rfl (h.e2 hd.1) (hK {h with e3:=rF})
   ·intro L s w2 h hk hd hn K hK
    exact rs_extract rfl (h.e3 hd.1) rfl (hK {h with e4:=rF})
   ·intro L s w2 h hk hd hn K hK
    exact rs_extract rfl (h.e3 hd.1) rfl (hK {h with e5:=rF})
   ·intro L s w2 h hk hd hn K hK
    go_simp
    exact hK {h with mu:=h.mu.alloc _,al_u:=fun _=>aW h.mu.size h.b7_6 hn,b7_6:=rF}
   ·intro L s w2 h hk hd hn K hK
    obtain ⟨g,hg0,hg1,hgl,hg2,hg3⟩:=h.al_u hd.1
    have kb:=hg2 hn
    exact rs_store rfl hg0 (h.e4 hd.2.1) (sp_store (p:=0) kb (by simp) _) (hK {h with mu:=h.mu.putNew hg1 _,al_u:=fun _=>aT hg0 hg1 hgl kb,b7_6:=fun _=>hd.1})
   ·intro L s w2 h hk hd hn K hK
    exact rs_assign rfl (h.e5 hd.1) (hK {h with e8:=rF})
  ·intro L s w2 h hk hl
   refine cA ?_ (hQ2 s w2 (⟨h.mu,aE (h.al_u (hl 6)) (hl 7),h.e8 (hl 8)⟩))
   exact fq hk
 rintro s1 V ⟨h1,⟨g0,k_u,g_u,c_u⟩,k8⟩
 simp only [mergeL]
 rw [k_u]
 rw [k8]
 replace HLT:=lh (show b<=g0/\A<g0/\b<g0/\b+1<g0/\b+1+1<g0/\A<b from by
  have hlt:=HLT.out
  have hbw:=HM.out.size
  have hbw2:=HBW.out
  have:=lt_of_block HE.out
  have:=lt_of_block HX.out
  have:=lt_of_block HY.out
  have:=lt_of_block HR.out
  omega)
 replace HE:=sm h1 HE
 replace HX:=sm h1 HX
 replace HY:=sm h1 HY
 replace HR:=sm h1 HR
 have HU:=lh c_u
 replace HM:=mE HM h1
 clear h1 k_u g_u c_u k8
 refine HK1.out _ _ ?_
 refine wsk fun K2 HK2=>?_
 refine wc (n8 (nn::nn::nn::nn::nn::nn::nn::some 15::some 16::some 17::some 18::[])) (fun _ w'=>Mut [b+1+1,A] V w'/\w'.heap[b+1+1]?=some (cobj 31 ([(gt e (sDiv x y)).1]))/\w'.heap[A]?=some (iobj 62 ((gt e (sDiv x y)).2))) ?_ ?_
 ·intro Q2 hQ2
  refine wG (Sodiv2 V A e x y b) ?_ ?_ ?_
  ·exact ⟨Mut.start _ false _,fun _=>HR.out,nB,fun _=>HE.out,nB,nB,nB,nB,nB⟩
  ·refine aC ?_ (aC ?_ (aC ?_ (aC ?_ (aC ?_ aN))))
   ·intro L s w2 h hk hd hn K hK
    exact rs_move rfl (hk 0) (hK {h with e0:=rF})
   ·intro L s w2 h hk hd hn K hK
    have kb:=kX h.mu HU (by have:=HLT.out;have:=lt_of_block HE.out;omega) (by have:=HLT.out;have:=lt_of_block HE.out;omega)
    exact rs_load rfl (hk 7) (sp_load (p:=0) kb (by simp)) (hK {h with e1:=rF})
   ·intro L s w2 h hk hd hn K hK
    exact rs_move rfl (hk 8) (hK {h with e2:=rF})
   ·intro L s w2 h hk hd hn K hK
    have s15:=h.e0 hd.1
    have s16:=h.e1 hd.2.1
    have s17:=h.e2 hd.2.2.1
    have kb:=h.kg_c_0 hn
    go_simp
    refine (rf_got _ e (sDiv x y).1 (sDiv x y).2 _ kb).mono ?_
    rintro e w3 ⟨rfl,hkr,hb⟩
    exact .inl ⟨_,rfl,hK {h with mu:=mS h.mu hb (List.Mem.tail _ (List.Mem.head _)),kt_r:=fun a=>hS hb (by have:=HLT.out;have:=lt_of_block HE.out;omega) (h.kt_r a),kr_r:=fun a=>hS hb (by have:=HLT.out;have:=lt_of_block HE.out;omega) (h.kr_r a),kg_c_0:=nF,kg_c_1:=fun _=>hkr,e3:=rF}⟩
   ·intro L s w2 h hk hd hn K hK
    have kb:=h.kt_r hn
    exact rs_store rfl (hk 6) (h.e3 hd.1) (sp_store (p:=0) kb (by simp) _) (hK {h with mu:=h.mu.put (List.Mem.head _) _,kg_c_0:=fun a=>pO (by have:=HLT.out;have:=lt_of_block HE.out;omega) (h.kg_c_0 a),kg_c_1:=fun a=>pO (by have:=HLT.out;have:=lt_of_block HE.out;omega) (h.kg_c_1 a),kt_r:=nF,kr_r:=fun _=>pH kb})
  ·intro L s w2 h hk hl
   refine cA ?_ (hQ2 s w2 (⟨h.mu,h.kr_r (hl 4),h.kg_c_1 (hl 3)⟩))
   exact fq hk
 rintro s2 V ⟨h1,c_r,c_c⟩
 simp only [mergeL]
 replace HE:=lh c_c
 replace HX:=j2 h1 HX (by have:=HLT.out;omega) (by have:=HLT.out;omega)
 replace HY:=j2 h1 HY (by have:=HLT.out;omega) (by have:=HLT.out;omega)
 replace HR:=lh c_r
 replace HU:=j2 h1 HU (by have:=HLT.out;omega) (by have:=HLT.out;omega)
 replace HM:=lh (HM.out.stepM h1 (by have:=HBW.out;have:=HLT.out;intro x hx;simp only [List.mem_cons,List.not_mem_nil,or_false] at hx;rcases hx with rfl | rfl<;>first | exact .inl (List.mem_singleton.2 rfl) | (right;omega)))
 clear h1 c_r c_c
 refine HK2.out _ _ ?_
 refine wp_ret ?_
 exact bodyPost_ret (v:=sval (gt e (sDiv x y)).1) (res_span Tryz.results49 rfl (sp_loadVar HR.out)) rfl ⟨rfl,HE.out,HM.out⟩
structure Sopow1 (V:World) (x:(Int×Int)) (n:Int) (L:Nat->Bool) (s:Nat->Value) (w:World):Prop where
 mu:Mut [] V w
 e0:L 0->s 10=sval x
 e1:L 1->s 11=.int .i64 n
 e2:L 2->s 12=.tuple #[sval (sPow x n).1,.int .i64 (sPow x n).2]
 e3:L 3->s 9=.tuple #[sval (sPow x n).1,.int .i64 (sPow x n).2]
 e4:L 4->s 13=sval ((sPow x n).1)
 e5:L 5->s 14=.int .i64 ((sPow x n).2)
 al_u:L 6->∃g:Nat,s 7=.pointer (some ⟨g,0,none⟩)/\V.heap.size<=g/\g<w.heap.size/\(L 7=false->w.heap[g]?=some (cobj 31 [(0,0)]))/\(L 7=true->w.heap[g]?=some (cobj 31 [(sPow x n).1]))
 e8:L 8->s 8=.int .i64 ((sPow x n).2)
 b7_6:L 7->L 6
structure Sopow2 (V:World) (A:Nat) (e:Int) (x:(Int×Int)) (n:Int) (b:Nat) (L:Nat->Bool) (s:Nat->Value) (w:World):Prop where
 mu:Mut [b+1,A] V w
 kt_r:L 4=false->w.heap[b+1]?=some (cobj 31 ([(0,0)]))
 kr_r:L 4->w.heap[b+1]?=some (cobj 31 ([(gt e (sPow x n)).1]))
 kg_c_0:L 3=false->w.heap[A]?=some (iobj 62 e)
 kg_c_1:L 3->w.heap[A]?=some (iobj 62 ((gt e (sPow x n)).2))
 e0:L 0->s 15=.pointer (some ⟨A,0,none⟩)
 e1:L 1->s 16=sval ((sPow x n).1)
 e2:L 2->s 17=.int .i64 ((sPow x n).2)
 e3:L 3->s 18=sval ((gt e (sPow x n)).1)
theorem rf_pow (A:Nat) (e:Int) (x:Int×Int) (n:Int) (w:World) (h:w.heap[A]?=some (iobj 62 e)) :
  Calls Tryz.prog 50 #[.pointer (some ⟨A,0,none⟩),sval x,.int .i64 n] w fun r w'=>r=.returned (sval (gt e (sPow x n)).1)/\w'.heap[A]?=some (iobj 62 ((gt e (sPow x n)).2))/\Mut [A] w w':=by
 have HE0:=lh h
 clear h
 rw [show sval x=.agg #[.int .i64 x.1,.int .i64 x.2] from rfl]
 go_enter Tryz.func50,Tryz.ntmps50
 refine wsk fun K0 HK0=>?_
 go_wp2_with fail
 obtain ⟨b,hb⟩:∃b,w.heap.size=b:=⟨_,rfl⟩
 have HLT:=lh (show A<b from hb ▸ lt_of_block HE0.out)
 refine HK0.out _ _ ?_
 refine wp_world (fun V=>Mut [A] w V/\V.heap[A]?=some (iobj 62 e)/\V.heap[b]?=some (cobj 31 [x])/\V.heap[b+1]?=some (cobj 31 [(0,0)])) ?_
  (by
   rw [←hb]
   exact ⟨(((Mut.refl _ _).alloc _).alloc _),heap_up _ (heap_up _ (HE0.out)),heap_up _ (heap_at (cobj 31 [x]) (by simp)),heap_at (cobj 31 [(0,0)]) (by simp)⟩)
 rintro V ⟨hm,hHE,hHX,hHR⟩
 rw [hb]
 have HM:=lh hm
 have HBW:=lh hb
 have HE:=lh hHE
 have HX:=lh hHX
 have HR:=lh hHR
 clear hm hHE hHX hHR hb HK0 HE0
 refine wsk fun K1 HK1=>?_
 refine wc (nn::nn::nn::nn::nn::nn::nn::some 7::some 8::some 9::some 10::some 11::some 12::some 13::some 14::nn::nn::nn::nn::[]) (fun s w'=>Mut [] V w'/\(∃g:Nat,s 7=.pointer (some ⟨g,0,none⟩)/\V.heap.size<=g/\w'.heap[g]?=some (cobj 31 [(sPow x n).1]))/\s 8=.int .i64 ((sPow x n).2)) ?_ ?_
 ·intro Q2 hQ2
  refine wG (Sopow1 V x n) ?_ ?_ ?_
  ·exact ⟨Mut.start _ false _,nB,nB,nB,nB,nB,nB,nB,nB,nB⟩
  ·refine aC ?_ (aC ?_ (aC ?_ (aC ?_ (aC ?_ (aC ?_ (aC ?_ (aC ?_ (aC ?_ aN))))))))
   ·intro L s w2 h hk hd hn K hK
    have kb:=kZ h.mu HX
    exact rs_load rfl (hk 4) (sp_load (p:=0) kb (by simp)) (hK {h with e0:=rF})
   ·intro L s w2 h hk hd hn K hK
    exact rs_move rfl (hk 2) (hK {h with e1:=rF})
   ·intro L s w2 h hk hd hn K hK
    have s10:=h.e0 hd.1
    have s11:=h.e1 hd.2.1
    go_simp
    refine (ref2_Pow x n _).mono ?_
    rintro e w3 ⟨rfl,hb⟩
    exact .inl ⟨_,rfl,hK {h with mu:=h.mu.step hb,al_u:=fun a=>aS hb (h.al_u a),e2:=rF}⟩
   ·intro L s w2 h hk hd hn K hK
    exact rs_move rfl (h.e2 hd.1) (hK {h with e3:=rF})
   ·intro L s w2 h hk hd hn K hK
    exact rs_extract rfl (h.e3 hd.1) rfl (hK {h with e4:=rF})
   ·intro L s w2 h hk hd hn K hK
    exact rs_extract rfl (h.e3 hd.1) rfl (hK {h with e5:=rF})
   ·intro L s w2 h hk hd hn K hK
    go_simp
    exact hK {h with mu:=h.mu.alloc _,al_u:=fun _=>aW h.mu.size h.b7_6 hn,b7_6:=rF}
   ·intro L s w2 h hk hd hn K hK
    obtain ⟨g,hg0,hg1,hgl,hg2,hg3⟩:=h.al_u hd.1
    have kb:=hg2 hn
    exact rs_store rfl hg0 (h.e4 hd.2.1) (sp_store (p:=0) kb (by simp) _) (hK {h with mu:=h.mu.putNew hg1 _,al_u:=fun _=>aT hg0 hg1 hgl kb,b7_6:=fun _=>hd.1})
   ·intro L s w2 h hk hd hn K hK
    exact rs_assign rfl (h.e5 hd.1) (hK {h with e8:=rF})
  ·intro L s w2 h hk hl
   refine cA ?_ (hQ2 s w2 (⟨h.mu,aE (h.al_u (hl 6)) (hl 7),h.e8 (hl 8)⟩))
   exact fq hk
 rintro s1 V ⟨h1,⟨g0,k_u,g_u,c_u⟩,k8⟩
 simp only [mergeL]
 rw [k_u]
 rw [k8]
 replace HLT:=lh (show b<=g0/\A<g0/\b<g0/\b+1<g0/\A<b from by
  have hlt:=HLT.out
  have hbw:=HM.out.size
  have hbw2:=HBW.out
  have:=lt_of_block HE.out
  have:=lt_of_block HX.out
  have:=lt_of_block HR.out
  omega)
 replace HE:=sm h1 HE
 replace HX:=sm h1 HX
 replace HR:=sm h1 HR
 have HU:=lh c_u
 replace HM:=mE HM h1
 clear h1 k_u g_u c_u k8
 refine HK1.out _ _ ?_
 refine wsk fun K2 HK2=>?_
 refine wc (n8 (nn::nn::nn::nn::nn::nn::nn::some 15::some 16::some 17::some 18::[])) (fun _ w'=>Mut [b+1,A] V w'/\w'.heap[b+1]?=some (cobj 31 ([(gt e (sPow x n)).1]))/\w'.heap[A]?=some (iobj 62 ((gt e (sPow x n)).2))) ?_ ?_
 ·intro Q2 hQ2
  refine wG (Sopow2 V A e x n b) ?_ ?_ ?_
  ·exact ⟨Mut.start _ false _,fun _=>HR.out,nB,fun _=>HE.out,nB,nB,nB,nB,nB⟩
  ·refine aC ?_ (aC ?_ (aC ?_ (aC ?_ (aC ?_ aN))))
   ·intro L s w2 h hk hd hn K hK
    exact rs_move rfl (hk 0) (hK {h with e0:=rF})
   ·intro L s w2 h hk hd hn K hK
    have kb:=kX h.mu HU (by have:=HLT.out;have:=lt_of_block HE.out;omega) (by have:=HLT.out;have:=lt_of_block HE.out;omega)
    exact rs_load rfl (hk 7) (sp_load (p:=0) kb (by simp)) (hK {h with e1:=rF})
   ·intro L s w2 h hk hd hn K hK
    exact rs_move rfl (hk 8) (hK {h with e2:=rF})
   ·intro L s w2 h hk hd hn K hK
    have s15:=h.e0 hd.1
    have s16:=h.e1 hd.2.1
    have s17:=h.e2 hd.2.2.1
    have kb:=h.kg_c_0 hn
    go_simp
    refine (rf_got _ e (sPow x n).1 (sPow x n).2 _ kb).mono ?_
    rintro e w3 ⟨rfl,hkr,hb⟩
    exact .inl ⟨_,rfl,hK {h with mu:=mS h.mu hb (List.Mem.tail _ (List.Mem.head _)),kt_r:=fun a=>hS hb (by have:=HLT.out;have:=lt_of_block HE.out;omega) (h.kt_r a),kr_r:=fun a=>hS hb (by have:=HLT.out;have:=lt_of_block HE.out;omega) (h.kr_r a),kg_c_0:=nF,kg_c_1:=fun _=>hkr,e3:=rF}⟩
   ·intro L s w2 h hk hd hn K hK
    have kb:=h.kt_r hn
    exact rs_store rfl (hk 6) (h.e3 hd.1) (sp_store (p:=0) kb (by simp) _) (hK {h with mu:=h.mu.put (List.Mem.head _) _,kg_c_0:=fun a=>pO (by have:=HLT.out;have:=lt_of_block HE.out;omega) (h.kg_c_0 a),kg_c_1:=fun a=>pO (by have:=HLT.out;have:=lt_of_block HE.out;omega) (h.kg_c_1 a),kt_r:=nF,kr_r:=fun _=>pH kb})
  ·intro L s w2 h hk hl
   refine cA ?_ (hQ2 s w2 (⟨h.mu,h.kr_r (hl 4),h.kg_c_1 (hl 3)⟩))
   exact fq hk
 rintro s2 V ⟨h1,c_r,c_c⟩
 simp only [mergeL]
 replace HE:=lh c_c
 replace HX:=j2 h1 HX (by have:=HLT.out;omega) (by have:=HLT.out;omega)
 replace HR:=lh c_r
 replace HU:=j2 h1 HU (by have:=HLT.out;omega) (by have:=HLT.out;omega)
 replace HM:=lh (HM.out.stepM h1 (by have:=HBW.out;have:=HLT.out;intro x hx;simp only [List.mem_cons,List.not_mem_nil,or_false] at hx;rcases hx with rfl | rfl<;>first | exact .inl (List.mem_singleton.2 rfl) | (right;omega)))
 clear h1 c_r c_c
 refine HK2.out _ _ ?_
 refine wp_ret ?_
 exact bodyPost_ret (v:=sval (gt e (sPow x n)).1) (res_span Tryz.results50 rfl (sp_loadVar HR.out)) rfl ⟨rfl,HE.out,HM.out⟩
structure Zs5 (V:World) (A:Nat) (a:List (Int×Int)) (y:(Int×Int)) (b:Nat) (g0:Nat) (S:List (Int×Int)) (ee:Int) (p:Nat) (L:Nat->Bool) (s:Nat->Value) (w:World):Prop where
 mu:Mut [g0,A] V w
 kt_o:L 10=false->w.heap[g0]?=some (cobj 34 S)
 kr_o:L 10->w.heap[g0]?=some (cobj 34 (S.set p (gt ee (sMul (tAt a p) y)).1))
 kg_c_0:L 7=false->w.heap[A]?=some (iobj 62 ee)
 kg_c_1:L 7->w.heap[A]?=some (iobj 62 ((gt ee (sMul (tAt a p) y)).2))
 e0:L 0->s 13=.int .i64 ((p:Nat):Int)
 e1:L 1->s 14=.pointer (some ⟨A,0,none⟩)
 e2:L 2->s 15=.int .i64 ((p:Nat):Int)
 e3:L 3->s 16=.pointer (some ⟨b,0,none⟩)
 e4:L 4->s 17=.pointer (some ⟨b,p*2,none⟩)
 e5:L 5->s 18=sval (tAt a p)
 e6:L 6->s 19=sval y
 e7:L 7->s 20=sval ((gt ee (sMul (tAt a p) y)).1)
 e8:L 8->s 21=.pointer (some ⟨g0,0,none⟩)
 e9:L 9->s 22=.pointer (some ⟨g0,p*2,none⟩)
structure Zs6 (V:World) (A:Nat) (a:List (Int×Int)) (y:(Int×Int)) (b:Nat) (g0:Nat) (S:List (Int×Int)) (ee:Int) (L:Nat->Bool) (s:Nat->Value) (w:World):Prop where
 mu:Mut [g0,A] V w
 kt_o:L 6=false->w.heap[g0]?=some (cobj 34 S)
 kr_o:L 6->w.heap[g0]?=some (cobj 34 (S.set 21 (gt ee (sMul (tAt a 21) y)).1))
 kg_c_0:L 4=false->w.heap[A]?=some (iobj 62 ee)
 kg_c_1:L 4->w.heap[A]?=some (iobj 62 ((gt ee (sMul (tAt a 21) y)).2))
 e0:L 0->s 23=.pointer (some ⟨A,0,none⟩)
 e1:L 1->s 24=.pointer (some ⟨b,21*2,none⟩)
 e2:L 2->s 25=sval (tAt a 21)
 e3:L 3->s 26=sval y
 e4:L 4->s 27=sval ((gt ee (sMul (tAt a 21) y)).1)
 e5:L 5->s 28=.pointer (some ⟨g0,21*2,none⟩)
structure Zs7 (V:World) (b:Nat) (T:RS) (L:Nat->Bool) (s:Nat->Value) (w:World):Prop where
 mu:Mut [b+1+1] V w
 kt_r:L 1=false->w.heap[b+1+1]?=some (cobj 34 zeroM)
 kr_r:L 1->w.heap[b+1+1]?=some (cobj 34 T.1)
 e0:L 0->s 29=mval T.1
theorem rf_scaled (A:Nat) (e:Int) (a:List (Int×Int)) (y:Int×Int) (ha:a.length=22) (w:World) (h:w.heap[A]?=some (iobj 62 e)) :
  Calls Tryz.prog 58 #[.pointer (some ⟨A,0,none⟩),mval a,sval y] w fun r w'=>r=.returned (mval (rScaled a y e).1)/\w'.heap[A]?=some (iobj 62 ((rScaled a y e).2))/\Mut [A] w w':=by
 have HE0:=lh h
 clear h
 have HL:=lh ha
 clear ha
 rw [show sval y=.agg #[.int .i64 y.1,.int .i64 y.2] from rfl]
 obtain ⟨T,hT⟩:∃T,rScaled a y e=T:=⟨_,rfl⟩
 have HLT3:=lh (show T.1.length=22 by rw [←hT,rScaled,rEachN_len];rfl)
 have HTT:=lh hT
 rw [hT]
 clear hT
 go_enter Tryz.func58,Tryz.ntmps58
 refine wsk fun K0 HK0=>?_
 go_wp2_with fail
 rename_i x1 cs1 hc1
 obtain rfl:(mc a).toArray=cs1:=Value.agg.inj hc1
 clear hc1
 obtain ⟨b,hb⟩:∃b,w.heap.size=b:=⟨_,rfl⟩
 have HLT:=lh (show A<b from hb ▸ lt_of_block HE0.out)
 refine HK0.out _ _ ?_
 refine wp_world (fun V=>Mut [A] w V/\V.heap[A]?=some (iobj 62 e)/\V.heap[b]?=some (cobj 34 a)/\V.heap[b+1]?=some (cobj 31 [y])/\V.heap[b+1+1]?=some (cobj 34 zeroM)) ?_
  (by
   rw [←hb]
   exact ⟨((((Mut.refl _ _).alloc _).alloc _).alloc _),heap_up _ (heap_up _ (heap_up _ (HE0.out))),heap_up _ (heap_up _ (heap_at (cobj 34 a) (by simp))),heap_up _ (heap_at (cobj 31 [y]) (by simp)),heap_at (cobj 34 zeroM) (by simp)⟩)
 rintro V ⟨hm,hHE,hHA,hHX,hHR⟩
 rw [hb]
 have HM:=lh hm
 have HBW:=lh hb
 have HE:=lh hHE
 have HA:=lh hHA
 have HX:=lh hHX
 have HR:=lh hHR
 clear hm hHE hHA hHX hHR hb HK0 HE0
 refine wsk fun K1 HK1=>?_
 go_wp2_with fail
 refine HK1.out _ _ ?_
 obtain ⟨g0,hg⟩:∃g,V.heap.size=g:=⟨_,rfl⟩
 refine wp_world (fun V2=>Mut [A] w V2/\b<=g0/\V2.heap[A]?=some (iobj 62 e)/\V2.heap[b]?=some (cobj 34 a)/\V2.heap[b+1]?=some (cobj 31 ([y]))/\V2.heap[b+1+1]?=some (cobj 34 zeroM)/\V2.heap[g0]?=some (cobj 34 zeroM)) ?_
  (by
   rw [←hg]
   exact ⟨HM.out.alloc _,by have:=HM.out.size;have:=HBW.out;omega,heap_up _ HE.out,heap_up _ HA.out,heap_up _ HX.out,heap_up _ HR.out,heap_at (cobj 34 zeroM) (by simp)⟩)
 replace HLT:=lh (show b<=g0/\A<g0/\b<g0/\b+1<g0/\b+1+1<g0/\A<b from by
  have hlt:=HLT.out
  have hbw:=HM.out.size
  have hbw2:=HBW.out
  have:=lt_of_block HE.out
  have:=lt_of_block HA.out
  have:=lt_of_block HX.out
  have:=lt_of_block HR.out
  omega)
 rintro V2 ⟨hm,-,qHE,qHA,qHX,qHR,hnew⟩
 rw [hg]
 replace HM:=lh hm
 replace HE:=lh qHE
 replace HA:=lh qHA
 replace HX:=lh qHX
 replace HR:=lh qHR
 have HO:=lh hnew
 clear hm hnew hg qHE qHA qHX qHR HK1
 clear V
 rename World=>V
 refine wsk fun KL HKL=>?_
 go_wp2_with fail
 go_loopw [8] (fun x wr=>∃p:Nat,0<=p/\p<=21/\x=.int .i64 p/\Hid (∃(S:List (Int×Int)) (ee:Int),Mut [g0,A] V wr/\wr.heap[A]?=some (iobj 62 ee)/\wr.heap[g0]?=some (cobj 34 S)/\S.length=22/\rEachN sMul a y (22-p) p (S,ee)=T)) (fun x _=>21-(intOf x).toNat)
 case atStart=>exact ⟨0,by omega,by omega,rfl,lh ⟨zeroM,e,Mut.refl _ _,HE.out,HO.out,rfl,HTT.out⟩⟩
 case round =>
  obtain ⟨p,hp0,hp,rfl,HG⟩:=hrel
  obtain ⟨S,ee,hmu,hE,hO,hls,hq⟩:=HG.out
  have HQ:=lh hq
  have HLS:=lh hls
  clear hq HG hls hp0
  have hm2:=HM.out.stepM hmu (by have:=HBW.out;have:=HLT.out;intro x hx;simp only [List.mem_cons,List.not_mem_nil,or_false] at hx;rcases hx with rfl | rfl<;>first | exact .inl (List.mem_singleton.2 rfl) | (right;omega))
  refine wp_world (fun U=>Mut [A] w U/\Mut [g0,A] V U/\U.heap[A]?=some (iobj 62 ee)/\U.heap[b]?=some (cobj 34 a)/\U.heap[b+1]?=some (cobj 31 ([y]))/\U.heap[b+1+1]?=some (cobj 34 zeroM)/\U.heap[g0]?=some (cobj 34 S)) ?_ ⟨hm2,hmu,hE,((hmu.same _ (lt_of_block HA.out) (notin2 (by have:=HLT.out;omega) (by have:=HLT.out;omega))).trans HA.out),((hmu.same _ (lt_of_block HX.out) (notin2 (by have:=HLT.out;omega) (by have:=HLT.out;omega))).trans HX.out),((hmu.same _ (lt_of_block HR.out) (notin2 (by have:=HLT.out;omega) (by have:=HLT.out;omega))).trans HR.out),hO⟩
  clear hm2 HM HE HA HX HR HO hmu hE hO
  rintro V ⟨q1,q2,qHE,qHA,qHX,qHR,qHO⟩
  have HM:=lh q1
  have HGM:=lh q2
  have HE:=lh qHE
  have HA:=lh qHA
  have HX:=lh qHX
  have HR:=lh qHR
  have HO:=lh qHO
  clear q1 q2 qHE qHA qHX qHR qHO
  rcases Nat.lt_or_ge p 21 with hk | hk
  ·have t1:decide ((p:Int)<21)=true:=by simp;omega
   have HPL:=lh hk
   have p0:(0:Int)<=(p:Int):=by omega
   have p9:(p:Int)<21:=by omega
   rw [show 22-p=(22-(p+1))+1 by omega] at HQ
   clear hk hp
   refine wsk fun KP HKP=>?_
   go_wp2_with fail
   refine HKP.out _ _ ?_
   refine wsk fun KQ HKQ=>?_
   refine wp_block ?_
   refine wc (n8 (nn::nn::nn::nn::nn::some 13::some 14::some 15::some 16::some 17::some 18::some 19::some 20::some 21::some 22::nn::nn::nn::nn::nn::nn::nn::[])) (fun _ w'=>Mut [g0,A] V w'/\w'.heap[g0]?=some (cobj 34 (S.set p (gt ee (sMul (tAt a p) y)).1))/\w'.heap[A]?=some (iobj 62 ((gt ee (sMul (tAt a p) y)).2))) ?_ ?_
   ·intro Q2 hQ2
    refine wG (Zs5 V A a y b g0 S ee p) ?_ ?_ ?_
    ·exact ⟨Mut.start _ true _,fun _=>HO.out,nB,fun _=>HE.out,nB,nB,nB,nB,nB,nB,nB,nB,nB,nB,nB⟩
    ·refine aC ?_ (aC ?_ (aC ?_ (aC ?_ (aC ?_ (aC ?_ (aC ?_ (aC ?_ (aC ?_ (aC ?_ (aC ?_ aN))))))))))
     ·intro L s w2 h hk hd hn K hK
      exact rs_move rfl (hk 8) (hK {h with e0:=rF})
     ·intro L s w2 h hk hd hn K hK
      exact rs_move rfl (hk 0) (hK {h with e1:=rF})
     ·intro L s w2 h hk hd hn K hK
      exact rs_move rfl (hk 8) (hK {h with e2:=rF})
     ·intro L s w2 h hk hd hn K hK
      exact rs_field rfl (hk 4) (fl_model0 _ _) (hK {h with e3:=rF})
     ·intro L s w2 h hk hd hn K hK
      exact rs_index rfl (h.e3 hd.1) (h.e2 hd.2.1) (ix_model _ p HPL.out) (hK {h with e4:=rF})
     ·intro L s w2 h hk hd hn K hK
      have kb:=kX h.mu HA (by have:=HLT.out;have:=lt_of_block HE.out;omega) (by have:=HLT.out;have:=lt_of_block HE.out;omega)
      exact rs_load rfl (h.e4 hd.1) (sp_load (p:=p) kb (by have:=HL.out;have:=HPL.out;omega)) (hK {h with e5:=rF})
     ·intro L s w2 h hk hd hn K hK
      have kb:=kX h.mu HX (by have:=HLT.out;have:=lt_of_block HE.out;omega) (by have:=HLT.out;have:=lt_of_block HE.out;omega)
      exact rs_load rfl (hk 5) (sp_load (p:=0) kb (by simp)) (hK {h with e6:=rF})
     ·intro L s w2 h hk hd hn K hK
      have s14:=h.e1 hd.1
      have s18:=h.e5 hd.2.1
      have s19:=h.e6 hd.2.2.1
      have kb:=h.kg_c_0 hn
      go_simp
      refine (rf_mul _ ee (tAt a p) y _ kb).mono ?_
      rintro e w3 ⟨rfl,hkr,hb⟩
      exact .inl ⟨_,rfl,hK {h with mu:=mS h.mu hb (List.Mem.tail _ (List.Mem.head _)),kt_o:=fun a=>hS hb (by have:=HLT.out;have:=lt_of_block HE.out;omega) (h.kt_o a),kr_o:=fun a=>hS hb (by have:=HLT.out;have:=lt_of_block HE.out;omega) (h.kr_o a),kg_c_0:=nF,kg_c_1:=fun _=>hkr,e7:=rF}⟩
     ·intro L s w2 h hk hd hn K hK
      exact rs_field rfl (hk 7) (fl_model0 _ _) (hK {h with e8:=rF})
     ·intro L s w2 h hk hd hn K hK
      exact rs_index rfl (h.e8 hd.1) (h.e0 hd.2.1) (ix_model _ p HPL.out) (hK {h with e9:=rF})
     ·intro L s w2 h hk hd hn K hK
      have kb:=h.kt_o hn
      exact rs_store rfl (h.e9 hd.1) (h.e7 hd.2.1) (sp_store (p:=p) kb (by have:=HLS.out;have:=HPL.out;omega) _) (hK {h with mu:=h.mu.put (List.Mem.head _) _,kg_c_0:=fun a=>pO (by have:=HLT.out;have:=lt_of_block HE.out;omega) (h.kg_c_0 a),kg_c_1:=fun a=>pO (by have:=HLT.out;have:=lt_of_block HE.out;omega) (h.kg_c_1 a),kt_o:=nF,kr_o:=fun _=>pH kb})
    ·intro L s w2 h hk hl
     refine cA ?_ (hQ2 s w2 (⟨h.mu,h.kr_o (hl 10),h.kg_c_1 (hl 7)⟩))
     exact fq hk
   rintro s5 V ⟨h1,c_o,c_c⟩
   simp only [mergeL]
   replace HE:=lh c_c
   replace HA:=j2 h1 HA (by have:=HLT.out;omega) (by have:=HLT.out;omega)
   replace HX:=j2 h1 HX (by have:=HLT.out;omega) (by have:=HLT.out;omega)
   replace HR:=j2 h1 HR (by have:=HLT.out;omega) (by have:=HLT.out;omega)
   replace HO:=lh c_o
   replace HM:=lh (HM.out.stepM h1 (by have:=HBW.out;have:=HLT.out;intro x hx;simp only [List.mem_cons,List.not_mem_nil,or_false] at hx;rcases hx with rfl | rfl<;>first | exact .inl (List.mem_singleton.2 rfl) | (right;omega)))
   have HFX:=lh (HGM.out.trans h1)
   clear h1 c_o c_c
   go_wp2_with fail
   refine HKQ.out _ _ ?_
   go_wp2_with fail
   go_roundw
   case rel=>first | exact ⟨p+1,by omega,by have:=HPL.out;omega,by go_num,lh ⟨_,_,HFX.out,HE.out,HO.out,by rw [List.length_set];exact HLS.out,HQ.out⟩⟩ | ((repeat apply Exists.intro);exact ⟨⟨p+1,by omega,by have:=HPL.out;omega,by go_num,lh ⟨_,_,HFX.out,HE.out,HO.out,by rw [List.length_set];exact HLS.out,HQ.out⟩⟩,rfl⟩)
   case measure=>simp [intOf];have:=HPL.out;omega
  ·obtain rfl:p=21:=by omega
   go_wp2_with fail
   refine HKL.out _ _ ?_
   clear hk hp
   refine wsk fun K6 HK6=>?_
   refine wc (n8 (n8 (nn::nn::nn::nn::nn::nn::nn::some 23::some 24::some 25::some 26::some 27::some 28::nn::[]))) (fun _ w'=>Mut [g0,A] V w'/\w'.heap[g0]?=some (cobj 34 (S.set 21 (gt ee (sMul (tAt a 21) y)).1))/\w'.heap[A]?=some (iobj 62 ((gt ee (sMul (tAt a 21) y)).2))) ?_ ?_
   ·intro Q2 hQ2
    refine wG (Zs6 V A a y b g0 S ee) ?_ ?_ ?_
    ·exact ⟨Mut.start _ false _,fun _=>HO.out,nB,fun _=>HE.out,nB,nB,nB,nB,nB,nB,nB⟩
    ·refine aC ?_ (aC ?_ (aC ?_ (aC ?_ (aC ?_ (aC ?_ (aC ?_ aN))))))
     ·intro L s w2 h hk hd hn K hK
      exact rs_move rfl (hk 0) (hK {h with e0:=rF})
     ·intro L s w2 h hk hd hn K hK
      exact rs_field rfl (hk 4) (fl_model1 _ _) (hK {h with e1:=rF})
     ·intro L s w2 h hk hd hn K hK
      have kb:=kX h.mu HA (by have:=HLT.out;have:=lt_of_block HE.out;omega) (by have:=HLT.out;have:=lt_of_block HE.out;omega)
      exact rs_load rfl (h.e1 hd.1) (sp_load (p:=21) kb (by have:=HL.out;omega)) (hK {h with e2:=rF})
     ·intro L s w2 h hk hd hn K hK
      have kb:=kX h.mu HX (by have:=HLT.out;have:=lt_of_block HE.out;omega) (by have:=HLT.out;have:=lt_of_block HE.out;omega)
      exact rs_load rfl (hk 5) (sp_load (p:=0) kb (by simp)) (hK {h with e3:=rF})
     ·intro L s w2 h hk hd hn K hK
      have s23:=h.e0 hd.1
      have s25:=h.e2 hd.2.1
      have s26:=h.e3 hd.2.2.1
      have kb:=h.kg_c_0 hn
      go_simp
      refine (rf_mul _ ee (tAt a 21) y _ kb).mono ?_
      rintro e w3 ⟨rfl,hkr,hb⟩
      exact .inl ⟨_,rfl,hK {h with mu:=mS h.mu hb (List.Mem.tail _ (List.Mem.head _)),kt_o:=fun a=>hS hb (by have:=HLT.out;have:=lt_of_block HE.out;omega) (h.kt_o a),kr_o:=fun a=>hS hb (by have:=HLT.out;have:=lt_of_block HE.out;omega) (h.kr_o a),kg_c_0:=nF,kg_c_1:=fun _=>hkr,e4:=rF}⟩
     ·intro L s w2 h hk hd hn K hK
      exact rs_field rfl (hk 7) (fl_model1 _ _) (hK {h with e5:=rF})
     ·intro L s w2 h hk hd hn K hK
      have kb:=h.kt_o hn
      exact rs_store rfl (h.e5 hd.1) (h.e4 hd.2.1) (sp_store (p:=21) kb (by have:=HLS.out;omega) _) (hK {h with mu:=h.mu.put (List.Mem.head _) _,kg_c_0:=fun a=>pO (by have:=HLT.out;have:=lt_of_block HE.out;omega) (h.kg_c_0 a),kg_c_1:=fun a=>pO (by have:=HLT.out;have:=lt_of_block HE.out;omega) (h.kg_c_1 a),kt_o:=nF,kr_o:=fun _=>pH kb})
    ·intro L s w2 h hk hl
     refine cA ?_ (hQ2 s w2 (⟨h.mu,h.kr_o (hl 6),h.kg_c_1 (hl 4)⟩))
     exact fq hk
   rintro s6 V ⟨h1,c_o,c_c⟩
   simp only [mergeL]
   replace HE:=lh c_c
   replace HA:=j2 h1 HA (by have:=HLT.out;omega) (by have:=HLT.out;omega)
   replace HX:=j2 h1 HX (by have:=HLT.out;omega) (by have:=HLT.out;omega)
   replace HR:=j2 h1 HR (by have:=HLT.out;omega) (by have:=HLT.out;omega)
   replace HO:=lh c_o
   replace HM:=lh (HM.out.stepM h1 (by have:=HBW.out;have:=HLT.out;intro x hx;simp only [List.mem_cons,List.not_mem_nil,or_false] at hx;rcases hx with rfl | rfl<;>first | exact .inl (List.mem_singleton.2 rfl) | (right;omega)))
   clear h1 c_o c_c
   refine HK6.out _ _ ?_
   replace HO:=lh (show V.heap[g0]?=some (cobj 34 T.1) by rw [←HQ.out];exact HO.out)
   replace HE:=lh (show V.heap[A]?=some (iobj 62 T.2) by rw [←HQ.out];exact HE.out)
   clear HQ
   refine wsk fun K7 HK7=>?_
   refine wc (n8 (n8 (n8 (nn::nn::nn::nn::nn::some 29::[])))) (fun _ w'=>Mut [b+1+1] V w'/\w'.heap[b+1+1]?=some (cobj 34 T.1)) ?_ ?_
   ·intro Q2 hQ2
    refine wG (Zs7 V b T) ?_ ?_ ?_
    ·exact ⟨Mut.start _ false _,fun _=>HR.out,nB,nB⟩
    ·refine aC ?_ (aC ?_ aN)
     ·intro L s w2 h hk hd hn K hK
      have kb:=kY h.mu HO (by have:=HLT.out;have:=lt_of_block HE.out;omega)
      exact rs_load rfl (hk 7) (md_load kb HLT3.out) (hK {h with e0:=rF})
     ·intro L s w2 h hk hd hn K hK
      have kb:=h.kt_r hn
      exact rs_store rfl (hk 6) (h.e0 hd.1) (md_store kb rfl _ HLT3.out) (hK {h with mu:=h.mu.put (List.Mem.head _) _,kt_r:=nF,kr_r:=fun _=>pH kb})
    ·intro L s w2 h hk hl
     refine cA ?_ (hQ2 s w2 (⟨h.mu,h.kr_r (hl 1)⟩))
     exact fq hk
   rintro s7 V ⟨h1,c_r⟩
   simp only [mergeL]
   replace HE:=j1 h1 HE (by have:=HLT.out;omega)
   replace HA:=j1 h1 HA (by have:=HLT.out;omega)
   replace HX:=j1 h1 HX (by have:=HLT.out;omega)
   replace HR:=lh c_r
   replace HO:=j1 h1 HO (by have:=HLT.out;omega)
   replace HM:=lh (HM.out.stepM h1 (by have:=HBW.out;have:=HLT.out;intro x hx;rw [List.mem_singleton.1 hx];first | exact .inl (List.mem_singleton.2 rfl) | (right;omega)))
   clear h1 c_r
   refine HK7.out _ _ ?_
   refine wp_ret ?_
   exact bodyPost_ret (v:=mval T.1) (res_model Tryz.results58 rfl (md_loadVar HR.out HLT3.out)) rfl ⟨rfl,HE.out,HM.out⟩
theorem rf_boundP {m:List (Int×Int)} {e:Int} {B:(Int×Int)×Int} (hB:gt e (tBound m)=B) (A:Nat) (hm:m.length=22) (w:World) (h:w.heap[A]?=some (iobj 62 e)) :
  Calls Tryz.prog 36 #[.pointer (some ⟨A,0,none⟩),mval m] w fun r w'=>r=.returned (sval B.1)/\w'.heap[A]?=some (iobj 62 B.2)/\Mut [A] w w':=by
 subst hB
 exact rf_bound A e m hm w h
structure Zr1 (V:World) (a:List (Int×Int)) (L:Nat->Bool) (s:Nat->Value) (w:World):Prop where
 mu:Mut [] V w
 e0:L 0->s 10=mval a
 al_o:L 1->∃g:Nat,s 7=.pointer (some ⟨g,0,none⟩)/\V.heap.size<=g/\g<w.heap.size/\(L 2=false->w.heap[g]?=some (cobj 34 zeroM))/\(L 2=true->w.heap[g]?=some (cobj 34 a))
 b2_1:L 2->L 1
structure Zr2 (V:World) (a:List (Int×Int)) (g0:Nat) (L:Nat->Bool) (s:Nat->Value) (w:World):Prop where
 mu:Mut [g0] V w
 kt_o:L 3=false->w.heap[g0]?=some (cobj 34 a)
 kr_o:L 3->w.heap[g0]?=some (cobj 34 (a.set 0 (0,0)))
 e0:L 0->s 11=sval ((0,0):Int×Int)
 e1:L 1->s 12=.pointer (some ⟨g0,0,none⟩)
 e2:L 2->s 13=.pointer (some ⟨g0,0*2,none⟩)
structure Zr6 (V:World) (A:Nat) (a:List (Int×Int)) (b:Nat) (S:List (Int×Int)) (ee:Int) (p:Nat) (g0:Nat) (L:Nat->Bool) (s:Nat->Value) (w:World):Prop where
 mu:Mut [g0,A] V w
 kt_o:L 12=false->w.heap[g0]?=some (cobj 34 S)
 kr_o:L 12->w.heap[g0]?=some (cobj 34 (S.set p (gt ee (sDiv (tAt a p) (tAt a 0))).1))
 kg_c_0:L 9=false->w.heap[A]?=some (iobj 62 ee)
 kg_c_1:L 9->w.heap[A]?=some (iobj 62 ((gt ee (sDiv (tAt a p) (tAt a 0))).2))
 e0:L 0->s 18=.int .i64 ((p:Nat):Int)
 e1:L 1->s 19=.pointer (some ⟨A,0,none⟩)
 e2:L 2->s 20=.int .i64 ((p:Nat):Int)
 e3:L 3->s 21=.pointer (some ⟨b,0,none⟩)
 e4:L 4->s 22=.pointer (some ⟨b,p*2,none⟩)
 e5:L 5->s 23=sval (tAt a p)
 e6:L 6->s 24=.pointer (some ⟨b,0,none⟩)
 e7:L 7->s 25=.pointer (some ⟨b,0*2,none⟩)
 e8:L 8->s 26=sval (tAt a 0)
 e9:L 9->s 27=sval ((gt ee (sDiv (tAt a p) (tAt a 0))).1)
 e10:L 10->s 28=.pointer (some ⟨g0,0,none⟩)
 e11:L 11->s 29=.pointer (some ⟨g0,p*2,none⟩)
structure Zr7 (V:World) (A:Nat) (a:List (Int×Int)) (b:Nat) (S:List (Int×Int)) (ee:Int) (g0:Nat) (L:Nat->Bool) (s:Nat->Value) (w:World):Prop where
 mu:Mut [g0,A] V w
 kt_o:L 8=false->w.heap[g0]?=some (cobj 34 S)
 kr_o:L 8->w.heap[g0]?=some (cobj 34 (S.set 21 (gt ee (sDiv (tAt a 21) (tAt a 0))).1))
 kg_c_0:L 6=false->w.heap[A]?=some (iobj 62 ee)
 kg_c_1:L 6->w.heap[A]?=some (iobj 62 ((gt ee (sDiv (tAt a 21) (tAt a 0))).2))
 e0:L 0->s 30=.pointer (some ⟨A,0,none⟩)
 e1:L 1->s 31=.pointer (some ⟨b,21*2,none⟩)
 e2:L 2->s 32=sval (tAt a 21)
 e3:L 3->s 33=.pointer (some ⟨b,0,none⟩)
 e4:L 4->s 34=.pointer (some ⟨b,0*2,none⟩)
 e5:L 5->s 35=sval (tAt a 0)
 e6:L 6->s 36=sval ((gt ee (sDiv (tAt a 21) (tAt a 0))).1)
 e7:L 7->s 37=.pointer (some ⟨g0,21*2,none⟩)
structure Zr8 (V:World) (A:Nat) (T:RS) (B1:(Int×Int)×Int) (L:Nat->Bool) (s:Nat->Value) (w:World):Prop where
 mu:Mut [A] V w
 kg_c_0:L 2=false->w.heap[A]?=some (iobj 62 T.2)
 kg_c_1:L 2->w.heap[A]?=some (iobj 62 B1.2)
 e0:L 0->s 38=.pointer (some ⟨A,0,none⟩)
 e1:L 1->s 39=mval T.1
 e2:L 2->s 40=sval B1.1
 al_bb:L 3->∃g:Nat,s 9=.pointer (some ⟨g,0,none⟩)/\V.heap.size<=g/\g<w.heap.size/\(L 4=false->w.heap[g]?=some (cobj 31 [(0,0)]))/\(L 4=true->w.heap[g]?=some (cobj 31 [B1.1]))
 b4_3:L 4->L 3
structure Zr9 (V:World) (A:Nat) (b:Nat) (T:RS) (B1:(Int×Int)×Int) (L:Nat->Bool) (s:Nat->Value) (w:World):Prop where
 mu:Mut [b+1,b+1+1,b+1+1+1,A] V w
 kt_r:L 9=false->w.heap[b+1]?=some (cobj 34 zeroM)
 kr_r:L 9->w.heap[b+1]?=some (cobj 34 T.1)
 kt_r2:L 10=false->w.heap[b+1+1]?=some (cobj 31 ([(0,0)]))
 kr_r2:L 10->w.heap[b+1+1]?=some (cobj 31 ([B1.1]))
 kt_r3:L 11=false->w.heap[b+1+1+1]?=some (cobj 31 ([(0,0)]))
 kr_r3:L 11->w.heap[b+1+1+1]?=some (cobj 31 ([(gt (gt B1.2 (sMul (0,4294967296) B1.1)).2 (sAdd (4294967296,4294967296) (gt B1.2 (sMul (0,4294967296) B1.1)).1)).1]))
 kg_c_0:L 7=false->w.heap[A]?=some (iobj 62 B1.2)
 kg_c_1:L 7->L 8=false->w.heap[A]?=some (iobj 62 ((gt B1.2 (sMul ((0,4294967296):Int×Int) B1.1)).2))
 kg_c_2:L 8->w.heap[A]?=some (iobj 62 ((gt ((gt B1.2 (sMul ((0,4294967296):Int×Int) B1.1)).2) (sAdd (4294967296,4294967296) ((gt B1.2 (sMul ((0,4294967296):Int×Int) B1.1)).1))).2))
 e0:L 0->s 41=mval T.1
 e1:L 1->s 42=sval B1.1
 e2:L 2->s 43=.pointer (some ⟨A,0,none⟩)
 e3:L 3->s 44=sval (4294967296,4294967296)
 e4:L 4->s 45=.pointer (some ⟨A,0,none⟩)
 e5:L 5->s 46=sval ((0,4294967296):Int×Int)
 e6:L 6->s 47=sval B1.1
 e7:L 7->s 48=sval ((gt B1.2 (sMul ((0,4294967296):Int×Int) B1.1)).1)
 e8:L 8->s 49=sval ((gt ((gt B1.2 (sMul ((0,4294967296):Int×Int) B1.1)).2) (sAdd (4294967296,4294967296) ((gt B1.2 (sMul ((0,4294967296):Int×Int) B1.1)).1))).1)
 b8_7:L 8->L 7
theorem rf_relative (A:Nat) (e:Int) (a:List (Int×Int)) (ha:a.length=22) (w:World) (h:w.heap[A]?=some (iobj 62 e)) :
  Calls Tryz.prog 46 #[.pointer (some ⟨A,0,none⟩),mval a] w fun r w'=>r=.returned (.tuple #[mval (rRel a e).1.1,sval (rRel a e).1.2.1,sval (rRel a e).1.2.2])/\w'.heap[A]?=some (iobj 62 ((rRel a e).2))/\Mut [A] w w':=by
 have HE0:=lh h
 clear h
 obtain ⟨T,hT⟩:∃T,rRel0 a e=T:=⟨_,rfl⟩
 have HTT:=lh hT
 have HLT3:=lh (show T.1.length=22 by rw [←hT,rRel0,rEachN_len,List.length_set];exact ha)
 obtain ⟨B1,hB1⟩:∃x,gt T.2 (tBound T.1)=x:=⟨_,rfl⟩
 have HB1:=lh hB1
 rw [show rRel a e=((T.1,B1.1,(gt (gt B1.2 (sMul (0,4294967296) B1.1)).2 (sAdd (4294967296,4294967296) (gt B1.2 (sMul (0,4294967296) B1.1)).1)).1),(gt (gt B1.2 (sMul (0,4294967296) B1.1)).2 (sAdd (4294967296,4294967296) (gt B1.2 (sMul (0,4294967296) B1.1)).1)).2) by unfold rRel;rw [hT,hB1]]
 clear hT hB1
 have HL:=lh ha
 clear ha
 go_enter Tryz.func46,Tryz.ntmps46
 refine wsk fun K0 HK0=>?_
 go_wp2_with fail
 rename_i x1 cs1 hc1
 obtain rfl:(mc a).toArray=cs1:=Value.agg.inj hc1
 clear hc1
 obtain ⟨b,hb⟩:∃b,w.heap.size=b:=⟨_,rfl⟩
 have HLT:=lh (show A<b from hb ▸ lt_of_block HE0.out)
 refine HK0.out _ _ ?_
 refine wp_world (fun V=>Mut [A] w V/\V.heap[A]?=some (iobj 62 e)/\V.heap[b]?=some (cobj 34 a)/\V.heap[b+1]?=some (cobj 34 zeroM)/\V.heap[b+1+1]?=some (cobj 31 [(0,0)])/\V.heap[b+1+1+1]?=some (cobj 31 [(0,0)])) ?_
  (by
   rw [←hb]
   exact ⟨(((((Mut.refl _ _).alloc _).alloc _).alloc _).alloc _),heap_up _ (heap_up _ (heap_up _ (heap_up _ (HE0.out)))),heap_up _ (heap_up _ (heap_up _ (heap_at (cobj 34 a) (by simp)))),heap_up _ (heap_up _ (heap_at (cobj 34 zeroM) (by simp))),heap_up _ (heap_at (cobj 31 [(0,0)]) (by simp)),heap_at (cobj 31 [(0,0)]) (by simp)⟩)
 rintro V ⟨hm,hHE,hHA,hHR,hHR2,hHR3⟩
 rw [hb]
 have HM:=lh hm
 have HBW:=lh hb
 have HE:=lh hHE
 have HA:=lh hHA
 have HR:=lh hHR
 have HR2:=lh hHR2
 have HR3:=lh hHR3
 clear hm hHE hHA hHR hHR2 hHR3 hb HK0 HE0
 refine wsk fun K1 HK1=>?_
 refine wc (nn::nn::nn::nn::nn::nn::nn::some 7::nn::nn::some 10::n8 (n8 (n8 (n8 (nn::nn::nn::nn::nn::nn::nn::[]))))) (fun s w'=>Mut [] V w'/\(∃g:Nat,s 7=.pointer (some ⟨g,0,none⟩)/\V.heap.size<=g/\w'.heap[g]?=some (cobj 34 a))) ?_ ?_
 ·intro Q2 hQ2
  refine wG (Zr1 V a) ?_ ?_ ?_
  ·exact ⟨Mut.start _ false _,nB,nB,nB⟩
  ·refine aC ?_ (aC ?_ (aC ?_ aN))
   ·intro L s w2 h hk hd hn K hK
    have kb:=kZ h.mu HA
    exact rs_load rfl (hk 3) (md_load kb HL.out) (hK {h with e0:=rF})
   ·intro L s w2 h hk hd hn K hK
    go_simp
    exact hK {h with mu:=h.mu.alloc _,al_o:=fun _=>aW h.mu.size h.b2_1 hn,b2_1:=rF}
   ·intro L s w2 h hk hd hn K hK
    obtain ⟨g,hg0,hg1,hgl,hg2,hg3⟩:=h.al_o hd.1
    have kb:=hg2 hn
    exact rs_store rfl hg0 (h.e0 hd.2.1) (md_store kb rfl _ HL.out) (hK {h with mu:=h.mu.putNew hg1 _,al_o:=fun _=>aT hg0 hg1 hgl kb,b2_1:=fun _=>hd.1})
  ·intro L s w2 h hk hl
   refine cA ?_ (hQ2 s w2 (⟨h.mu,aE (h.al_o (hl 1)) (hl 2)⟩))
   exact fq hk
 rintro s1 V ⟨h1,⟨g0,k_o,g_o,c_o⟩⟩
 simp only [mergeL]
 rw [k_o]
 replace HLT:=lh (show b<=g0/\A<g0/\b<g0/\b+1<g0/\b+1+1<g0/\b+1+1+1<g0/\A<b from by
  have hlt:=HLT.out
  have hbw:=HM.out.size
  have hbw2:=HBW.out
  have:=lt_of_block HE.out
  have:=lt_of_block HA.out
  have:=lt_of_block HR.out
  have:=lt_of_block HR2.out
  have:=lt_of_block HR3.out
  omega)
 replace HE:=sm h1 HE
 replace HA:=sm h1 HA
 replace HR:=sm h1 HR
 replace HR2:=sm h1 HR2
 replace HR3:=sm h1 HR3
 have HO:=lh c_o
 replace HM:=mE HM h1
 clear h1 k_o g_o c_o
 refine HK1.out _ _ ?_
 have HLS:=lh HL.out
 refine wsk fun K2 HK2=>?_
 refine wc (n8 (nn::nn::nn::some 11::some 12::some 13::n8 (n8 (n8 (n8 (nn::nn::nn::nn::[])))))) (fun _ w'=>Mut [g0] V w'/\w'.heap[g0]?=some (cobj 34 (a.set 0 (0,0)))) ?_ ?_
 ·intro Q2 hQ2
  refine wG (Zr2 V a g0) ?_ ?_ ?_
  ·exact ⟨Mut.start _ false _,fun _=>HO.out,nB,nB,nB,nB⟩
  ·refine aC ?_ (aC ?_ (aC ?_ (aC ?_ aN)))
   ·intro L s w2 h hk hd hn K hK
    go_simp
    exact hK {h with e0:=rF}
   ·intro L s w2 h hk hd hn K hK
    exact rs_field rfl (hk 7) (fl_model0 _ _) (hK {h with e1:=rF})
   ·intro L s w2 h hk hd hn K hK
    exact rs_index rfl (h.e1 hd.1) rfl (ix_model _ 0 (by omega)) (hK {h with e2:=rF})
   ·intro L s w2 h hk hd hn K hK
    have kb:=h.kt_o hn
    exact rs_store rfl (h.e2 hd.1) (h.e0 hd.2.1) (sp_store (p:=0) kb (by have:=HLS.out;omega) _) (hK {h with mu:=h.mu.put (List.Mem.head _) _,kt_o:=nF,kr_o:=fun _=>pH kb})
  ·intro L s w2 h hk hl
   refine cA ?_ (hQ2 s w2 (⟨h.mu,h.kr_o (hl 3)⟩))
   exact fq hk
 rintro s2 V ⟨h1,c_o⟩
 simp only [mergeL]
 replace HE:=j1 h1 HE (by have:=HLT.out;omega)
 replace HA:=j1 h1 HA (by have:=HLT.out;omega)
 replace HR:=j1 h1 HR (by have:=HLT.out;omega)
 replace HR2:=j1 h1 HR2 (by have:=HLT.out;omega)
 replace HR3:=j1 h1 HR3 (by have:=HLT.out;omega)
 replace HO:=lh c_o
 replace HM:=lh (HM.out.stepM h1 (by have:=HBW.out;have:=HLT.out;intro x hx;rw [List.mem_singleton.1 hx];first | exact .inl (List.mem_singleton.2 rfl) | (right;omega)))
 clear h1 c_o
 refine HK2.out _ _ ?_
 replace HLS:=lh (show (a.set 0 (0,0)).length=22 by rw [List.length_set];exact HL.out)
 refine wsk fun KL HKL=>?_
 go_wp2_with fail
 go_loopw [8] (fun x wr=>∃p:Nat,1<=p/\p<=21/\x=.int .i64 p/\Hid (∃(S:List (Int×Int)) (ee:Int),Mut [g0,A] V wr/\wr.heap[A]?=some (iobj 62 ee)/\wr.heap[g0]?=some (cobj 34 S)/\S.length=22/\rEachN sDiv a (tAt a 0) (22-p) p (S,ee)=T)) (fun x _=>21-(intOf x).toNat)
 case atStart=>exact ⟨1,by omega,by omega,rfl,lh ⟨a.set 0 (0,0),e,Mut.refl _ _,HE.out,HO.out,HLS.out,HTT.out⟩⟩
 case round =>
  clear HLS
  obtain ⟨p,hp0,hp,rfl,HG⟩:=hrel
  obtain ⟨S,ee,hmu,hE,hO,hls,hq⟩:=HG.out
  have HQ:=lh hq
  have HLS:=lh hls
  clear hq HG hls
  have hm2:=HM.out.stepM hmu (by have:=HBW.out;have:=HLT.out;intro x hx;simp only [List.mem_cons,List.not_mem_nil,or_false] at hx;rcases hx with rfl | rfl<;>first | exact .inl (List.mem_singleton.2 rfl) | (right;omega))
  refine wp_world (fun U=>Mut [A] w U/\Mut [g0,A] V U/\U.heap[A]?=some (iobj 62 ee)/\U.heap[b]?=some (cobj 34 a)/\U.heap[b+1]?=some (cobj 34 zeroM)/\U.heap[b+1+1]?=some (cobj 31 ([(0,0)]))/\U.heap[b+1+1+1]?=some (cobj 31 ([(0,0)]))/\U.heap[g0]?=some (cobj 34 S)) ?_ ⟨hm2,hmu,hE,((hmu.same _ (lt_of_block HA.out) (notin2 (by have:=HLT.out;omega) (by have:=HLT.out;omega))).trans HA.out),((hmu.same _ (lt_of_block HR.out) (notin2 (by have:=HLT.out;omega) (by have:=HLT.out;omega))).trans HR.out),((hmu.same _ (lt_of_block HR2.out) (notin2 (by have:=HLT.out;omega) (by have:=HLT.out;omega))).trans HR2.out),((hmu.same _ (lt_of_block HR3.out) (notin2 (by have:=HLT.out;omega) (by have:=HLT.out;omega))).trans HR3.out),hO⟩
  clear hm2 HM HE HA HR HR2 HR3 HO hmu hE hO
  rintro V ⟨q1,q2,qHE,qHA,qHR,qHR2,qHR3,qHO⟩
  have HM:=lh q1
  have HGM:=lh q2
  have HE:=lh qHE
  have HA:=lh qHA
  have HR:=lh qHR
  have HR2:=lh qHR2
  have HR3:=lh qHR3
  have HO:=lh qHO
  clear q1 q2 qHE qHA qHR qHR2 qHR3 qHO
  rcases Nat.lt_or_ge p 21 with hk | hk
  ·have t1:decide ((p:Int)<21)=true:=by simp;omega
   have HPL:=lh hk
   have p0:(0:Int)<=(p:Int):=by omega
   have p9:(p:Int)<21:=by omega
   rw [show 22-p=(22-(p+1))+1 by omega] at HQ
   clear hk hp hp0
   refine wsk fun KP HKP=>?_
   go_wp2_with fail
   refine HKP.out _ _ ?_
   refine wsk fun KQ HKQ=>?_
   refine wp_block ?_
   refine wc (n8 (n8 (nn::nn::some 18::some 19::some 20::some 21::some 22::some 23::some 24::some 25::some 26::some 27::some 28::some 29::n8 (n8 (nn::nn::nn::nn::[]))))) (fun _ w'=>Mut [g0,A] V w'/\w'.heap[g0]?=some (cobj 34 (S.set p (gt ee (sDiv (tAt a p) (tAt a 0))).1))/\w'.heap[A]?=some (iobj 62 ((gt ee (sDiv (tAt a p) (tAt a 0))).2))) ?_ ?_
   ·intro Q2 hQ2
    refine wG (Zr6 V A a b S ee p g0) ?_ ?_ ?_
    ·exact ⟨Mut.start _ true _,fun _=>HO.out,nB,fun _=>HE.out,nB,nB,nB,nB,nB,nB,nB,nB,nB,nB,nB,nB,nB⟩
    ·refine aC ?_ (aC ?_ (aC ?_ (aC ?_ (aC ?_ (aC ?_ (aC ?_ (aC ?_ (aC ?_ (aC ?_ (aC ?_ (aC ?_ (aC ?_ aN))))))))))))
     ·intro L s w2 h hk hd hn K hK
      exact rs_move rfl (hk 8) (hK {h with e0:=rF})
     ·intro L s w2 h hk hd hn K hK
      exact rs_move rfl (hk 0) (hK {h with e1:=rF})
     ·intro L s w2 h hk hd hn K hK
      exact rs_move rfl (hk 8) (hK {h with e2:=rF})
     ·intro L s w2 h hk hd hn K hK
      exact rs_field rfl (hk 3) (fl_model0 _ _) (hK {h with e3:=rF})
     ·intro L s w2 h hk hd hn K hK
      exact rs_index rfl (h.e3 hd.1) (h.e2 hd.2.1) (ix_model _ p HPL.out) (hK {h with e4:=rF})
     ·intro L s w2 h hk hd hn K hK
      have kb:=kX h.mu HA (by have:=HLT.out;have:=lt_of_block HE.out;omega) (by have:=HLT.out;have:=lt_of_block HE.out;omega)
      exact rs_load rfl (h.e4 hd.1) (sp_load (p:=p) kb (by have:=HL.out;have:=HPL.out;omega)) (hK {h with e5:=rF})
     ·intro L s w2 h hk hd hn K hK
      exact rs_field rfl (hk 3) (fl_model0 _ _) (hK {h with e6:=rF})
     ·intro L s w2 h hk hd hn K hK
      exact rs_index rfl (h.e6 hd.1) rfl (ix_model _ 0 (by omega)) (hK {h with e7:=rF})
     ·intro L s w2 h hk hd hn K hK
      have kb:=kX h.mu HA (by have:=HLT.out;have:=lt_of_block HE.out;omega) (by have:=HLT.out;have:=lt_of_block HE.out;omega)
      exact rs_load rfl (h.e7 hd.1) (sp_load (p:=0) kb (by have:=HL.out;omega)) (hK {h with e8:=rF})
     ·intro L s w2 h hk hd hn K hK
      have s19:=h.e1 hd.1
      have s23:=h.e5 hd.2.1
      have s26:=h.e8 hd.2.2.1
      have kb:=h.kg_c_0 hn
      go_simp
      refine (rf_div _ ee (tAt a p) (tAt a 0) _ kb).mono ?_
      rintro e w3 ⟨rfl,hkr,hb⟩
      exact .inl ⟨_,rfl,hK {h with mu:=mS h.mu hb (List.Mem.tail _ (List.Mem.head _)),kt_o:=fun a=>hS hb (by have:=HLT.out;have:=lt_of_block HE.out;omega) (h.kt_o a),kr_o:=fun a=>hS hb (by have:=HLT.out;have:=lt_of_block HE.out;omega) (h.kr_o a),kg_c_0:=nF,kg_c_1:=fun _=>hkr,e9:=rF}⟩
     ·intro L s w2 h hk hd hn K hK
      exact rs_field rfl (hk 7) (fl_model0 _ _) (hK {h with e10:=rF})
     ·intro L s w2 h hk hd hn K hK
      exact rs_index rfl (h.e10 hd.1) (h.e0 hd.2.1) (ix_model _ p HPL.out) (hK {h with e11:=rF})
     ·intro L s w2 h hk hd hn K hK
      have kb:=h.kt_o hn
      exact rs_store rfl (h.e11 hd.1) (h.e9 hd.2.1) (sp_store (p:=p) kb (by have:=HLS.out;have:=HPL.out;omega) _) (hK {h with mu:=h.mu.put (List.Mem.head _) _,kg_c_0:=fun a=>pO (by have:=HLT.out;have:=lt_of_block HE.out;omega) (h.kg_c_0 a),kg_c_1:=fun a=>pO (by have:=HLT.out;have:=lt_of_block HE.out;omega) (h.kg_c_1 a),kt_o:=nF,kr_o:=fun _=>pH kb})
    ·intro L s w2 h hk hl
     refine cA ?_ (hQ2 s w2 (⟨h.mu,h.kr_o (hl 12),h.kg_c_1 (hl 9)⟩))
     exact fq hk
   rintro s6 V ⟨h1,c_o,c_c⟩
   simp only [mergeL]
   replace HE:=lh c_c
   replace HA:=j2 h1 HA (by have:=HLT.out;omega) (by have:=HLT.out;omega)
   replace HR:=j2 h1 HR (by have:=HLT.out;omega) (by have:=HLT.out;omega)
   replace HR2:=j2 h1 HR2 (by have:=HLT.out;omega) (by have:=HLT.out;omega)
   replace HR3:=j2 h1 HR3 (by have:=HLT.out;omega) (by have:=HLT.out;omega)
   replace HO:=lh c_o
   replace HM:=lh (HM.out.stepM h1 (by have:=HBW.out;have:=HLT.out;intro x hx;simp only [List.mem_cons,List.not_mem_nil,or_false] at hx;rcases hx with rfl | rfl<;>first | exact .inl (List.mem_singleton.2 rfl) | (right;omega)))
   have HFX:=lh (HGM.out.trans h1)
   clear h1 c_o c_c
   go_wp2_with fail
   refine HKQ.out _ _ ?_
   go_wp2_with fail
   go_roundw
   case rel=>first | exact ⟨p+1,by omega,by have:=HPL.out;omega,by go_num,lh ⟨_,_,HFX.out,HE.out,HO.out,by rw [List.length_set];exact HLS.out,HQ.out⟩⟩ | ((repeat apply Exists.intro);exact ⟨⟨p+1,by omega,by have:=HPL.out;omega,by go_num,lh ⟨_,_,HFX.out,HE.out,HO.out,by rw [List.length_set];exact HLS.out,HQ.out⟩⟩,rfl⟩)
   case measure=>simp [intOf];have:=HPL.out;omega
  ·obtain rfl:p=21:=by omega
   go_wp2_with fail
   refine HKL.out _ _ ?_
   clear hk hp hp0
   refine wsk fun K7 HK7=>?_
   refine wc (n8 (n8 (n8 (nn::nn::nn::nn::nn::nn::some 30::some 31::some 32::some 33::some 34::some 35::some 36::some 37::n8 (nn::nn::nn::nn::[]))))) (fun _ w'=>Mut [g0,A] V w'/\w'.heap[g0]?=some (cobj 34 (S.set 21 (gt ee (sDiv (tAt a 21) (tAt a 0))).1))/\w'.heap[A]?=some (iobj 62 ((gt ee (sDiv (tAt a 21) (tAt a 0))).2))) ?_ ?_
   ·intro Q2 hQ2
    refine wG (Zr7 V A a b S ee g0) ?_ ?_ ?_
    ·exact ⟨Mut.start _ false _,fun _=>HO.out,nB,fun _=>HE.out,nB,nB,nB,nB,nB,nB,nB,nB,nB⟩
    ·refine aC ?_ (aC ?_ (aC ?_ (aC ?_ (aC ?_ (aC ?_ (aC ?_ (aC ?_ (aC ?_ aN))))))))
     ·intro L s w2 h hk hd hn K hK
      exact rs_move rfl (hk 0) (hK {h with e0:=rF})
     ·intro L s w2 h hk hd hn K hK
      exact rs_field rfl (hk 3) (fl_model1 _ _) (hK {h with e1:=rF})
     ·intro L s w2 h hk hd hn K hK
      have kb:=kX h.mu HA (by have:=HLT.out;have:=lt_of_block HE.out;omega) (by have:=HLT.out;have:=lt_of_block HE.out;omega)
      exact rs_load rfl (h.e1 hd.1) (sp_load (p:=21) kb (by have:=HL.out;omega)) (hK {h with e2:=rF})
     ·intro L s w2 h hk hd hn K hK
      exact rs_field rfl (hk 3) (fl_model0 _ _) (hK {h with e3:=rF})
     ·intro L s w2 h hk hd hn K hK
      exact rs_index rfl (h.e3 hd.1) rfl (ix_model _ 0 (by omega)) (hK {h with e4:=rF})
     ·intro L s w2 h hk hd hn K hK
      have kb:=kX h.mu HA (by have:=HLT.out;have:=lt_of_block HE.out;omega) (by have:=HLT.out;have:=lt_of_block HE.out;omega)
      exact rs_load rfl (h.e4 hd.1) (sp_load (p:=0) kb (by have:=HL.out;omega)) (hK {h with e5:=rF})
     ·intro L s w2 h hk hd hn K hK
      have s30:=h.e0 hd.1
      have s32:=h.e2 hd.2.1
      have s35:=h.e5 hd.2.2.1
      have kb:=h.kg_c_0 hn
      go_simp
      refine (rf_div _ ee (tAt a 21) (tAt a 0) _ kb).mono ?_
      rintro e w3 ⟨rfl,hkr,hb⟩
      exact .inl ⟨_,rfl,hK {h with mu:=mS h.mu hb (List.Mem.tail _ (List.Mem.head _)),kt_o:=fun a=>hS hb (by have:=HLT.out;have:=lt_of_block HE.out;omega) (h.kt_o a),kr_o:=fun a=>hS hb (by have:=HLT.out;have:=lt_of_block HE.out;omega) (h.kr_o a),kg_c_0:=nF,kg_c_1:=fun _=>hkr,e6:=rF}⟩
     ·intro L s w2 h hk hd hn K hK
      exact rs_field rfl (hk 7) (fl_model1 _ _) (hK {h with e7:=rF})
     ·intro L s w2 h hk hd hn K hK
      have kb:=h.kt_o hn
      exact rs_store rfl (h.e7 hd.1) (h.e6 hd.2.1) (sp_store (p:=21) kb (by have:=HLS.out;omega) _) (hK {h with mu:=h.mu.put (List.Mem.head _) _,kg_c_0:=fun a=>pO (by have:=HLT.out;have:=lt_of_block HE.out;omega) (h.kg_c_0 a),kg_c_1:=fun a=>pO (by have:=HLT.out;have:=lt_of_block HE.out;omega) (h.kg_c_1 a),kt_o:=nF,kr_o:=fun _=>pH kb})
    ·intro L s w2 h hk hl
     refine cA ?_ (hQ2 s w2 (⟨h.mu,h.kr_o (hl 8),h.kg_c_1 (hl 6)⟩))
     exact fq hk
   rintro s7 V ⟨h1,c_o,c_c⟩
   simp only [mergeL]
   replace HE:=lh c_c
   replace HA:=j2 h1 HA (by have:=HLT.out;omega) (by have:=HLT.out;omega)
   replace HR:=j2 h1 HR (by have:=HLT.out;omega) (by have:=HLT.out;omega)
   replace HR2:=j2 h1 HR2 (by have:=HLT.out;omega) (by have:=HLT.out;omega)
   replace HR3:=j2 h1 HR3 (by have:=HLT.out;omega) (by have:=HLT.out;omega)
   replace HO:=lh c_o
   replace HM:=lh (HM.out.stepM h1 (by have:=HBW.out;have:=HLT.out;intro x hx;simp only [List.mem_cons,List.not_mem_nil,or_false] at hx;rcases hx with rfl | rfl<;>first | exact .inl (List.mem_singleton.2 rfl) | (right;omega)))
   clear h1 c_o c_c
   refine HK7.out _ _ ?_
   replace HO:=lh (show V.heap[g0]?=some (cobj 34 T.1) by rw [←HQ.out];exact HO.out)
   replace HE:=lh (show V.heap[A]?=some (iobj 62 T.2) by rw [←HQ.out];exact HE.out)
   clear HQ
   refine wsk fun K8 HK8=>?_
   refine wc (n8 (nn::some 9::n8 (n8 (n8 (nn::nn::nn::nn::some 38::some 39::some 40::n8 (nn::[])))))) (fun s w'=>Mut [A] V w'/\w'.heap[A]?=some (iobj 62 B1.2)/\(∃g:Nat,s 9=.pointer (some ⟨g,0,none⟩)/\V.heap.size<=g/\w'.heap[g]?=some (cobj 31 [B1.1]))) ?_ ?_
   ·intro Q2 hQ2
    refine wG (Zr8 V A T B1) ?_ ?_ ?_
    ·exact ⟨Mut.start _ false _,fun _=>HE.out,nB,nB,nB,nB,nB,nB⟩
    ·refine aC ?_ (aC ?_ (aC ?_ (aC ?_ (aC ?_ aN))))
     ·intro L s w2 h hk hd hn K hK
      exact rs_move rfl (hk 0) (hK {h with e0:=rF})
     ·intro L s w2 h hk hd hn K hK
      have kb:=kY h.mu HO (by have:=HLT.out;have:=lt_of_block HE.out;omega)
      exact rs_load rfl (hk 7) (md_load kb HLT3.out) (hK {h with e1:=rF})
     ·intro L s w2 h hk hd hn K hK
      have s38:=h.e0 hd.1
      have s39:=h.e1 hd.2.1
      have kb:=h.kg_c_0 hn
      go_simp
      refine (rf_boundP HB1.out _ HLT3.out _ kb).mono ?_
      rintro e w3 ⟨rfl,hkr,hb⟩
      exact .inl ⟨_,rfl,hK {h with mu:=mS h.mu hb (List.Mem.head _),al_bb:=fun a=>aM hb HE.out (h.al_bb a),kg_c_0:=nF,kg_c_1:=fun _=>hkr,e2:=rF}⟩
     ·intro L s w2 h hk hd hn K hK
      go_simp
      exact hK {h with mu:=h.mu.alloc _,kg_c_0:=fun a=>(heap_up _ (h.kg_c_0 a)),kg_c_1:=fun a=>(heap_up _ (h.kg_c_1 a)),al_bb:=fun _=>aW h.mu.size h.b4_3 hn,b4_3:=rF}
     ·intro L s w2 h hk hd hn K hK
      obtain ⟨g,hg0,hg1,hgl,hg2,hg3⟩:=h.al_bb hd.1
      have kb:=hg2 hn
      exact rs_store rfl hg0 (h.e2 hd.2.1) (sp_store (p:=0) kb (by simp) B1.1) (hK {h with mu:=h.mu.putNew hg1 _,kg_c_0:=fun a=>pO (by have:=h.mu.size;have:=hg1;have:=HLT.out;have:=lt_of_block HE.out;omega) (h.kg_c_0 a),kg_c_1:=fun a=>pO (by have:=h.mu.size;have:=hg1;have:=HLT.out;have:=lt_of_block HE.out;omega) (h.kg_c_1 a),al_bb:=fun _=>aT hg0 hg1 hgl kb,b4_3:=fun _=>hd.1})
    ·intro L s w2 h hk hl
     refine cA ?_ (hQ2 s w2 (⟨h.mu,h.kg_c_1 (hl 2),aE (h.al_bb (hl 3)) (hl 4)⟩))
     exact fq hk
   rintro s8 V ⟨h1,c_c,⟨g1,k_bb,g_bb,c_bb⟩⟩
   simp only [mergeL]
   rw [k_bb]
   replace HLT:=lh (show b<=g1/\A<g1/\b<g1/\b+1<g1/\b+1+1<g1/\b+1+1+1<g1/\g0<g1/\b<=g0/\A<g0/\b<g0/\b+1<g0/\b+1+1<g0/\b+1+1+1<g0/\A<b from by
    have hlt:=HLT.out
    have hbw:=HM.out.size
    have hbw2:=HBW.out
    have:=lt_of_block HE.out
    have:=lt_of_block HA.out
    have:=lt_of_block HR.out
    have:=lt_of_block HR2.out
    have:=lt_of_block HR3.out
    have:=lt_of_block HO.out
    omega)
   replace HE:=lh c_c
   replace HA:=j1 h1 HA (by have:=HLT.out;omega)
   replace HR:=j1 h1 HR (by have:=HLT.out;omega)
   replace HR2:=j1 h1 HR2 (by have:=HLT.out;omega)
   replace HR3:=j1 h1 HR3 (by have:=HLT.out;omega)
   replace HO:=j1 h1 HO (by have:=HLT.out;omega)
   have HBB:=lh c_bb
   replace HM:=lh (HM.out.stepM h1 (by have:=HBW.out;have:=HLT.out;intro x hx;rw [List.mem_singleton.1 hx];first | exact .inl (List.mem_singleton.2 rfl) | (right;omega)))
   clear h1 c_c k_bb g_bb c_bb
   refine HK8.out _ _ ?_
   refine wsk fun K9 HK9=>?_
   refine wc (n8 (n8 (n8 (n8 (n8 (nn::some 41::some 42::some 43::some 44::some 45::some 46::some 47::some 48::some 49::[])))))) (fun _ w'=>Mut [b+1,b+1+1,b+1+1+1,A] V w'/\w'.heap[b+1]?=some (cobj 34 T.1)/\w'.heap[b+1+1]?=some (cobj 31 ([B1.1]))/\w'.heap[b+1+1+1]?=some (cobj 31 ([(gt (gt B1.2 (sMul (0,4294967296) B1.1)).2 (sAdd (4294967296,4294967296) (gt B1.2 (sMul (0,4294967296) B1.1)).1)).1]))/\w'.heap[A]?=some (iobj 62 ((gt ((gt B1.2 (sMul ((0,4294967296):Int×Int) B1.1)).2) (sAdd (4294967296,4294967296) ((gt B1.2 (sMul ((0,4294967296):Int×Int) B1.1)).1))).2))) ?_ ?_
   ·intro Q2 hQ2
    refine wG (Zr9 V A b T B1) ?_ ?_ ?_
    ·exact ⟨Mut.start _ true _,fun _=>HR.out,nB,fun _=>HR2.out,nB,fun _=>HR3.out,nB,fun _=>HE.out,nB,nB,nB,nB,nB,nB,nB,nB,nB,nB,nB,nB⟩
    ·refine aC ?_ (aC ?_ (aC ?_ (aC ?_ (aC ?_ (aC ?_ (aC ?_ (aC ?_ (aC ?_ (aC ?_ (aC ?_ (aC ?_ aN)))))))))))
     ·intro L s w2 h hk hd hn K hK
      have kb:=((h.mu.same _ ((Array.getElem?_eq_some_iff.1 HO.out).1) (notin4 (by have:=HLT.out;have:=lt_of_block HE.out;omega) (by have:=HLT.out;have:=lt_of_block HE.out;omega) (by have:=HLT.out;have:=lt_of_block HE.out;omega) (by have:=HLT.out;have:=lt_of_block HE.out;omega))).trans HO.out)
      exact rs_load rfl (hk 7) (md_load kb HLT3.out) (hK {h with e0:=rF})
     ·intro L s w2 h hk hd hn K hK
      have kb:=((h.mu.same _ ((Array.getElem?_eq_some_iff.1 HBB.out).1) (notin4 (by have:=HLT.out;have:=lt_of_block HE.out;omega) (by have:=HLT.out;have:=lt_of_block HE.out;omega) (by have:=HLT.out;have:=lt_of_block HE.out;omega) (by have:=HLT.out;have:=lt_of_block HE.out;omega))).trans HBB.out)
      exact rs_load rfl (hk 9) (sp_load (p:=0) kb (by simp)) (hK {h with e1:=rF})
     ·intro L s w2 h hk hd hn K hK
      exact rs_move rfl (hk 0) (hK {h with e2:=rF})
     ·intro L s w2 h hk hd hn K hK
      go_simp
      refine (rf_point 4294967296 _).mono ?_
      rintro e w3 ⟨rfl,hb⟩
      exact .inl ⟨_,rfl,hK {h with mu:=h.mu.step hb,kt_r:=fun a=>bk hb (h.kt_r a),kr_r:=fun a=>bk hb (h.kr_r a),kt_r2:=fun a=>bk hb (h.kt_r2 a),kr_r2:=fun a=>bk hb (h.kr_r2 a),kt_r3:=fun a=>bk hb (h.kt_r3 a),kr_r3:=fun a=>bk hb (h.kr_r3 a),kg_c_0:=fun a=>bk hb (h.kg_c_0 a),kg_c_1:=fun a c=>bk hb (h.kg_c_1 a c),kg_c_2:=fun a=>bk hb (h.kg_c_2 a),e3:=rF}⟩
     ·intro L s w2 h hk hd hn K hK
      exact rs_move rfl (hk 0) (hK {h with e4:=rF})
     ·intro L s w2 h hk hd hn K hK
      go_simp
      exact hK {h with e5:=rF}
     ·intro L s w2 h hk hd hn K hK
      have kb:=((h.mu.same _ ((Array.getElem?_eq_some_iff.1 HBB.out).1) (notin4 (by have:=HLT.out;have:=lt_of_block HE.out;omega) (by have:=HLT.out;have:=lt_of_block HE.out;omega) (by have:=HLT.out;have:=lt_of_block HE.out;omega) (by have:=HLT.out;have:=lt_of_block HE.out;omega))).trans HBB.out)
      exact rs_load rfl (hk 9) (sp_load (p:=0) kb (by simp)) (hK {h with e6:=rF})
     ·intro L s w2 h hk hd hn K hK
      have s45:=h.e4 hd.1
      have s46:=h.e5 hd.2.1
      have s47:=h.e6 hd.2.2.1
      have kb:=h.kg_c_0 hn
      go_simp
      refine (rf_mul _ B1.2 ((0,4294967296):Int×Int) B1.1 _ kb).mono ?_
      rintro e w3 ⟨rfl,hkr,hb⟩
      exact .inl ⟨_,rfl,hK {h with mu:=h.mu.stepM hb (by intro x hx;rw [List.mem_singleton.1 hx];exact .inl (List.Mem.tail _ (List.Mem.tail _ (List.Mem.tail _ (List.Mem.head _))))),kt_r:=fun a=>hS hb (by have:=HLT.out;have:=lt_of_block HE.out;omega) (h.kt_r a),kr_r:=fun a=>hS hb (by have:=HLT.out;have:=lt_of_block HE.out;omega) (h.kr_r a),kt_r2:=fun a=>hS hb (by have:=HLT.out;have:=lt_of_block HE.out;omega) (h.kt_r2 a),kr_r2:=fun a=>hS hb (by have:=HLT.out;have:=lt_of_block HE.out;omega) (h.kr_r2 a),kt_r3:=fun a=>hS hb (by have:=HLT.out;have:=lt_of_block HE.out;omega) (h.kt_r3 a),kr_r3:=fun a=>hS hb (by have:=HLT.out;have:=lt_of_block HE.out;omega) (h.kr_r3 a),kg_c_0:=nF,kg_c_1:=fun _ _=>hkr,kg_c_2:=fun a=>aB (h.b8_7 a) hn,e7:=rF,b8_7:=rF}⟩
     ·intro L s w2 h hk hd hn K hK
      have s43:=h.e2 hd.1
      have s44:=h.e3 hd.2.1
      have s48:=h.e7 hd.2.2.1
      have kb:=h.kg_c_1 hd.2.2.1 hn
      go_simp
      refine (rf_add _ ((gt B1.2 (sMul ((0,4294967296):Int×Int) B1.1)).2) (4294967296,4294967296) ((gt B1.2 (sMul ((0,4294967296):Int×Int) B1.1)).1) _ kb).mono ?_
      rintro e w3 ⟨rfl,hkr,hb⟩
      exact .inl ⟨_,rfl,hK {h with mu:=h.mu.stepM hb (by intro x hx;rw [List.mem_singleton.1 hx];exact .inl (List.Mem.tail _ (List.Mem.tail _ (List.Mem.tail _ (List.Mem.head _))))),kt_r:=fun a=>hS hb (by have:=HLT.out;have:=lt_of_block HE.out;omega) (h.kt_r a),kr_r:=fun a=>hS hb (by have:=HLT.out;have:=lt_of_block HE.out;omega) (h.kr_r a),kt_r2:=fun a=>hS hb (by have:=HLT.out;have:=lt_of_block HE.out;omega) (h.kt_r2 a),kr_r2:=fun a=>hS hb (by have:=HLT.out;have:=lt_of_block HE.out;omega) (h.kr_r2 a),kt_r3:=fun a=>hS hb (by have:=HLT.out;have:=lt_of_block HE.out;omega) (h.kt_r3 a),kr_r3:=fun a=>hS hb (by have:=HLT.out;have:=lt_of_block HE.out;omega) (h.kr_r3 a),kg_c_0:=fun a=>absurd (a.symm.trans hd.2.2.1) bft,kg_c_1:=fun a c=>absurd c.symm bft,kg_c_2:=fun _=>hkr,e8:=rF,b8_7:=fun _=>hd.2.2.1}⟩
     ·intro L s w2 h hk hd hn K hK
      have kb:=h.kt_r hn
      exact rs_store rfl (hk 4) (h.e0 hd.1) (md_store kb rfl _ HLT3.out) (hK {h with mu:=h.mu.put (List.Mem.head _) _,kt_r2:=fun a=>pO (by have:=HLT.out;have:=lt_of_block HE.out;omega) (h.kt_r2 a),kr_r2:=fun a=>pO (by have:=HLT.out;have:=lt_of_block HE.out;omega) (h.kr_r2 a),kt_r3:=fun a=>pO (by have:=HLT.out;have:=lt_of_block HE.out;omega) (h.kt_r3 a),kr_r3:=fun a=>pO (by have:=HLT.out;have:=lt_of_block HE.out;omega) (h.kr_r3 a),kg_c_0:=fun a=>pO (by have:=HLT.out;have:=lt_of_block HE.out;omega) (h.kg_c_0 a),kg_c_1:=fun a c=>pO (by have:=HLT.out;have:=lt_of_block HE.out;omega) (h.kg_c_1 a c),kg_c_2:=fun a=>pO (by have:=HLT.out;have:=lt_of_block HE.out;omega) (h.kg_c_2 a),kt_r:=nF,kr_r:=fun _=>pH kb})
     ·intro L s w2 h hk hd hn K hK
      have kb:=h.kt_r2 hn
      exact rs_store rfl (hk 5) (h.e1 hd.1) (sp_store (p:=0) kb (by simp) B1.1) (hK {h with mu:=h.mu.put (List.Mem.tail _ (List.Mem.head _)) _,kt_r:=fun a=>pO (by have:=HLT.out;have:=lt_of_block HE.out;omega) (h.kt_r a),kr_r:=fun a=>pO (by have:=HLT.out;have:=lt_of_block HE.out;omega) (h.kr_r a),kt_r3:=fun a=>pO (by have:=HLT.out;have:=lt_of_block HE.out;omega) (h.kt_r3 a),kr_r3:=fun a=>pO (by have:=HLT.out;have:=lt_of_block HE.out;omega) (h.kr_r3 a),kg_c_0:=fun a=>pO (by have:=HLT.out;have:=lt_of_block HE.out;omega) (h.kg_c_0 a),kg_c_1:=fun a c=>pO (by have:=HLT.out;have:=lt_of_block HE.out;omega) (h.kg_c_1 a c),kg_c_2:=fun a=>pO (by have:=HLT.out;have:=lt_of_block HE.out;omega) (h.kg_c_2 a),kt_r2:=nF,kr_r2:=fun _=>pH kb})
     ·intro L s w2 h hk hd hn K hK
      have kb:=h.kt_r3 hn
      exact rs_store rfl (hk 6) (h.e8 hd.1) (sp_store (p:=0) kb (by simp) ((gt ((gt B1.2 (sMul ((0,4294967296):Int×Int) B1.1)).2) (sAdd (4294967296,4294967296) ((gt B1.2 (sMul ((0,4294967296):Int×Int) B1.1)).1))).1)) (hK {h with mu:=h.mu.put (List.Mem.tail _ (List.Mem.tail _ (List.Mem.head _))) _,kt_r:=fun a=>pO (by have:=HLT.out;have:=lt_of_block HE.out;omega) (h.kt_r a),kr_r:=fun a=>pO (by have:=HLT.out;have:=lt_of_block HE.out;omega) (h.kr_r a),kt_r2:=fun a=>pO (by have:=HLT.out;have:=lt_of_block HE.out;omega) (h.kt_r2 a),kr_r2:=fun a=>pO (by have:=HLT.out;have:=lt_of_block HE.out;omega) (h.kr_r2 a),kg_c_0:=fun a=>pO (by have:=HLT.out;have:=lt_of_block HE.out;omega) (h.kg_c_0 a),kg_c_1:=fun a c=>pO (by have:=HLT.out;have:=lt_of_block HE.out;omega) (h.kg_c_1 a c),kg_c_2:=fun a=>pO (by have:=HLT.out;have:=lt_of_block HE.out;omega) (h.kg_c_2 a),kt_r3:=nF,kr_r3:=fun _=>pH kb})
    ·intro L s w2 h hk hl
     refine cA ?_ (hQ2 s w2 (⟨h.mu,h.kr_r (hl 9),h.kr_r2 (hl 10),h.kr_r3 (hl 11),h.kg_c_2 (hl 8)⟩))
     exact fq hk
   rintro s9 V ⟨h1,c_r,c_r2,c_r3,c_c⟩
   simp only [mergeL]
   replace HE:=lh c_c
   replace HA:=lh ((h1.same _ (lt_of_block HA.out) (notin4 (by have:=HLT.out;omega) (by have:=HLT.out;omega) (by have:=HLT.out;omega) (by have:=HLT.out;omega))).trans HA.out)
   replace HR:=lh c_r
   replace HR2:=lh c_r2
   replace HR3:=lh c_r3
   replace HO:=lh ((h1.same _ (lt_of_block HO.out) (notin4 (by have:=HLT.out;omega) (by have:=HLT.out;omega) (by have:=HLT.out;omega) (by have:=HLT.out;omega))).trans HO.out)
   replace HBB:=lh ((h1.same _ (lt_of_block HBB.out) (notin4 (by have:=HLT.out;omega) (by have:=HLT.out;omega) (by have:=HLT.out;omega) (by have:=HLT.out;omega))).trans HBB.out)
   replace HM:=lh (HM.out.stepM h1 (by have:=HBW.out;have:=HLT.out;intro x hx;simp only [List.mem_cons,List.not_mem_nil,or_false] at hx;rcases hx with rfl | rfl | rfl | rfl<;>first | exact .inl (List.mem_singleton.2 rfl) | (right;omega)))
   clear h1 c_r c_r2 c_r3 c_c
   refine HK9.out _ _ ?_
   refine wp_ret ?_
   exact bodyPost_ret (v:=.tuple #[mval T.1,sval B1.1,sval (gt (gt B1.2 (sMul (0,4294967296) B1.1)).2 (sAdd (4294967296,4294967296) (gt B1.2 (sMul (0,4294967296) B1.1)).1)).1]) (res_three Tryz.results46 rfl rfl rfl (md_loadVar HR.out HLT3.out) (sp_loadVar HR2.out) (sp_loadVar HR3.out)) rfl ⟨rfl,HE.out,HM.out⟩
end Go.Proofs.YthhkcfpljgdnhaaGreat
