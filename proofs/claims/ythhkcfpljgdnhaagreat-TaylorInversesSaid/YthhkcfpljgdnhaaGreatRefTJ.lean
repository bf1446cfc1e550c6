/- The reference of layer 21: bound, told, both. Printed by wip/genSU.py. -/
import Derived.Test.YthhkcfpljgdnhaaGreatRefTE
import Derived.Test.YthhkcfpljgdnhaaGreatTayArr
import Derived.Test.YthhkcfpljgdnhaaGreatRefTH
import Derived.Test.YthhkcfpljgdnhaaGreatTayQ
set_option maxRecDepth 100000
set_option maxHeartbeats 4000000
namespace Go.Proofs.YthhkcfpljgdnhaaGreat
open Go.RowKit Mnc
attribute [local go_sem] RunSP_value RunSP_skip RunSP_enter evS_tmp evS_const evS_global evS_func
structure Zb1 (V:World) (A:Nat) (e:Int) (a:List (Int×Int)) (b:Nat) (L:Nat->Bool) (s:Nat->Value) (w:World):Prop where
 mu:Mut [b+1,A] V w
 kt_r:L 7=false->w.heap[b+1]?=some (cobj 31 ([(0,0)]))
 kr_r:L 7->w.heap[b+1]?=some (cobj 31 ([(gt (gt e (tSweep a)).2 (sAdd (gt e (tSweep a)).1 (tAt a 21))).1]))
 kg_c_0:L 3=false->w.heap[A]?=some (iobj 62 e)
 kg_c_1:L 3->L 6=false->w.heap[A]?=some (iobj 62 ((gt e (tSweep a)).2))
 kg_c_2:L 6->w.heap[A]?=some (iobj 62 ((gt ((gt e (tSweep a)).2) (sAdd ((gt e (tSweep a)).1) (tAt a 21))).2))
 e0:L 0->s 5=.pointer (some ⟨A,0,none⟩)
 e1:L 1->s 6=.pointer (some ⟨A,0,none⟩)
 e2:L 2->s 7=mval a
 e3:L 3->s 8=sval ((gt e (tSweep a)).1)
 e4:L 4->s 9=.pointer (some ⟨b,21*2,none⟩)
 e5:L 5->s 10=sval (tAt a 21)
 e6:L 6->s 11=sval ((gt ((gt e (tSweep a)).2) (sAdd ((gt e (tSweep a)).1) (tAt a 21))).1)
 b6_3:L 6->L 3
theorem rf_bound (A:Nat) (e:Int) (a:List (Int×Int)) (ha:a.length=22) (w:World) (h:w.heap[A]?=some (iobj 62 e)) :
  Calls Tryz.prog 36 #[.pointer (some ⟨A,0,none⟩),mval a] w fun r w'=>r=.returned (sval (gt e (tBound a)).1)/\w'.heap[A]?=some (iobj 62 ((gt e (tBound a)).2))/\Mut [A] w w':=by
 have HE0:=lh h
 clear h
 have HL:=lh ha
 clear ha
 rw [show gt e (tBound a)=gt (gt e (tSweep a)).2 (sAdd (gt e (tSweep a)).1 (tAt a 21)) from by rw [←rBound_eq,rBound,rSweep_eq]]
 go_enter Tryz.func36,Tryz.ntmps36
 refine wsk fun K0 HK0=>?_
 go_wp2_with fail
 rename_i x1 cs1 hc1
 obtain rfl:(mc a).toArray=cs1:=Value.agg.inj hc1
 clear hc1
 obtain ⟨b,hb⟩:∃b,w.heap.size=b:=⟨_,rfl⟩
 have HLT:=lh (show A<b from hb ▸ lt_of_block HE0.out)
 refine HK0.out _ _ ?_
 refine wp_world (fun V=>Mut [A] w V/\V.heap[A]?=some (iobj 62 e)/\V.heap[b]?=some (cobj 34 a)/\V.heap[b+1]?=some (cobj 31 [(0,0)])) ?_
  (by
   rw [←hb]
   exact ⟨(((Mut.refl _ _).alloc _).alloc _),heap_up _ (heap_up _ (HE0.out)),heap_up _ (heap_at (cobj 34 a) (by simp)),heap_at (cobj 31 [(0,0)]) (by simp)⟩)
 rintro V ⟨hm,hHE,hHA,hHR⟩
 rw [hb]
 have HM:=lh hm
 have HBW:=lh hb
 have HE:=lh hHE
 have HA:=lh hHA
 have HR:=lh hHR
 clear hm hHE hHA hHR hb HK0 HE0
 refine wsk fun K1 HK1=>?_
 refine wc (nn::nn::nn::nn::nn::some 5::some 6::some 7::some 8::some 9::some 10::some 11::[]) (fun _ w'=>Mut [b+1,A] V w'/\w'.heap[b+1]?=some (cobj 31 ([(gt (gt e (tSweep a)).2 (sAdd (gt e (tSweep a)).1 (tAt a 21))).1]))/\w'.heap[A]?=some (iobj 62 ((gt ((gt e (tSweep a)).2) (sAdd ((gt e (tSweep a)).1) (tAt a 21))).2))) ?_ ?_
 ·intro Q2 hQ2
  refine wG (Zb1 V A e a b) ?_ ?_ ?_
  ·exact ⟨Mut.start _ true _,fun _=>HR.out,nB,fun _=>HE.out,nB,nB,nB,nB,nB,nB,nB,nB,nB,nB⟩
  ·refine aC ?_ (aC ?_ (aC ?_ (aC ?_ (aC ?_ (aC ?_ (aC ?_ (aC ?_ aN)))))))
   ·intro L s w2 h hk hd hn K hK
    exact rs_move rfl (hk 0) (hK {h with e0:=rF})
   ·intro L s w2 h hk hd hn K hK
    exact rs_move rfl (hk 0) (hK {h with e1:=rF})
   ·intro L s w2 h hk hd hn K hK
    have kb:=kX h.mu HA (by have:=HLT.out;have:=lt_of_block HE.out;omega) (by have:=HLT.out;have:=lt_of_block HE.out;omega)
    exact rs_load rfl (hk 3) (md_load kb HL.out) (hK {h with e2:=rF})
   ·intro L s w2 h hk hd hn K hK
    have s6:=h.e1 hd.1
    have s7:=h.e2 hd.2.1
    have kb:=h.kg_c_0 hn
    go_simp
    refine (rf_sweep _ e a HL.out _ kb).mono ?_
    rintro e w3 ⟨rfl,hkr,hb⟩
    exact .inl ⟨_,rfl,hK {h with mu:=mS h.mu hb (List.Mem.tail _ (List.Mem.head _)),kt_r:=fun a=>hS hb (by have:=HLT.out;have:=lt_of_block HE.out;omega) (h.kt_r a),kr_r:=fun a=>hS hb (by have:=HLT.out;have:=lt_of_block HE.out;omega) (h.kr_r a),kg_c_0:=nF,kg_c_1:=fun _ _=>hkr,kg_c_2:=fun a=>aB (h.b6_3 a) hn,e3:=rF,b6_3:=rF}⟩
   ·intro L s w2 h hk hd hn K hK
    exact rs_field rfl (hk 3) (fl_model1 _ _) (hK {h with e4:=rF})
   ·intro L s w2 h hk hd hn K hK
    have kb:=kX h.mu HA (by have:=HLT.out;have:=lt_of_block HE.out;omega) (by have:=HLT.out;have:=lt_of_block HE.out;omega)
    exact rs_load rfl (h.e4 hd.1) (sp_load (p:=21) kb (by have:=(HL.out:a.length=22);omega)) (hK {h with e5:=rF})
   ·intro L s w2 h hk hd hn K hK
    have s5:=h.e0 hd.1
    have s8:=h.e3 hd.2.1
    have s10:=h.e5 hd.2.2.1
    have kb:=h.kg_c_1 hd.2.1 hn
    go_simp
    refine (rf_add _ ((gt e (tSweep a)).2) ((gt e (tSweep a)).1) (tAt a 21) _ kb).mono ?_
    rintro e w3 ⟨rfl,hkr,hb⟩
    exact .inl ⟨_,rfl,hK {h with mu:=mS h.mu hb (List.Mem.tail _ (List.Mem.head _)),kt_r:=fun a=>hS hb (by have:=HLT.out;have:=lt_of_block HE.out;omega) (h.kt_r a),kr_r:=fun a=>hS hb (by have:=HLT.out;have:=lt_of_block HE.out;omega) (h.kr_r a),kg_c_0:=fun a=>absurd (a.symm.trans hd.2.1) bft,kg_c_1:=fun a c=>absurd c.symm bft,kg_c_2:=fun _=>hkr,e6:=rF,b6_3:=fun _=>hd.2.1}⟩
   ·intro L s w2 h hk hd hn K hK
    have kb:=h.kt_r hn
    exact rs_store rfl (hk 4) (h.e6 hd.1) (sp_store (p:=0) kb (by simp) ((gt ((gt e (tSweep a)).2) (sAdd ((gt e (tSweep a)).1) (tAt a 21))).1)) (hK {h with mu:=h.mu.put (List.Mem.head _) _,kg_c_0:=fun a=>pO (by have:=HLT.out;have:=lt_of_block HE.out;omega) (h.kg_c_0 a),kg_c_1:=fun a c=>pO (by have:=HLT.out;have:=lt_of_block HE.out;omega) (h.kg_c_1 a c),kg_c_2:=fun a=>pO (by have:=HLT.out;have:=lt_of_block HE.out;omega) (h.kg_c_2 a),kt_r:=nF,kr_r:=fun _=>pH kb})
  ·intro L s w2 h hk hl
   refine cA ?_ (hQ2 s w2 (⟨h.mu,h.kr_r (hl 7),h.kg_c_2 (hl 6)⟩))
   exact fq hk
 rintro s1 V ⟨h1,c_r,c_c⟩
 simp only [mergeL]
 replace HE:=lh c_c
 replace HA:=j2 h1 HA (by have:=HLT.out;omega) (by have:=HLT.out;omega)
 replace HR:=lh c_r
 replace HM:=lh (HM.out.stepM h1 (by have:=HBW.out;have:=HLT.out;intro x hx;simp only [List.mem_cons,List.not_mem_nil,or_false] at hx;rcases hx with rfl | rfl<;>first | exact .inl (List.mem_singleton.2 rfl) | (right;omega)))
 clear h1 c_r c_c
 refine HK1.out _ _ ?_
 refine wp_ret ?_
 exact bodyPost_ret (v:=sval (gt (gt e (tSweep a)).2 (sAdd (gt e (tSweep a)).1 (tAt a 21))).1) (res_span Tryz.results36 rfl (sp_loadVar HR.out)) rfl ⟨rfl,HE.out,HM.out⟩
structure Zta1 (V:World) (A:Nat) (L:Nat->Bool) (s:Nat->Value) (w:World):Prop where
 mu:Mut [] V w
 e0:L 0->s 6=.pointer (some ⟨A,0,none⟩)
 e1:L 1->s 7=.pointer (some ⟨A,0,none⟩)
 e2:L 2->s 8=.pointer (some ⟨A,0,none⟩)
 e3:L 3->s 9=.int .i64 0
 e4:L 4->s 10=.bool false
structure Zta3 (V:World) (a:List (Int×Int)) (b:Nat) (L:Nat->Bool) (s:Nat->Value) (w:World):Prop where
 mu:Mut [b+1] V w
 kt_r:L 1=false->w.heap[b+1]?=some (cobj 34 zeroM)
 kr_r:L 1->w.heap[b+1]?=some (cobj 34 a)
 e0:L 0->s 16=mval a
 e2:L 2->s 5=.int .i64 ((0:Nat):Int)
theorem rf_told_a (A:Nat) (a:List (Int×Int)) (ha:a.length=22) (w:World) (h:w.heap[A]?=some (iobj 62 0)) :
  Calls Tryz.prog 30 #[.pointer (some ⟨A,0,none⟩),mval a] w fun r w'=>r=.returned (.tuple #[mval a,.int .i64 0])/\w'.heap[A]?=some (iobj 62 (0))/\Mut [A] w w':=by
 have HE0:=lh h
 clear h
 have HL:=lh ha
 clear ha
 go_enter Tryz.func30,Tryz.ntmps30
 refine wsk fun K0 HK0=>?_
 go_wp2_with fail
 rename_i x1 cs1 hc1
 obtain rfl:(mc a).toArray=cs1:=Value.agg.inj hc1
 clear hc1
 obtain ⟨b,hb⟩:∃b,w.heap.size=b:=⟨_,rfl⟩
 have HLT:=lh (show A<b from hb ▸ lt_of_block HE0.out)
 refine HK0.out _ _ ?_
 refine wp_world (fun V=>Mut [A] w V/\V.heap[A]?=some (iobj 62 0)/\V.heap[b]?=some (cobj 34 a)/\V.heap[b+1]?=some (cobj 34 zeroM)) ?_
  (by
   rw [←hb]
   exact ⟨(((Mut.refl _ _).alloc _).alloc _),heap_up _ (heap_up _ (HE0.out)),heap_up _ (heap_at (cobj 34 a) (by simp)),heap_at (cobj 34 zeroM) (by simp)⟩)
 rintro V ⟨hm,hHE,hHA,hHR⟩
 rw [hb]
 have HM:=lh hm
 have HBW:=lh hb
 have HE:=lh hHE
 have HA:=lh hHA
 have HR:=lh hHR
 clear hm hHE hHA hHR hb HK0 HE0
 refine wsk fun KB HKB=>?_
 refine wsk fun K1 HK1=>?_
 refine wc (nn::nn::nn::nn::nn::nn::some 6::some 7::some 8::some 9::some 10::nn::nn::nn::nn::nn::nn::[]) (fun s w'=>Mut [] V w'/\s 10=.bool false) ?_ ?_
 ·intro Q2 hQ2
  refine wG (Zta1 V A) ?_ ?_ ?_
  ·exact ⟨Mut.start _ false _,nB,nB,nB,nB,nB⟩
  ·refine aC ?_ (aC ?_ (aC ?_ (aC ?_ (aC ?_ aN))))
   ·intro L s w2 h hk hd hn K hK
    exact rs_move rfl (hk 0) (hK {h with e0:=rF})
   ·intro L s w2 h hk hd hn K hK
    have s6:=h.e0 hd.1
    go_simp
    exact hK {h with e1:=rF}
   ·intro L s w2 h hk hd hn K hK
    exact rs_field rfl (h.e1 hd.1) (fl_sums _ _) (hK {h with e2:=rF})
   ·intro L s w2 h hk hd hn K hK
    have kb:=kZ h.mu HE
    exact rs_load rfl (h.e2 hd.1) (e_load kb) (hK {h with e3:=rF})
   ·intro L s w2 h hk hd hn K hK
    have s9:=h.e3 hd.1
    go_simp
    exact hK {h with e4:=rF}
  ·intro L s w2 h hk hl
   refine cA ?_ (hQ2 s w2 (⟨h.mu,h.e4 (hl 4)⟩))
   exact fq hk
 rintro s1 V ⟨h1,k10⟩
 simp only [mergeL]
 rw [k10]
 replace HE:=sm h1 HE
 replace HA:=sm h1 HA
 replace HR:=sm h1 HR
 replace HM:=mE HM h1
 clear h1 k10
 refine HK1.out _ _ ?_
 refine wp_cond_false (by rfl) ?_
 go_wp2_with fail
 refine HKB.out _ _ ?_
 refine wsk fun K3 HK3=>?_
 refine wc (nn::nn::nn::nn::nn::some 5::n8 (nn::nn::some 16::[])) (fun s w'=>Mut [b+1] V w'/\w'.heap[b+1]?=some (cobj 34 a)/\s 5=.int .i64 ((0:Nat):Int)) ?_ ?_
 ·intro Q2 hQ2
  refine wG (Zta3 V a b) ?_ ?_ ?_
  ·exact ⟨Mut.start _ false _,fun _=>HR.out,nB,nB,nB⟩
  ·refine aC ?_ (aC ?_ (aC ?_ aN))
   ·intro L s w2 h hk hd hn K hK
    have kb:=kY h.mu HA (by have:=HLT.out;have:=lt_of_block HE.out;omega)
    exact rs_load rfl (hk 3) (md_load kb HL.out) (hK {h with e0:=rF})
   ·intro L s w2 h hk hd hn K hK
    have kb:=h.kt_r hn
    exact rs_store rfl (hk 4) (h.e0 hd.1) (md_store kb rfl _ HL.out) (hK {h with mu:=h.mu.put (List.Mem.head _) _,kt_r:=nF,kr_r:=fun _=>pH kb})
   ·intro L s w2 h hk hd hn K hK
    exact rs_assign rfl rfl (hK {h with e2:=rF})
  ·intro L s w2 h hk hl
   refine cA ?_ (hQ2 s w2 (⟨h.mu,h.kr_r (hl 1),h.e2 (hl 2)⟩))
   exact fq hk
 rintro s3 V ⟨h1,c_r,k5⟩
 simp only [mergeL]
 rw [k5]
 replace HE:=j1 h1 HE (by have:=HLT.out;omega)
 replace HA:=j1 h1 HA (by have:=HLT.out;omega)
 replace HR:=lh c_r
 replace HM:=lh (HM.out.stepM h1 (by have:=HBW.out;have:=HLT.out;intro x hx;rw [List.mem_singleton.1 hx];first | exact .inl (List.mem_singleton.2 rfl) | (right;omega)))
 clear h1 c_r k5
 refine HK3.out _ _ ?_
 refine wp_ret ?_
 exact bodyPost_ret (v:=.tuple #[mval a,.int .i64 0]) (res_slot Tryz.results30 rfl rfl (md_loadVar HR.out HL.out)) rfl ⟨rfl,HE.out,HM.out⟩
structure Ztb1 (V:World) (A:Nat) (e:Int) (L:Nat->Bool) (s:Nat->Value) (w:World):Prop where
 mu:Mut [] V w
 e0:L 0->s 6=.pointer (some ⟨A,0,none⟩)
 e1:L 1->s 7=.pointer (some ⟨A,0,none⟩)
 e2:L 2->s 8=.pointer (some ⟨A,0,none⟩)
 e3:L 3->s 9=.int .i64 e
 e4:L 4->s 10=.bool true
structure Ztb2 (V:World) (A:Nat) (e:Int) (b:Nat) (L:Nat->Bool) (s:Nat->Value) (w:World):Prop where
 mu:Mut [b+1] V w
 kt_r:L 5=false->w.heap[b+1]?=some (cobj 34 zeroM)
 kr_r:L 5->w.heap[b+1]?=some (cobj 34 zeroM)
 e0:L 0->s 11=mval zeroM
 e1:L 1->s 12=.pointer (some ⟨A,0,none⟩)
 e2:L 2->s 13=.pointer (some ⟨A,0,none⟩)
 e3:L 3->s 14=.pointer (some ⟨A,0,none⟩)
 e4:L 4->s 15=.int .i64 e
 e6:L 6->s 5=.int .i64 e
theorem rf_told_b (A:Nat) (e:Int) (a:List (Int×Int)) (ha:a.length=22) (he:¬e=0) (w:World) (h:w.heap[A]?=some (iobj 62 e)) :
  Calls Tryz.prog 30 #[.pointer (some ⟨A,0,none⟩),mval a] w fun r w'=>r=.returned (.tuple #[mval zeroM,.int .i64 e])/\w'.heap[A]?=some (iobj 62 (e))/\Mut [A] w w':=by
 have HE0:=lh h
 clear h
 have HL:=lh ha
 clear ha
 have HNE:=lh he
 clear he
 go_enter Tryz.func30,Tryz.ntmps30
 refine wsk fun K0 HK0=>?_
 go_wp2_with fail
 rename_i x1 cs1 hc1
 obtain rfl:(mc a).toArray=cs1:=Value.agg.inj hc1
 clear hc1
 obtain ⟨b,hb⟩:∃b,w.heap.size=b:=⟨_,rfl⟩
 have HLT:=lh (show A<b from hb ▸ lt_of_block HE0.out)
 refine HK0.out _ _ ?_
 refine wp_world (fun V=>Mut [A] w V/\V.heap[A]?=some (iobj 62 e)/\V.heap[b]?=some (cobj 34 a)/\V.heap[b+1]?=some (cobj 34 zeroM)) ?_
  (by
   rw [←hb]
   exact ⟨(((Mut.refl _ _).alloc _).alloc _),heap_up _ (heap_up _ (HE0.out)),heap_up _ (heap_at (cobj 34 a) (by simp)),heap_at (cobj 34 zeroM) (by simp)⟩)
 rintro V ⟨hm,hHE,hHA,hHR⟩
 rw [hb]
 have HM:=lh hm
 have HBW:=lh hb
 have HE:=lh hHE
 have HA:=lh hHA
 have HR:=lh hHR
 clear hm hHE hHA hHR hb HK0 HE0
 refine wsk fun KB HKB=>?_
 refine wsk fun K1 HK1=>?_
 refine wc (nn::nn::nn::nn::nn::nn::some 6::some 7::some 8::some 9::some 10::nn::nn::nn::nn::nn::nn::[]) (fun s w'=>Mut [] V w'/\s 10=.bool true) ?_ ?_
 ·intro Q2 hQ2
  refine wG (Ztb1 V A e) ?_ ?_ ?_
  ·exact ⟨Mut.start _ false _,nB,nB,nB,nB,nB⟩
  ·refine aC ?_ (aC ?_ (aC ?_ (aC ?_ (aC ?_ aN))))
   ·intro L s w2 h hk hd hn K hK
    exact rs_move rfl (hk 0) (hK {h with e0:=rF})
   ·intro L s w2 h hk hd hn K hK
    have s6:=h.e0 hd.1
    go_simp
    exact hK {h with e1:=rF}
   ·intro L s w2 h hk hd hn K hK
    exact rs_field rfl (h.e1 hd.1) (fl_sums _ _) (hK {h with e2:=rF})
   ·intro L s w2 h hk hd hn K hK
    have kb:=kZ h.mu HE
    exact rs_load rfl (h.e2 hd.1) (e_load kb) (hK {h with e3:=rF})
   ·intro L s w2 h hk hd hn K hK
    have s9:=h.e3 hd.1
    go_simp
    exact hK {h with e4:=fun _=>congrArg Value.bool (by simp;exact HNE.out)}
  ·intro L s w2 h hk hl
   refine cA ?_ (hQ2 s w2 (⟨h.mu,h.e4 (hl 4)⟩))
   exact fq hk
 rintro s1 V ⟨h1,k10⟩
 simp only [mergeL]
 rw [k10]
 replace HE:=sm h1 HE
 replace HA:=sm h1 HA
 replace HR:=sm h1 HR
 replace HM:=mE HM h1
 clear h1 k10
 refine HK1.out _ _ ?_
 refine wp_cond_true (by rfl) ?_
 refine wsk fun K2 HK2=>?_
 refine wc (nn::nn::nn::nn::nn::some 5::nn::nn::nn::nn::nn::some 11::some 12::some 13::some 14::some 15::nn::[]) (fun s w'=>Mut [b+1] V w'/\w'.heap[b+1]?=some (cobj 34 zeroM)/\s 5=.int .i64 e) ?_ ?_
 ·intro Q2 hQ2
  refine wG (Ztb2 V A e b) ?_ ?_ ?_
  ·exact ⟨Mut.start _ true _,fun _=>HR.out,nB,nB,nB,nB,nB,nB,nB⟩
  ·refine aC ?_ (aC ?_ (aC ?_ (aC ?_ (aC ?_ (aC ?_ (aC ?_ aN))))))
   ·intro L s w2 h hk hd hn K hK
    exact rs_bld (vs:=#[]) rfl (by simp) (by kernel_rfl) (hK {h with e0:=rF})
   ·intro L s w2 h hk hd hn K hK
    exact rs_move rfl (hk 0) (hK {h with e1:=rF})
   ·intro L s w2 h hk hd hn K hK
    have s12:=h.e1 hd.1
    go_simp
    exact hK {h with e2:=rF}
   ·intro L s w2 h hk hd hn K hK
    exact rs_field rfl (h.e2 hd.1) (fl_sums _ _) (hK {h with e3:=rF})
   ·intro L s w2 h hk hd hn K hK
    have kb:=kY h.mu HE (by have:=HLT.out;have:=lt_of_block HE.out;omega)
    exact rs_load rfl (h.e3 hd.1) (e_load kb) (hK {h with e4:=rF})
   ·intro L s w2 h hk hd hn K hK
    have kb:=h.kt_r hn
    exact rs_store rfl (hk 4) (h.e0 hd.1) (md_store kb rfl _ rfl) (hK {h with mu:=h.mu.put (List.Mem.head _) _,kt_r:=nF,kr_r:=fun _=>pH kb})
   ·intro L s w2 h hk hd hn K hK
    exact rs_assign rfl (h.e4 hd.1) (hK {h with e6:=rF})
  ·intro L s w2 h hk hl
   refine cA ?_ (hQ2 s w2 (⟨h.mu,h.kr_r (hl 5),h.e6 (hl 6)⟩))
   exact fq hk
 rintro s2 V ⟨h1,c_r,k5⟩
 simp only [mergeL]
 rw [k5]
 replace HE:=j1 h1 HE (by have:=HLT.out;omega)
 replace HA:=j1 h1 HA (by have:=HLT.out;omega)
 replace HR:=lh c_r
 replace HM:=lh (HM.out.stepM h1 (by have:=HBW.out;have:=HLT.out;intro x hx;rw [List.mem_singleton.1 hx];first | exact .inl (List.mem_singleton.2 rfl) | (right;omega)))
 clear h1 c_r k5
 refine HK2.out _ _ ?_
 go_wp2_with fail
 exact bodyPost_ret (v:=.tuple #[mval zeroM,.int .i64 e]) (res_slot Tryz.results30 rfl rfl (md_loadVar HR.out rfl)) rfl ⟨rfl,HE.out,HM.out⟩
theorem rf_told (A:Nat) (e:Int) (a:List (Int×Int)) (ha:a.length=22) (w:World) (h:w.heap[A]?=some (iobj 62 e)) :
  Calls Tryz.prog 30 #[.pointer (some ⟨A,0,none⟩),mval a] w fun r w'=>r=.returned (.tuple #[mval (rTold (a,e)).1,.int .i64 (rTold (a,e)).2])/\w'.heap[A]?=some (iobj 62 e)/\Mut [A] w w':=by
 unfold rTold
 by_cases he:e=0
 ·subst he
  exact rf_told_a A a ha w h
 ·simp only [if_neg he]
  exact rf_told_b A e a ha he w h
theorem su_store {W:World} {B:Nat} {n m:Int} (h:W.heap[B]?=some (iobj 62 n)):(Instr.storeAt 62 (.pointer (some ⟨B,0,none⟩)) (.agg #[.int .i64 m])).run Tryz.prog W=.ok () (W.putObj B (iobj 62 m)):=by
 have c:=cell_of_one h
 have f:W.frozen? ⟨B,0,none⟩=false:=by simp [World.frozen?,h,iobj]
 have e:=setCell_put (W:=W) (cs:=#[.int .i64 n]) (fr:=(0,0)) (t:=62) h 0 (.int .i64 m)
 have hs:(Instr.storeAt 62 (.pointer (some ⟨B,0,none⟩)) (.agg #[.int .i64 m])).run Tryz.prog W=.ok () (W.setCell ⟨B,0,none⟩ (.int .i64 m)):=by
  simp [go_sem,c,f]
 rw [hs,e]
 rfl
theorem su_build (n:Int) (W:World):(Instr.build 62 #[(0,.int .i64 n)]).run Tryz.prog W=.ok (.agg #[.int .i64 n]) W:=by kernel_rfl
theorem rTold_len {r:RS} (h:r.1.length=22):(rTold r).1.length=22:=by
 unfold rTold
 split
 ·exact h
 ·rfl
theorem rf_productP {a d:List (Int×Int)} {P:RS} {e:Int} (hP:rProduct a d e=P) (A:Nat) (ha:a.length=22) (hd:d.length=22) (w:World) (h:w.heap[A]?=some (iobj 62 e)) :
  Calls Tryz.prog 31 #[.pointer (some ⟨A,0,none⟩),mval a,mval d] w fun r w'=>r=.returned (mval P.1)/\w'.heap[A]?=some (iobj 62 P.2)/\Mut [A] w w':=by
 subst hP
 exact rf_product A e a d ha hd w h
theorem rf_toldP {a:List (Int×Int)} {e:Int} {T:List (Int×Int)×Int} (hT:rTold (a,e)=T) (A:Nat) (ha:a.length=22) (w:World) (h:w.heap[A]?=some (iobj 62 e)) :
  Calls Tryz.prog 30 #[.pointer (some ⟨A,0,none⟩),mval a] w fun r w'=>r=.returned (.tuple #[mval T.1,.int .i64 T.2])/\w'.heap[A]?=some (iobj 62 e)/\Mut [A] w w':=by
 subst hT
 exact rf_told A e a ha w h
end Go.Proofs.YthhkcfpljgdnhaaGreat
