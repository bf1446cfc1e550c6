/- The reference of layer 21: series. Printed by wip/genSU.py. -/
import Derived.Test.YthhkcfpljgdnhaaGreatRefTH
import Derived.Test.YthhkcfpljgdnhaaGreatRefTJ
import Derived.Test.YthhkcfpljgdnhaaGreatTayPl
import Derived.Test.YthhkcfpljgdnhaaGreatRefTM
namespace Go.Proofs.YthhkcfpljgdnhaaGreat
open Go.RowKit Mnc
attribute [local go_sem] RunSP_value RunSP_skip RunSP_enter evS_tmp evS_const evS_global evS_func
theorem ix_six {W:World} (B k:Nat) (hk:k<6):(Instr.indexAt 74 (.pointer (some ⟨B,0,none⟩)) (.int .i64 (k:Int))).run Tryz.prog W=.ok (.pointer (some ⟨B,k,none⟩)) W:=by
 rw [run_indexAt_array (h:=by kernel_rfl)]
 have hn:Tryz.prog.arrayLen 74=6:=by kernel_rfl
 have hs:(sizeOf (Tryz.prog.elem 74)).run Tryz.prog W=.ok 1 W:=by kernel_rfl
 rw [hn,if_pos (by omega),hs]
 simp only [Result.andThen,Int.toNat_natCast,Addr.add_mid,Nat.zero_add,Nat.mul_one]
theorem ld_six {W:World} {B k:Nat} {n0 n1 n2 n3 n4 n5 s:Int} (h:W.heap[B]?=some (.cells #[.int .i64 n0,.int .i64 n1,.int .i64 n2,.int .i64 n3,.int .i64 n4,.int .i64 n5] 74 (0,0))) (hk:k<6) (hs:[n0,n1,n2,n3,n4,n5].getD k 0=s):(Instr.loadAt 3 (.pointer (some ⟨B,k,none⟩))).run Tryz.prog W=.ok (.int .i64 s) W:=by
 subst hs
 have c:=cell_of_row W B k _ _ _ h
 rcases k with _ | _ | _ | _ | _ | _ | k<;>first | omega | (simp at c;simp [go_sem,c])
structure Zk2 (V:World) (n5:Int) (b:Nat) (g0:Nat) (L:Nat->Bool) (s:Nat->Value) (w:World):Prop where
 mu:Mut [g0] V w
 kt_o:L 5=false->w.heap[g0]?=some (cobj 34 zeroM)
 kr_o:L 5->w.heap[g0]?=some (cobj 34 (zeroM.set 0 (n5,n5)))
 e0:L 0->s 9=.pointer (some ⟨b+1,5,none⟩)
 e1:L 1->s 10=.int .i64 n5
 e2:L 2->s 11=sval (n5,n5)
 e3:L 3->s 12=.pointer (some ⟨g0,0,none⟩)
 e4:L 4->s 13=.pointer (some ⟨g0,0*2,none⟩)
structure Zk6 (V:World) (A:Nat) (hh:List (Int×Int)) (S:List (Int×Int)) (ee:Int) (P:RS) (g0:Nat) (L:Nat->Bool) (s:Nat->Value) (w:World):Prop where
 mu:Mut [g0,A] V w
 kt_o:L 4=false->w.heap[g0]?=some (cobj 34 S)
 kr_o:L 4->w.heap[g0]?=some (cobj 34 P.1)
 kg_c_0:L 3=false->w.heap[A]?=some (iobj 62 ee)
 kg_c_1:L 3->w.heap[A]?=some (iobj 62 P.2)
 e0:L 0->s 18=.pointer (some ⟨A,0,none⟩)
 e1:L 1->s 19=mval hh
 e2:L 2->s 20=mval S
 e3:L 3->s 21=mval P.1
 b4_2:L 4->L 2
structure Zk7 (V:World) (A:Nat) (b:Nat) (j:Nat) (P:RS) (sk:Int) (g0:Nat) (L:Nat->Bool) (s:Nat->Value) (w:World):Prop where
 mu:Mut [g0,A] V w
 kt_o:L 11=false->w.heap[g0]?=some (cobj 34 P.1)
 kr_o:L 11->w.heap[g0]?=some (cobj 34 (P.1.set 0 (gt P.2 (sAdd (tAt P.1 0) (sk,sk))).1))
 kg_c_0:L 8=false->w.heap[A]?=some (iobj 62 P.2)
 kg_c_1:L 8->w.heap[A]?=some (iobj 62 ((gt P.2 (sAdd (tAt P.1 0) (sk,sk))).2))
 e0:L 0->s 22=.pointer (some ⟨A,0,none⟩)
 e1:L 1->s 23=.pointer (some ⟨g0,0,none⟩)
 e2:L 2->s 24=.pointer (some ⟨g0,0*2,none⟩)
 e3:L 3->s 25=sval (tAt P.1 0)
 e4:L 4->s 26=.int .i64 ((j:Nat):Int)
 e5:L 5->s 27=.pointer (some ⟨b+1,j,none⟩)
 e6:L 6->s 28=.int .i64 sk
 e7:L 7->s 29=sval (sk,sk)
 e8:L 8->s 30=sval ((gt P.2 (sAdd (tAt P.1 0) (sk,sk))).1)
 e9:L 9->s 31=.pointer (some ⟨g0,0,none⟩)
 e10:L 10->s 32=.pointer (some ⟨g0,0*2,none⟩)
 b11_3:L 11->L 3
structure Zk8 (V:World) (b:Nat) (T:RS) (L:Nat->Bool) (s:Nat->Value) (w:World):Prop where
 mu:Mut [b+1+1] V w
 kt_r:L 1=false->w.heap[b+1+1]?=some (cobj 34 zeroM)
 kr_r:L 1->w.heap[b+1+1]?=some (cobj 34 T.1)
 e0:L 0->s 33=mval T.1
set_option maxRecDepth 100000 in
set_option maxHeartbeats 4000000 in
theorem rf_series (A:Nat) (e:Int) (hh:List (Int×Int)) (ha:hh.length=22) (n0 n1 n2 n3 n4 n5:Int) (T:RS) (hT:rSeries hh [n4,n3,n2,n1,n0] (zeroM.set 0 (n5,n5),e)=T) (w:World) (h:w.heap[A]?=some (iobj 62 e)) :
  Calls Tryz.prog 47 #[.pointer (some ⟨A,0,none⟩),mval hh,.agg #[.int .i64 n0,.int .i64 n1,.int .i64 n2,.int .i64 n3,.int .i64 n4,.int .i64 n5]] w fun r w'=>r=.returned (mval T.1)/\w'.heap[A]?=some (iobj 62 (T.2))/\Mut [A] w w':=by
 have HE0:=lh h
 clear h
 have HL:=lh ha
 clear ha
 have HLT3:=lh (show T.1.length=22 by rw [←hT];exact rSeries_len _ _ _ rfl)
 have HTT:=lh hT
 clear hT
 go_enter Tryz.func47,Tryz.ntmps47
 refine wsk fun K0 HK0=>?_
 go_wp2_with fail
 rename_i x1 cs1 hc1
 obtain rfl:(mc hh).toArray=cs1:=Value.agg.inj hc1
 clear hc1
 obtain ⟨b,hb⟩:∃b,w.heap.size=b:=⟨_,rfl⟩
 have HLT:=lh (show A<b from hb ▸ lt_of_block HE0.out)
 refine HK0.out _ _ ?_
 refine wp_world (fun V=>Mut [A] w V/\V.heap[A]?=some (iobj 62 e)/\V.heap[b]?=some (cobj 34 hh)/\V.heap[b+1]?=some (.cells #[.int .i64 n0,.int .i64 n1,.int .i64 n2,.int .i64 n3,.int .i64 n4,.int .i64 n5] 74 (0,0))/\V.heap[b+1+1]?=some (cobj 34 zeroM)) ?_
  (by
   rw [←hb]
   exact ⟨((((Mut.refl _ _).alloc _).alloc _).alloc _),heap_up _ (heap_up _ (heap_up _ (HE0.out))),heap_up _ (heap_up _ (heap_at (cobj 34 hh) (by simp))),heap_up _ (heap_at (.cells #[.int .i64 n0,.int .i64 n1,.int .i64 n2,.int .i64 n3,.int .i64 n4,.int .i64 n5] 74 (0,0)) (by simp)),heap_at (cobj 34 zeroM) (by simp)⟩)
 rintro V ⟨hm,hHE,hHA,hHN,hHR⟩
 rw [hb]
 have HM:=lh hm
 have HBW:=lh hb
 have HE:=lh hHE
 have HA:=lh hHA
 have HN:=lh hHN
 have HR:=lh hHR
 clear hm hHE hHA hHN hHR hb HK0 HE0
 refine wsk fun K1 HK1=>?_
 go_wp2_with fail
 refine HK1.out _ _ ?_
 obtain ⟨g0,hg⟩:∃g,V.heap.size=g:=⟨_,rfl⟩
 refine wp_world (fun V2=>Mut [A] w V2/\b<=g0/\V2.heap[A]?=some (iobj 62 e)/\V2.heap[b]?=some (cobj 34 hh)/\V2.heap[b+1]?=some (.cells #[.int .i64 n0,.int .i64 n1,.int .i64 n2,.int .i64 n3,.int .i64 n4,.int .i64 n5] 74 (0,0))/\V2.heap[b+1+1]?=some (cobj 34 zeroM)/\V2.heap[g0]?=some (cobj 34 zeroM)) ?_
  (by
   rw [←hg]
   exact ⟨HM.out.alloc _,by have:=HM.out.size;have:=HBW.out;omega,heap_up _ HE.out,heap_up _ HA.out,heap_up _ HN.out,heap_up _ HR.out,heap_at (cobj 34 zeroM) (by simp)⟩)
 replace HLT:=lh (show b<=g0/\A<g0/\b<g0/\b+1<g0/\b+1+1<g0/\A<b from by
  have hlt:=HLT.out
  have hbw:=HM.out.size
  have hbw2:=HBW.out
  have:=lt_of_block HE.out
  have:=lt_of_block HA.out
  have:=lt_of_block HN.out
  have:=lt_of_block HR.out
  omega)
 rintro V2 ⟨hm,-,qHE,qHA,qHN,qHR,hnew⟩
 rw [hg]
 replace HM:=lh hm
 replace HE:=lh qHE
 replace HA:=lh qHA
 replace HN:=lh qHN
 replace HR:=lh qHR
 have HO:=lh hnew
 clear hm hnew hg qHE qHA qHN qHR HK1
 clear V
 rename World=>V
 refine wsk fun K2 HK2=>?_
 refine wc (n8 (nn::some 9::some 10::some 11::some 12::some 13::n8 (n8 (nn::nn::nn::nn::[])))) (fun _ w'=>Mut [g0] V w'/\w'.heap[g0]?=some (cobj 34 (zeroM.set 0 (n5,n5)))) ?_ ?_
 ·intro Q2 hQ2
  refine wG (Zk2 V n5 b g0) ?_ ?_ ?_
  ·exact ⟨Mut.start _ false _,fun _=>HO.out,nB,nB,nB,nB,nB,nB⟩
  ·refine aC ?_ (aC ?_ (aC ?_ (aC ?_ (aC ?_ (aC ?_ aN)))))
   ·intro L s w2 h hk hd hn K hK
    exact rs_index rfl (hk 5) rfl (ix_six _ 5 (by decide)) (hK {h with e0:=rF})
   ·intro L s w2 h hk hd hn K hK
    have kb:=kY h.mu HN (by have:=HLT.out;have:=lt_of_block HE.out;omega)
    exact rs_load rfl (h.e0 hd.1) (ld_six (k:=5) kb (by decide) rfl) (hK {h with e1:=rF})
   ·intro L s w2 h hk hd hn K hK
    have s10:=h.e1 hd.1
    go_simp
    refine (rf_point n5 _).mono ?_
    rintro e w3 ⟨rfl,hb⟩
    exact .inl ⟨_,rfl,hK {h with mu:=h.mu.step hb,kt_o:=fun a=>bk hb (h.kt_o a),kr_o:=fun a=>bk hb (h.kr_o a),e2:=rF}⟩
   ·intro L s w2 h hk hd hn K hK
    exact rs_field rfl (hk 7) (fl_model0 _ _) (hK {h with e3:=rF})
   ·intro L s w2 h hk hd hn K hK
    exact rs_index rfl (h.e3 hd.1) rfl (ix_model _ 0 (by omega)) (hK {h with e4:=rF})
   ·intro L s w2 h hk hd hn K hK
    have kb:=h.kt_o hn
    exact rs_store rfl (h.e4 hd.1) (h.e2 hd.2.1) (sp_store (p:=0) kb (by decide) _) (hK {h with mu:=h.mu.put (List.Mem.head _) _,kt_o:=nF,kr_o:=fun _=>pH kb})
  ·intro L s w2 h hk hl
   refine cA ?_ (hQ2 s w2 (⟨h.mu,h.kr_o (hl 5)⟩))
   exact fq hk
 rintro s2 V ⟨h1,c_o⟩
 simp only [mergeL]
 replace HE:=j1 h1 HE (by have:=HLT.out;omega)
 replace HA:=j1 h1 HA (by have:=HLT.out;omega)
 replace HN:=j1 h1 HN (by have:=HLT.out;omega)
 replace HR:=j1 h1 HR (by have:=HLT.out;omega)
 replace HO:=lh c_o
 replace HM:=lh (HM.out.stepM h1 (by have:=HBW.out;have:=HLT.out;intro x hx;rw [List.mem_singleton.1 hx];first | exact .inl (List.mem_singleton.2 rfl) | (right;omega)))
 clear h1 c_o
 refine HK2.out _ _ ?_
 refine wsk fun KL HKL=>?_
 go_wp2_with fail
 go_loopw [8] (fun x wr=>∃(k:Nat) (z:Int),k<=5/\z=(k:Int)-1/\x=.int .i64 z/\Hid (∃(S:List (Int×Int)) (ee:Int),Mut [g0,A] V wr/\wr.heap[A]?=some (iobj 62 ee)/\wr.heap[g0]?=some (cobj 34 S)/\S.length=22/\rSeries hh ([n0,n1,n2,n3,n4,n5].take k).reverse (S,ee)=T)) (fun x _=>(intOf x+1).toNat)
 case atStart=>exact ⟨5,4,by omega,rfl,rfl,lh ⟨zeroM.set 0 (n5,n5),e,Mut.refl _ _,HE.out,HO.out,rfl,HTT.out⟩⟩
 case round =>
  obtain ⟨k,z,hk5,hz,rfl,HG⟩:=hrel
  obtain ⟨S,ee,hmu,hE,hO,hls,hq⟩:=HG.out
  have HQ:=lh hq
  have HLS:=lh hls
  clear hq HG hls
  have hm2:=HM.out.stepM hmu (by have:=HBW.out;have:=HLT.out;intro x hx;simp only [List.mem_cons,List.not_mem_nil,or_false] at hx;rcases hx with rfl | rfl<;>first | exact .inl (List.mem_singleton.2 rfl) | (right;omega))
  refine wp_world (fun U=>Mut [A] w U/\Mut [g0,A] V U/\U.heap[A]?=some (iobj 62 ee)/\U.heap[b]?=some (cobj 34 hh)/\U.heap[b+1]?=some (.cells #[.int .i64 n0,.int .i64 n1,.int .i64 n2,.int .i64 n3,.int .i64 n4,.int .i64 n5] 74 (0,0))/\U.heap[b+1+1]?=some (cobj 34 zeroM)/\U.heap[g0]?=some (cobj 34 S)) ?_ ⟨hm2,hmu,hE,((hmu.same _ (lt_of_block HA.out) (notin2 (by have:=HLT.out;omega) (by have:=HLT.out;omega))).trans HA.out),((hmu.same _ (lt_of_block HN.out) (notin2 (by have:=HLT.out;omega) (by have:=HLT.out;omega))).trans HN.out),((hmu.same _ (lt_of_block HR.out) (notin2 (by have:=HLT.out;omega) (by have:=HLT.out;omega))).trans HR.out),hO⟩
  clear hm2 HM HE HA HN HR HO hmu hE hO
  rintro V ⟨q1,q2,qHE,qHA,qHN,qHR,qHO⟩
  have HM:=lh q1
  have HGM:=lh q2
  have HE:=lh qHE
  have HA:=lh qHA
  have HN:=lh qHN
  have HR:=lh qHR
  have HO:=lh qHO
  clear q1 q2 qHE qHA qHN qHR qHO
  rcases k with _ | j
  ·obtain rfl:z=-1:=by omega
   clear hz hk5
   go_wp2_with fail
   refine HKL.out _ _ ?_
   replace HO:=lh (show V.heap[g0]?=some (cobj 34 T.1) by rw [←HQ.out];exact HO.out)
   replace HE:=lh (show V.heap[A]?=some (iobj 62 T.2) by rw [←HQ.out];exact HE.out)
   clear HQ
   refine wsk fun K8 HK8=>?_
   refine wc (n8 (n8 (n8 (n8 (nn::some 33::[]))))) (fun _ w'=>Mut [b+1+1] V w'/\w'.heap[b+1+1]?=some (cobj 34 T.1)) ?_ ?_
   ·intro Q2 hQ2
    refine wG (Zk8 V b T) ?_ ?_ ?_
    ·exact ⟨Mut.start _ false _,fun _=>HR.out,nB,nB⟩
    ·refine aC ?_ (aC ?_ aN)
     ·intro L s w2 h hk hd hn K hK
      have kb:=kY h.mu HO (by have:=HLT.out;have:=lt_of_block HE.out;omega)
      exact rs_load rfl (hk 7) (md_load kb HLT3.out) (hK {h with e0:=rF})
     ·intro L s w2 h hk hd hn K hK
      have kb:=h.kt_r hn
      exact rs_store rfl (hk 6) (h.e0 hd.1) (md_store kb rfl _ HLT3.out) (hK {h with mu:=h.mu.put (List.Mem.head _) _,kt_r:=nF,kr_r:=fun _=>pH kb})
    ·intro L s w2 h hk hl
     refine cA ?_ (hQ2 s w2 (⟨h.mu,h.kr_r (hl 1)⟩))
     exact fq hk
   rintro s8 V ⟨h1,c_r⟩
   simp only [mergeL]
   replace HE:=j1 h1 HE (by have:=HLT.out;omega)
   replace HA:=j1 h1 HA (by have:=HLT.out;omega)
   replace HN:=j1 h1 HN (by have:=HLT.out;omega)
   replace HR:=lh c_r
   replace HO:=j1 h1 HO (by have:=HLT.out;omega)
   replace HM:=lh (HM.out.stepM h1 (by have:=HBW.out;have:=HLT.out;intro x hx;rw [List.mem_singleton.1 hx];first | exact .inl (List.mem_singleton.2 rfl) | (right;omega)))
   clear h1 c_r
   refine HK8.out _ _ ?_
   refine wp_ret ?_
   exact bodyPost_ret (v:=mval T.1) (res_model Tryz.results47 rfl (md_loadVar HR.out HLT3.out)) rfl ⟨rfl,HE.out,HM.out⟩
  ·obtain rfl:z=(j:Int):=by omega
   have t1:decide ((j:Int) ≥ 0)=true:=by simp
   have HJ:=lh (show j<5 by omega)
   have j0:(0:Int)<=(j:Int):=by omega
   have j9:(j:Int)<=4:=by omega
   obtain ⟨sk,hsk⟩:∃s,[n0,n1,n2,n3,n4,n5].getD j 0=s:=⟨_,rfl⟩
   have HSK:=lh hsk
   obtain ⟨P,hP⟩:∃P,rProduct hh S ee=P:=⟨_,rfl⟩
   have HEP:=lh hP
   have HLP:=lh (show P.1.length=22 by rw [←hP];exact rProduct_len _ _ _)
   replace HQ:=lh (show rSeries hh ([n0,n1,n2,n3,n4,n5].take j).reverse (P.1.set 0 (gt P.2 (sAdd (tAt P.1 0) (sk,sk))).1,(gt P.2 (sAdd (tAt P.1 0) (sk,sk))).2)=T by
    rw [←HQ.out,←hP,←hsk]
    have h5:=HJ.out
    rcases j with _ | _ | _ | _ | _ | j<;>first | omega | rfl)
   clear hz hk5 hsk hP
   refine wsk fun KP HKP=>?_
   go_wp2_with fail
   refine HKP.out _ _ ?_
   refine wsk fun KQ HKQ=>?_
   refine wp_block ?_
   refine wsk fun K6 HK6=>?_
   refine wc (n8 (n8 (nn::nn::some 18::some 19::some 20::some 21::n8 (nn::nn::nn::nn::[])))) (fun _ w'=>Mut [g0,A] V w'/\w'.heap[g0]?=some (cobj 34 P.1)/\w'.heap[A]?=some (iobj 62 P.2)) ?_ ?_
   ·intro Q2 hQ2
    refine wG (Zk6 V A hh S ee P g0) ?_ ?_ ?_
    ·exact ⟨Mut.start _ false _,fun _=>HO.out,nB,fun _=>HE.out,nB,nB,nB,nB,nB,nB⟩
    ·refine aC ?_ (aC ?_ (aC ?_ (aC ?_ (aC ?_ aN))))
     ·intro L s w2 h hk hd hn K hK
      exact rs_move rfl (hk 0) (hK {h with e0:=rF})
     ·intro L s w2 h hk hd hn K hK
      have kb:=kX h.mu HA (by have:=HLT.out;have:=lt_of_block HE.out;omega) (by have:=HLT.out;have:=lt_of_block HE.out;omega)
      exact rs_load rfl (hk 4) (md_load kb HL.out) (hK {h with e1:=rF})
     ·intro L s w2 h hk hd hn K hK
      have kb:=(h.kt_o (bF h.b4_2 hn))
      exact rs_load rfl (hk 7) (md_load kb HLS.out) (hK {h with e2:=rF,b4_2:=rF})
     ·intro L s w2 h hk hd hn K hK
      have s18:=h.e0 hd.1
      have s19:=h.e1 hd.2.1
      have s20:=h.e2 hd.2.2.1
      have kb:=h.kg_c_0 hn
      go_simp
      refine (rf_productP HEP.out _ HL.out HLS.out _ kb).mono ?_
      rintro e w3 ⟨rfl,hkr,hb⟩
      exact .inl ⟨_,rfl,hK {h with mu:=mS h.mu hb (List.Mem.tail _ (List.Mem.head _)),kt_o:=fun a=>hS hb (by have:=HLT.out;have:=lt_of_block HE.out;omega) (h.kt_o a),kr_o:=fun a=>hS hb (by have:=HLT.out;have:=lt_of_block HE.out;omega) (h.kr_o a),kg_c_0:=nF,kg_c_1:=fun _=>hkr,e3:=rF}⟩
     ·intro L s w2 h hk hd hn K hK
      have kb:=h.kt_o hn
      exact rs_store rfl (hk 7) (h.e3 hd.1) (md_store kb HLS.out _ HLP.out) (hK {h with mu:=h.mu.put (List.Mem.head _) _,kg_c_0:=fun a=>pO (by have:=HLT.out;have:=lt_of_block HE.out;omega) (h.kg_c_0 a),kg_c_1:=fun a=>pO (by have:=HLT.out;have:=lt_of_block HE.out;omega) (h.kg_c_1 a),kt_o:=nF,kr_o:=fun _=>pH kb,b4_2:=fun _=>hd.2.2.2.2.1})
    ·intro L s w2 h hk hl
     refine cA ?_ (hQ2 s w2 (⟨h.mu,h.kr_o (hl 4),h.kg_c_1 (hl 3)⟩))
     exact fq hk
   rintro s6 V ⟨h1,c_o,c_c⟩
   simp only [mergeL]
   replace HE:=lh c_c
   replace HA:=j2 h1 HA (by have:=HLT.out;omega) (by have:=HLT.out;omega)
   replace HN:=j2 h1 HN (by have:=HLT.out;omega) (by have:=HLT.out;omega)
   replace HR:=j2 h1 HR (by have:=HLT.out;omega) (by have:=HLT.out;omega)
   replace HO:=lh c_o
   replace HM:=lh (HM.out.stepM h1 (by have:=HBW.out;have:=HLT.out;intro x hx;simp only [List.mem_cons,List.not_mem_nil,or_false] at hx;rcases hx with rfl | rfl<;>first | exact .inl (List.mem_singleton.2 rfl) | (right;omega)))
   have HF6:=lh (HGM.out.trans h1)
   clear h1 c_o c_c
   refine HK6.out _ _ ?_
   refine wc (n8 (n8 (nn::nn::nn::nn::nn::nn::some 22::some 23::some 24::some 25::some 26::some 27::some 28::some 29::some 30::some 31::some 32::nn::[]))) (fun _ w'=>Mut [g0,A] V w'/\w'.heap[g0]?=some (cobj 34 (P.1.set 0 (gt P.2 (sAdd (tAt P.1 0) (sk,sk))).1))/\w'.heap[A]?=some (iobj 62 ((gt P.2 (sAdd (tAt P.1 0) (sk,sk))).2))) ?_ ?_
   ·intro Q2 hQ2
    refine wG (Zk7 V A b j P sk g0) ?_ ?_ ?_
    ·exact ⟨Mut.start _ true _,fun _=>HO.out,nB,fun _=>HE.out,nB,nB,nB,nB,nB,nB,nB,nB,nB,nB,nB,nB,nB⟩
    ·refine aC ?_ (aC ?_ (aC ?_ (aC ?_ (aC ?_ (aC ?_ (aC ?_ (aC ?_ (aC ?_ (aC ?_ (aC ?_ (aC ?_ aN)))))))))))
     ·intro L s w2 h hk hd hn K hK
      exact rs_move rfl (hk 0) (hK {h with e0:=rF})
     ·intro L s w2 h hk hd hn K hK
      exact rs_field rfl (hk 7) (fl_model0 _ _) (hK {h with e1:=rF})
     ·intro L s w2 h hk hd hn K hK
      exact rs_index rfl (h.e1 hd.1) rfl (ix_model _ 0 (by omega)) (hK {h with e2:=rF})
     ·intro L s w2 h hk hd hn K hK
      have kb:=(h.kt_o (bF h.b11_3 hn))
      exact rs_load rfl (h.e2 hd.1) (sp_load (p:=0) kb (by have:=(HLP.out:P.1.length=22);omega)) (hK {h with e3:=rF,b11_3:=rF})
     ·intro L s w2 h hk hd hn K hK
      exact rs_move rfl (hk 8) (hK {h with e4:=rF})
     ·intro L s w2 h hk hd hn K hK
      exact rs_index rfl (hk 5) (h.e4 hd.1) (ix_six _ j (by have:=HJ.out;omega)) (hK {h with e5:=rF})
     ·intro L s w2 h hk hd hn K hK
      have kb:=kX h.mu HN (by have:=HLT.out;have:=lt_of_block HE.out;omega) (by have:=HLT.out;have:=lt_of_block HE.out;omega)
      exact rs_load rfl (h.e5 hd.1) (ld_six kb (by have:=HJ.out;omega) HSK.out) (hK {h with e6:=rF})
     ·intro L s w2 h hk hd hn K hK
      have s28:=h.e6 hd.1
      go_simp
      refine (rf_point sk _).mono ?_
      rintro e w3 ⟨rfl,hb⟩
      exact .inl ⟨_,rfl,hK {h with mu:=h.mu.step hb,kt_o:=fun a=>bk hb (h.kt_o a),kr_o:=fun a=>bk hb (h.kr_o a),kg_c_0:=fun a=>bk hb (h.kg_c_0 a),kg_c_1:=fun a=>bk hb (h.kg_c_1 a),e7:=rF}⟩
     ·intro L s w2 h hk hd hn K hK
      have s22:=h.e0 hd.1
      have s25:=h.e3 hd.2.1
      have s29:=h.e7 hd.2.2.1
      have kb:=h.kg_c_0 hn
      go_simp
      refine (rf_add _ P.2 (tAt P.1 0) (sk,sk) _ kb).mono ?_
      rintro e w3 ⟨rfl,hkr,hb⟩
      exact .inl ⟨_,rfl,hK {h with mu:=mS h.mu hb (List.Mem.tail _ (List.Mem.head _)),kt_o:=fun a=>hS hb (by have:=HLT.out;have:=lt_of_block HE.out;omega) (h.kt_o a),kr_o:=fun a=>hS hb (by have:=HLT.out;have:=lt_of_block HE.out;omega) (h.kr_o a),kg_c_0:=nF,kg_c_1:=fun _=>hkr,e8:=rF}⟩
     ·intro L s w2 h hk hd hn K hK
      exact rs_field rfl (hk 7) (fl_model0 _ _) (hK {h with e9:=rF})
     ·intro L s w2 h hk hd hn K hK
      exact rs_index rfl (h.e9 hd.1) rfl (ix_model _ 0 (by omega)) (hK {h with e10:=rF})
     ·intro L s w2 h hk hd hn K hK
      have kb:=h.kt_o hn
      exact rs_store rfl (h.e10 hd.1) (h.e8 hd.2.1) (sp_store (p:=0) kb (by have:=(HLP.out:P.1.length=22);omega) _) (hK {h with mu:=h.mu.put (List.Mem.head _) _,kg_c_0:=fun a=>pO (by have:=HLT.out;have:=lt_of_block HE.out;omega) (h.kg_c_0 a),kg_c_1:=fun a=>pO (by have:=HLT.out;have:=lt_of_block HE.out;omega) (h.kg_c_1 a),kt_o:=nF,kr_o:=fun _=>pH kb,b11_3:=fun _=>hd.2.2.2.2.2.2.1})
    ·intro L s w2 h hk hl
     refine cA ?_ (hQ2 s w2 (⟨h.mu,h.kr_o (hl 11),h.kg_c_1 (hl 8)⟩))
     exact fq hk
   rintro s7 V ⟨h1,c_o,c_c⟩
   simp only [mergeL]
   replace HE:=lh c_c
   replace HA:=j2 h1 HA (by have:=HLT.out;omega) (by have:=HLT.out;omega)
   replace HN:=j2 h1 HN (by have:=HLT.out;omega) (by have:=HLT.out;omega)
   replace HR:=j2 h1 HR (by have:=HLT.out;omega) (by have:=HLT.out;omega)
   replace HO:=lh c_o
   replace HM:=lh (HM.out.stepM h1 (by have:=HBW.out;have:=HLT.out;intro x hx;simp only [List.mem_cons,List.not_mem_nil,or_false] at hx;rcases hx with rfl | rfl<;>first | exact .inl (List.mem_singleton.2 rfl) | (right;omega)))
   have HF7:=lh (HF6.out.trans h1)
   clear h1 c_o c_c
   go_wp2_with fail
   refine HKQ.out _ _ ?_
   go_wp2_with fail
   go_roundw
   case rel=>first | exact ⟨j,_,by have:=HJ.out;omega,rfl,by go_num,lh ⟨_,_,HF7.out,HE.out,HO.out,by rw [List.length_set];exact HLP.out,HQ.out⟩⟩ | ((repeat apply Exists.intro);exact ⟨⟨j,_,by have:=HJ.out;omega,rfl,by go_num,lh ⟨_,_,HF7.out,HE.out,HO.out,by rw [List.length_set];exact HLP.out,HQ.out⟩⟩,rfl⟩)
   case measure=>simp [intOf]
theorem rf_CheckP {a:List (Int×Int)} {E:Int} (h:(tRight a).2=E) (ha:a.length=22) (w:World):Calls Tryz.prog 35 #[mval a] w fun e w'=>e=.returned (.int .i64 E)/\Below w.heap.size w w':=by
 subst h
 exact rf_Check a ha w
theorem rf_relativeP {a:List (Int×Int)} {e:Int} {R:(List (Int×Int)×(Int×Int)×(Int×Int))×Int} (hR:rRel a e=R) (A:Nat) (ha:a.length=22) (w:World) (h:w.heap[A]?=some (iobj 62 e)) :
  Calls Tryz.prog 46 #[.pointer (some ⟨A,0,none⟩),mval a] w fun r w'=>r=.returned (.tuple #[mval R.1.1,sval R.1.2.1,sval R.1.2.2])/\w'.heap[A]?=some (iobj 62 R.2)/\Mut [A] w w':=by
 subst hR
 exact rf_relative A e a ha w h
theorem rf_powP {x:Int×Int} {n e:Int} {X:(Int×Int)×Int} (hX:gt e (sPow x n)=X) (A:Nat) (w:World) (h:w.heap[A]?=some (iobj 62 e)) :
  Calls Tryz.prog 50 #[.pointer (some ⟨A,0,none⟩),sval x,.int .i64 n] w fun r w'=>r=.returned (sval X.1)/\w'.heap[A]?=some (iobj 62 X.2)/\Mut [A] w w':=by
 subst hX
 exact rf_pow A e x n w h
theorem rf_divP {x y:Int×Int} {e:Int} {X:(Int×Int)×Int} (hX:gt e (sDiv x y)=X) (A:Nat) (w:World) (h:w.heap[A]?=some (iobj 62 e)) :
  Calls Tryz.prog 49 #[.pointer (some ⟨A,0,none⟩),sval x,sval y] w fun r w'=>r=.returned (sval X.1)/\w'.heap[A]?=some (iobj 62 X.2)/\Mut [A] w w':=by
 subst hX
 exact rf_div A e x y w h
theorem rf_addP {x y:Int×Int} {e:Int} {X:(Int×Int)×Int} (hX:gt e (sAdd x y)=X) (A:Nat) (w:World) (h:w.heap[A]?=some (iobj 62 e)) :
  Calls Tryz.prog 48 #[.pointer (some ⟨A,0,none⟩),sval x,sval y] w fun r w'=>r=.returned (sval X.1)/\w'.heap[A]?=some (iobj 62 X.2)/\Mut [A] w w':=by
 subst hX
 exact rf_add A e x y w h
theorem rf_mulP {x y:Int×Int} {e:Int} {X:(Int×Int)×Int} (hX:gt e (sMul x y)=X) (A:Nat) (w:World) (h:w.heap[A]?=some (iobj 62 e)) :
  Calls Tryz.prog 56 #[.pointer (some ⟨A,0,none⟩),sval x,sval y] w fun r w'=>r=.returned (sval X.1)/\w'.heap[A]?=some (iobj 62 X.2)/\Mut [A] w w':=by
 subst hX
 exact rf_mul A e x y w h
theorem rf_gotP {x:(Int×Int)×Int} {e:Int} {X:(Int×Int)×Int} (hX:gt e x=X) (A:Nat) (w:World) (h:w.heap[A]?=some (iobj 62 e)) :
  Calls Tryz.prog 57 #[.pointer (some ⟨A,0,none⟩),sval x.1,.int .i64 x.2] w fun r w'=>r=.returned (sval X.1)/\w'.heap[A]?=some (iobj 62 X.2)/\Mut [A] w w':=by
 subst hX
 exact rf_got A e x.1 x.2 w h
theorem rf_scaledP {a:List (Int×Int)} {x:Int×Int} {e:Int} {P:RS} (hP:rScaled a x e=P) (A:Nat) (ha:a.length=22) (w:World) (h:w.heap[A]?=some (iobj 62 e)) :
  Calls Tryz.prog 58 #[.pointer (some ⟨A,0,none⟩),mval a,sval x] w fun r w'=>r=.returned (mval P.1)/\w'.heap[A]?=some (iobj 62 P.2)/\Mut [A] w w':=by
 subst hP
 exact rf_scaled A e a x ha w h
theorem rInvR_len (c:Int×Int) (R:List (Int×Int)×(Int×Int)×(Int×Int)) (e:Int):(rInvR c R e).1.length=22:=by
 unfold rInvR
 dsimp only
 rw [rEachN_len,List.length_set,rSeries_len]
 rfl
theorem rRel_len (a:List (Int×Int)) (ha:a.length=22) (e:Int):(rRel a e).1.1.length=22:=by
 unfold rRel
 dsimp only
 rw [rRel0,rEachN_len,List.length_set]
 exact ha
theorem tAt_set_up {S:List (Int×Int)} {p q:Nat} (x:Int×Int) (h:p<q):tAt (S.set p x) q=tAt S q:=by
 unfold tAt
 rw [List.getD_eq_getElem?_getD,List.getD_eq_getElem?_getD,List.getElem?_set_ne (by omega)]
end Go.Proofs.YthhkcfpljgdnhaaGreat
