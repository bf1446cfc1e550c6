/- The reference of layer 21: Inverse. Printed by wip/genSU.py. -/
import Derived.Test.YthhkcfpljgdnhaaGreatRefTO
namespace Go.Proofs.YthhkcfpljgdnhaaGreat
open Go.RowKit Mnc
attribute [local go_sem] RunSP_value RunSP_skip RunSP_enter evS_tmp evS_const evS_global evS_func
structure Zi1 (V:World) (a:List (Int×Int)) (E:Int) (L:Nat->Bool) (s:Nat->Value) (w:World):Prop where
 mu:Mut [] V w
 e0:L 0->s 10=mval a
 e1:L 1->s 11=.int .i64 E
 e2:L 2->s 12=.agg #[.int .i64 E]
 al_c:L 3->∃g:Nat,s 4=.pointer (some ⟨g,0,none⟩)/\V.heap.size<=g/\g<w.heap.size/\(L 4=false->w.heap[g]?=some (iobj 62 0))/\(L 4=true->w.heap[g]?=some (iobj 62 E))
 b4_3:L 4->L 3
structure Zi3 (V:World) (b:Nat) (L:Nat->Bool) (s:Nat->Value) (w:World):Prop where
 mu:Mut [b+1] V w
 kt_r:L 1=false->w.heap[b+1]?=some (cobj 34 zeroM)
 kr_r:L 1->w.heap[b+1]?=some (cobj 34 zeroM)
 e0:L 0->s 30=mval zeroM
 e2:L 2->s 3=.int .i64 ((7:Nat):Int)
structure Zi4 (V:World) (a:List (Int×Int)) (E:Int) (A:Nat) (R:(List (Int×Int)×(Int×Int)×(Int×Int))×Int) (L:Nat->Bool) (s:Nat->Value) (w:World):Prop where
 mu:Mut [A] V w
 kg_c_0:L 1=false->w.heap[A]?=some (iobj 62 E)
 kg_c_1:L 1->w.heap[A]?=some (iobj 62 R.2)
 e0:L 0->s 32=mval a
 e1:L 1->s 33=.tuple #[mval R.1.1,sval R.1.2.1,sval R.1.2.2]
 e2:L 2->s 31=.tuple #[mval R.1.1,sval R.1.2.1,sval R.1.2.2]
 e3:L 3->s 34=mval R.1.1
 e4:L 4->s 35=sval R.1.2.1
 e5:L 5->s 36=sval R.1.2.2
 al_h:L 6->∃g:Nat,s 5=.pointer (some ⟨g,0,none⟩)/\V.heap.size<=g/\g<w.heap.size/\(L 9=false->w.heap[g]?=some (cobj 34 zeroM))/\(L 9=true->w.heap[g]?=some (cobj 34 R.1.1))
 dn_h_bb:L 6->L 7->s 5≠s 6
 dn_h_ee:L 6->L 8->s 5≠s 7
 al_bb:L 7->∃g:Nat,s 6=.pointer (some ⟨g,0,none⟩)/\V.heap.size<=g/\g<w.heap.size/\(L 10=false->w.heap[g]?=some (cobj 31 [(0,0)]))/\(L 10=true->w.heap[g]?=some (cobj 31 [R.1.2.1]))
 dn_bb_ee:L 7->L 8->s 6≠s 7
 al_ee:L 8->∃g:Nat,s 7=.pointer (some ⟨g,0,none⟩)/\V.heap.size<=g/\g<w.heap.size/\(L 11=false->w.heap[g]?=some (cobj 31 [(0,0)]))/\(L 11=true->w.heap[g]?=some (cobj 31 [R.1.2.2]))
 b9_6:L 9->L 6
 b10_7:L 10->L 7
 b11_8:L 11->L 8
structure Zi6 (V:World) (b:Nat) (L:Nat->Bool) (s:Nat->Value) (w:World):Prop where
 mu:Mut [b+1] V w
 kt_r:L 1=false->w.heap[b+1]?=some (cobj 34 zeroM)
 kr_r:L 1->w.heap[b+1]?=some (cobj 34 zeroM)
 e0:L 0->s 45=mval zeroM
 e2:L 2->s 3=.int .i64 ((7:Nat):Int)
structure Zi7 (V:World) (A:Nat) (R:(List (Int×Int)×(Int×Int)×(Int×Int))×Int) (M:RS) (L:Nat->Bool) (s:Nat->Value) (w:World):Prop where
 mu:Mut [A] V w
 kg_c_0:L 2=false->w.heap[A]?=some (iobj 62 R.2)
 kg_c_1:L 2->w.heap[A]?=some (iobj 62 M.2)
 e0:L 0->s 46=mval R.1.1
 e1:L 1->s 47=.agg #[.int .i64 4294967296,.int .i64 (-4294967296),.int .i64 4294967296,.int .i64 (-4294967296),.int .i64 4294967296,.int .i64 (-4294967296)]
 e2:L 2->s 48=mval M.1
 al_m:L 3->∃g:Nat,s 8=.pointer (some ⟨g,0,none⟩)/\V.heap.size<=g/\g<w.heap.size/\(L 4=false->w.heap[g]?=some (cobj 34 zeroM))/\(L 4=true->w.heap[g]?=some (cobj 34 M.1))
 b4_3:L 4->L 3
structure Zi8 (V:World) (A:Nat) (R:(List (Int×Int)×(Int×Int)×(Int×Int))×Int) (M:RS) (X:(Int×Int)×Int) (Y:(Int×Int)×Int) (Z:(Int×Int)×Int) (D:(Int×Int)×Int) (g5:Nat) (L:Nat->Bool) (s:Nat->Value) (w:World):Prop where
 mu:Mut [g5,A] V w
 kt_m:L 9=false->w.heap[g5]?=some (cobj 34 M.1)
 kr_m:L 9->w.heap[g5]?=some (cobj 34 (M.1.set 21 D.1))
 kg_c_0:L 3=false->w.heap[A]?=some (iobj 62 M.2)
 kg_c_1:L 3->L 5=false->w.heap[A]?=some (iobj 62 X.2)
 kg_c_2:L 5->L 6=false->w.heap[A]?=some (iobj 62 Y.2)
 kg_c_3:L 6->L 7=false->w.heap[A]?=some (iobj 62 Z.2)
 kg_c_4:L 7->w.heap[A]?=some (iobj 62 D.2)
 e0:L 0->s 49=.pointer (some ⟨g5,21*2,none⟩)
 e1:L 1->s 50=sval (tAt M.1 21)
 e2:L 2->s 51=sval R.1.2.1
 e3:L 3->s 52=sval X.1
 e4:L 4->s 53=sval R.1.2.2
 e5:L 5->s 54=sval Y.1
 e6:L 6->s 55=sval Z.1
 e7:L 7->s 56=sval D.1
 e8:L 8->s 57=.pointer (some ⟨g5,21*2,none⟩)
 b9_1:L 9->L 1
 b5_3:L 5->L 3
 b6_5:L 6->L 5
 b7_6:L 7->L 6
structure Zi12 (V:World) (a:List (Int×Int)) (b:Nat) (A:Nat) (g5:Nat) (S:List (Int×Int)) (ee:Int) (p:Nat) (x:(Int×Int)×Int) (L:Nat->Bool) (s:Nat->Value) (w:World):Prop where
 mu:Mut [g5,A] V w
 kt_m:L 11=false->w.heap[g5]?=some (cobj 34 S)
 kr_m:L 11->w.heap[g5]?=some (cobj 34 (S.set p x.1))
 kg_c_0:L 8=false->w.heap[A]?=some (iobj 62 ee)
 kg_c_1:L 8->w.heap[A]?=some (iobj 62 x.2)
 e0:L 0->s 62=.int .i64 ((p:Nat):Int)
 e1:L 1->s 63=.int .i64 ((p:Nat):Int)
 e2:L 2->s 64=.pointer (some ⟨g5,0,none⟩)
 e3:L 3->s 65=.pointer (some ⟨g5,p*2,none⟩)
 e4:L 4->s 66=sval (tAt S p)
 e5:L 5->s 67=.pointer (some ⟨b,0,none⟩)
 e6:L 6->s 68=.pointer (some ⟨b,0*2,none⟩)
 e7:L 7->s 69=sval (tAt a 0)
 e8:L 8->s 70=sval x.1
 e9:L 9->s 71=.pointer (some ⟨g5,0,none⟩)
 e10:L 10->s 72=.pointer (some ⟨g5,p*2,none⟩)
 b11_4:L 11->L 4
structure Zi13 (V:World) (a:List (Int×Int)) (b:Nat) (A:Nat) (g5:Nat) (S:List (Int×Int)) (ee:Int) (x:(Int×Int)×Int) (L:Nat->Bool) (s:Nat->Value) (w:World):Prop where
 mu:Mut [g5,A] V w
 kt_m:L 7=false->w.heap[g5]?=some (cobj 34 S)
 kr_m:L 7->w.heap[g5]?=some (cobj 34 (S.set 21 x.1))
 kg_c_0:L 5=false->w.heap[A]?=some (iobj 62 ee)
 kg_c_1:L 5->w.heap[A]?=some (iobj 62 x.2)
 e0:L 0->s 73=.pointer (some ⟨g5,21*2,none⟩)
 e1:L 1->s 74=sval (tAt S 21)
 e2:L 2->s 75=.pointer (some ⟨b,0,none⟩)
 e3:L 3->s 76=.pointer (some ⟨b,0*2,none⟩)
 e4:L 4->s 77=sval (tAt a 0)
 e5:L 5->s 78=sval x.1
 e6:L 6->s 79=.pointer (some ⟨g5,21*2,none⟩)
 b7_1:L 7->L 1
structure Zi14 (V:World) (b:Nat) (A:Nat) (T:RS) (U:List (Int×Int)×Int) (L:Nat->Bool) (s:Nat->Value) (w:World):Prop where
 mu:Mut [b+1,A] V w
 kt_r:L 4=false->w.heap[b+1]?=some (cobj 34 zeroM)
 kr_r:L 4->w.heap[b+1]?=some (cobj 34 U.1)
 kg_c_0:L 1=false->w.heap[A]?=some (iobj 62 T.2)
 kg_c_1:L 1->w.heap[A]?=some (iobj 62 T.2)
 e0:L 0->s 80=mval T.1
 e1:L 1->s 81=.tuple #[mval U.1,.int .i64 U.2]
 e2:L 2->s 82=mval U.1
 e3:L 3->s 83=.int .i64 U.2
 e5:L 5->s 3=.int .i64 U.2
set_option maxRecDepth 100000 in
set_option maxHeartbeats 4000000 in
theorem rf_Inverse (a:List (Int×Int)) (ha:a.length=22) (w:World):Calls Tryz.prog 17 #[mval a] w fun e w'=>e=.returned (.tuple #[mval (rInverse a (tRight a).2).1,.int .i64 (rInverse a (tRight a).2).2])/\Below w.heap.size w w':=by
 obtain ⟨E,hE0⟩:∃E,(tRight a).2=E:=⟨_,rfl⟩
 rw [hE0]
 obtain ⟨U,hU⟩:∃U,rInverse a E=U:=⟨_,rfl⟩
 rw [hU]
 have HET:=lh hE0
 have HU:=lh hU
 have HL:=lh ha
 clear ha hE0 hU
 go_enter Tryz.func17,Tryz.ntmps17
 refine wsk fun K0 HK0=>?_
 go_wp2_with fail
 rename_i x1 cs1 hc1
 obtain rfl:(mc a).toArray=cs1:=Value.agg.inj hc1
 clear hc1
 obtain ⟨b,hb⟩:∃b,w.heap.size=b:=⟨_,rfl⟩
 refine HK0.out _ _ ?_
 refine wp_world (fun V=>Mut [] w V/\V.heap[b]?=some (cobj 34 a)/\V.heap[b+1]?=some (cobj 34 zeroM)) ?_
  (by
   rw [←hb]
   exact ⟨(((Mut.refl _ _).alloc _).alloc _),heap_up _ (heap_at (cobj 34 a) (by simp)),heap_at (cobj 34 zeroM) (by simp)⟩)
 rintro V ⟨hm,hHA,hHR⟩
 rw [hb]
 have HM:=lh hm
 have HBW:=lh hb
 have HLT:=lh trivial
 have HA:=lh hHA
 have HR:=lh hHR
 clear hm hHA hHR hb HK0
 refine wsk fun K1 HK1=>?_
 refine wc (nn::nn::nn::nn::some 4::nn::nn::nn::nn::nn::some 10::some 11::some 12::n8 (n8 (n8 (n8 (n8 (n8 (n8 (n8 (nn::nn::nn::nn::nn::nn::nn::[]))))))))) (fun s w'=>Mut [] V w'/\(∃g:Nat,s 4=.pointer (some ⟨g,0,none⟩)/\V.heap.size<=g/\w'.heap[g]?=some (iobj 62 E))) ?_ ?_
 ·intro Q2 hQ2
  refine wG (Zi1 V a E) ?_ ?_ ?_
  ·exact ⟨Mut.start _ false _,nB,nB,nB,nB,nB⟩
  ·refine aC ?_ (aC ?_ (aC ?_ (aC ?_ (aC ?_ aN))))
   ·intro L s w2 h hk hd hn K hK
    have kb:=kZ h.mu HA
    exact rs_load rfl (hk 1) (md_load kb HL.out) (hK {h with e0:=rF})
   ·intro L s w2 h hk hd hn K hK
    have s10:=h.e0 hd.1
    go_simp
    refine (rf_CheckP HET.out HL.out _).mono ?_
    rintro e w3 ⟨rfl,hb⟩
    exact .inl ⟨_,rfl,hK {h with mu:=h.mu.step hb,al_c:=fun a=>aS hb (h.al_c a),e1:=rF}⟩
   ·intro L s w2 h hk hd hn K hK
    exact rs_bld rfl (by simp [evS_tmp,(h.e1 hd.1)]) (su_build _ _) (hK {h with e2:=rF})
   ·intro L s w2 h hk hd hn K hK
    go_simp
    exact hK {h with mu:=h.mu.alloc _,al_c:=fun _=>aW h.mu.size h.b4_3 hn,b4_3:=rF}
   ·intro L s w2 h hk hd hn K hK
    obtain ⟨g,hg0,hg1,hgl,hg2,hg3⟩:=h.al_c hd.1
    have kb:=hg2 hn
    exact rs_store rfl hg0 (h.e2 hd.2.1) (su_store kb) (hK {h with mu:=h.mu.putNew hg1 _,al_c:=fun _=>aT hg0 hg1 hgl kb,b4_3:=fun _=>hd.1})
  ·intro L s w2 h hk hl
   refine cA ?_ (hQ2 s w2 (⟨h.mu,aE (h.al_c (hl 3)) (hl 4)⟩))
   exact fq hk
 rintro s1 V ⟨h1,⟨A,k_c,g_c,c_c⟩⟩
 simp only [mergeL]
 rw [k_c]
 replace HLT:=lh (show b<=A/\b<A/\b+1<A from by
  have hlt:=HLT.out
  have hbw:=HM.out.size
  have hbw2:=HBW.out
  have:=lt_of_block HA.out
  have:=lt_of_block HR.out
  omega)
 replace HA:=sm h1 HA
 replace HR:=sm h1 HR
 have HE:=lh c_c
 replace HM:=mE HM h1
 clear h1 k_c g_c c_c
 refine HK1.out _ _ ?_
 refine wsk fun KB HKB=>?_
 by_cases hz:E=0/\(tAt a 0).1<=0/\0<=(tAt a 0).2
 ·obtain ⟨he,hlo,hhi⟩:=hz
  subst he
  have t1:decide ((tAt a 0).1<=0)=true:=decide_eq_true hlo
  have t2:decide ((tAt a 0).2 ≥ 0)=true:=decide_eq_true hhi
  have HOU:=lh (show U=(zeroM,7) by rw [←HU.out];exact if_pos ⟨rfl,hlo,hhi⟩)
  clear hlo hhi HU
  refine wsk fun K2 HK2=>?_
  refine wc (n8 (nn::nn::nn::nn::nn::some 13::some 14::some 15::some 16::some 17::some 18::some 19::some 20::some 21::some 22::some 23::some 24::some 25::some 26::some 27::some 28::some 29::n8 (n8 (n8 (n8 (n8 (n8 (nn::nn::nn::nn::nn::nn::[])))))))) (fun s w'=>w'=V/\s 29=.bool true) ?_ ?_
  ·intro Q2 hQ2
   have qc:=cell_of_one HE.out
   have q0:V.cell? ⟨b,0,none⟩=some (.int .i64 (tAt a 0).1):=(cobj_cell HA.out 0).trans (mc_get a 0 (by have:=HL.out;omega)).1
   have q1:V.cell? ⟨b,1,none⟩=some (.int .i64 (tAt a 0).2):=(cobj_cell HA.out 1).trans (mc_get a 0 (by have:=HL.out;omega)).2
   go_wp2_with fail
   exact merge_meet hQ2 (by kernel_rfl) ⟨rfl,rfl⟩
  rintro s2 V2 ⟨he,hs⟩
  replace he:=he.symm
  subst he
  simp only [mergeL]
  rw [hs]
  clear hs
  refine HK2.out _ _ ?_
  refine wp_cond_true (by rfl) ?_
  refine wsk fun K3 HK3=>?_
  refine wc (nn::nn::nn::some 3::n8 (n8 (n8 (nn::nn::some 30::n8 (n8 (n8 (n8 (n8 (n8 (nn::nn::nn::nn::nn::[])))))))))) (fun s w'=>Mut [b+1] V w'/\w'.heap[b+1]?=some (cobj 34 zeroM)/\s 3=.int .i64 ((7:Nat):Int)) ?_ ?_
  ·intro Q2 hQ2
   refine wG (Zi3 V b) ?_ ?_ ?_
   ·exact ⟨Mut.start _ false _,fun _=>HR.out,nB,nB,nB⟩
   ·refine aC ?_ (aC ?_ (aC ?_ aN))
    ·intro L s w2 h hk hd hn K hK
     exact rs_bld (vs:=#[]) rfl (by simp) (by kernel_rfl) (hK {h with e0:=rF})
    ·intro L s w2 h hk hd hn K hK
     have kb:=h.kt_r hn
     exact rs_store rfl (hk 2) (h.e0 hd.1) (md_store kb rfl _ rfl) (hK {h with mu:=h.mu.put (List.Mem.head _) _,kt_r:=nF,kr_r:=fun _=>pH kb})
    ·intro L s w2 h hk hd hn K hK
     exact rs_assign rfl rfl (hK {h with e2:=rF})
   ·intro L s w2 h hk hl
    refine cA ?_ (hQ2 s w2 (⟨h.mu,h.kr_r (hl 1),h.e2 (hl 2)⟩))
    exact fq hk
  rintro s3 V ⟨h1,c_r,k3⟩
  simp only [mergeL]
  rw [k3]
  replace HA:=j1 h1 HA (by have:=HLT.out;omega)
  replace HR:=lh c_r
  replace HE:=j1 h1 HE (by have:=HLT.out;omega)
  replace HM:=mB HM h1 (by have:=HBW.out;have:=HLT.out;simp;omega)
  clear h1 c_r k3
  refine HK3.out _ _ ?_
  go_wp2_with fail
  exact bodyPost_ret (v:=.tuple #[mval zeroM,.int .i64 7]) (res_slot Tryz.results17 rfl rfl (md_loadVar HR.out rfl)) rfl ⟨by rw [HOU.out],by rw [←HBW.out];exact HM.out.to0⟩
 ·have HZ:=lh hz
  clear hz
  refine wsk fun K2 HK2=>?_
  refine wc (n8 (nn::nn::nn::nn::nn::some 13::some 14::some 15::some 16::some 17::some 18::some 19::some 20::some 21::some 22::some 23::some 24::some 25::some 26::some 27::some 28::some 29::n8 (n8 (n8 (n8 (n8 (n8 (nn::nn::nn::nn::nn::nn::[])))))))) (fun s w'=>w'=V/\s 29=.bool false) ?_ ?_
  ·intro Q2 hQ2
   have qc:=cell_of_one HE.out
   have q0:V.cell? ⟨b,0,none⟩=some (.int .i64 (tAt a 0).1):=(cobj_cell HA.out 0).trans (mc_get a 0 (by have:=HL.out;omega)).1
   have q1:V.cell? ⟨b,1,none⟩=some (.int .i64 (tAt a 0).2):=(cobj_cell HA.out 1).trans (mc_get a 0 (by have:=HL.out;omega)).2
   by_cases he:E=0
   ·subst he
    by_cases h:0<(tAt a 0).1
    ·have t1:decide ((tAt a 0).1<=0)=false:=by simp;omega
     clear h
     go_wp2_with fail
     exact merge_meet hQ2 (by kernel_rfl) ⟨rfl,rfl⟩
    ·have t1:decide ((tAt a 0).1<=0)=true:=by simp;omega
     have t2:decide ((tAt a 0).2 ≥ 0)=false:=by
      have hz:=HZ.out
      simp only [ge_iff_le,decide_eq_false_iff_not]
      exact fun k=>hz ⟨rfl,Int.not_lt.1 h,k⟩
     clear h
     go_wp2_with fail
     exact merge_meet hQ2 (by kernel_rfl) ⟨rfl,rfl⟩
   ·have t0:(E==0)=false:=by simp;exact he
    clear he
    go_wp2_with fail
    exact merge_meet hQ2 (by kernel_rfl) ⟨rfl,rfl⟩
  rintro s2 V2 ⟨he,hs⟩
  replace he:=he.symm
  subst he
  simp only [mergeL]
  rw [hs]
  clear hs
  refine HK2.out _ _ ?_
  refine wp_cond_false (by rfl) ?_
  go_wp2_with fail
  refine HKB.out _ _ ?_
  obtain ⟨R,hR⟩:∃x:(List (Int×Int)×(Int×Int)×(Int×Int))×Int,rRel a E=x:=⟨_,rfl⟩
  have GR:=lh hR
  clear hR
  have HLH:=lh (show R.1.1.length=22 by rw [←GR.out];exact rRel_len a HL.out E)
  replace HU:=lh (HU.out.symm.trans (if_neg HZ.out))
  rw [GR.out] at HU
  clear HZ
  refine wsk fun K4 HK4=>?_
  refine wc (nn::nn::nn::nn::nn::some 5::some 6::some 7::n8 (n8 (nn::nn::nn::nn::nn::nn::nn::some 31::some 32::some 33::some 34::some 35::some 36::n8 (n8 (n8 (n8 (n8 (nn::nn::nn::nn::nn::nn::nn::[])))))))) (fun s w'=>Mut [A] V w'/\w'.heap[A]?=some (iobj 62 R.2)/\(∃g:Nat,s 5=.pointer (some ⟨g,0,none⟩)/\V.heap.size<=g/\w'.heap[g]?=some (cobj 34 R.1.1))/\(∃g:Nat,s 6=.pointer (some ⟨g,0,none⟩)/\V.heap.size<=g/\w'.heap[g]?=some (cobj 31 [R.1.2.1]))/\(∃g:Nat,s 7=.pointer (some ⟨g,0,none⟩)/\V.heap.size<=g/\w'.heap[g]?=some (cobj 31 [R.1.2.2]))) ?_ ?_
  ·intro Q2 hQ2
   refine wG (Zi4 V a E A R) ?_ ?_ ?_
   ·exact ⟨Mut.start _ false _,fun _=>HE.out,nB,nB,nB,nB,nB,nB,nB,nB,nB,nB,nB,nB,nB,nB,nB,nB⟩
   ·refine aC ?_ (aC ?_ (aC ?_ (aC ?_ (aC ?_ (aC ?_ (aC ?_ (aC ?_ (aC ?_ (aC ?_ (aC ?_ (aC ?_ aN)))))))))))
    ·intro L s w2 h hk hd hn K hK
     have kb:=kY h.mu HA (by have:=HLT.out;have:=lt_of_block HE.out;omega)
     exact rs_load rfl (hk 1) (md_load kb HL.out) (hK {h with e0:=rF})
    ·intro L s w2 h hk hd hn K hK
     have s4:s 4=_:=hk 4
     have s32:=h.e0 hd.1
     have kb:=h.kg_c_0 hn
     go_simp
     refine (rf_relativeP GR.out _ HL.out _ kb).mono ?_
     rintro e w3 ⟨rfl,hkr,hb⟩
     exact .inl ⟨_,rfl,hK {h with mu:=mS h.mu hb (List.Mem.head _),al_h:=fun a=>aM hb HE.out (h.al_h a),al_bb:=fun a=>aM hb HE.out (h.al_bb a),al_ee:=fun a=>aM hb HE.out (h.al_ee a),kg_c_0:=nF,kg_c_1:=fun _=>hkr,e1:=rF}⟩
    ·intro L s w2 h hk hd hn K hK
     exact rs_move rfl (h.e1 hd.1) (hK {h with e2:=rF})
    ·intro L s w2 h hk hd hn K hK
     exact rs_extract rfl (h.e2 hd.1) rfl (hK {h with e3:=rF})
    ·intro L s w2 h hk hd hn K hK
     exact rs_extract rfl (h.e2 hd.1) rfl (hK {h with e4:=rF})
    ·intro L s w2 h hk hd hn K hK
     exact rs_extract rfl (h.e2 hd.1) rfl (hK {h with e5:=rF})
    ·intro L s w2 h hk hd hn K hK
     go_simp
     exact hK {h with mu:=h.mu.alloc _,kg_c_0:=fun a=>(heap_up _ (h.kg_c_0 a)),kg_c_1:=fun a=>(heap_up _ (h.kg_c_1 a)),al_bb:=fun a=>aU (h.al_bb a),dn_h_bb:=fun _ b=>dU (h.al_bb b),al_ee:=fun a=>aU (h.al_ee a),dn_h_ee:=fun _ b=>dU (h.al_ee b),al_h:=fun _=>aW h.mu.size h.b9_6 hn,b9_6:=rF}
    ·intro L s w2 h hk hd hn K hK
     go_simp
     exact hK {h with mu:=h.mu.alloc _,kg_c_0:=fun a=>(heap_up _ (h.kg_c_0 a)),kg_c_1:=fun a=>(heap_up _ (h.kg_c_1 a)),al_h:=fun a=>aU (h.al_h a),dn_h_bb:=fun a _=>(dU (h.al_h a)).symm,al_ee:=fun a=>aU (h.al_ee a),dn_bb_ee:=fun _ b=>dU (h.al_ee b),al_bb:=fun _=>aW h.mu.size h.b10_7 hn,b10_7:=rF}
    ·intro L s w2 h hk hd hn K hK
     go_simp
     exact hK {h with mu:=h.mu.alloc _,kg_c_0:=fun a=>(heap_up _ (h.kg_c_0 a)),kg_c_1:=fun a=>(heap_up _ (h.kg_c_1 a)),al_h:=fun a=>aU (h.al_h a),dn_h_ee:=fun a _=>(dU (h.al_h a)).symm,al_bb:=fun a=>aU (h.al_bb a),dn_bb_ee:=fun a _=>(dU (h.al_bb a)).symm,al_ee:=fun _=>aW h.mu.size h.b11_8 hn,b11_8:=rF}
    ·intro L s w2 h hk hd hn K hK
     obtain ⟨g,hg0,hg1,hgl,hg2,hg3⟩:=h.al_h hd.1
     have kb:=hg2 hn
     exact rs_store rfl hg0 (h.e3 hd.2.1) (md_store kb rfl _ HLH.out) (hK {h with mu:=h.mu.putNew hg1 _,kg_c_0:=fun a=>pO (by have:=h.mu.size;have:=hg1;have:=HLT.out;have:=lt_of_block HE.out;omega) (h.kg_c_0 a),kg_c_1:=fun a=>pO (by have:=h.mu.size;have:=hg1;have:=HLT.out;have:=lt_of_block HE.out;omega) (h.kg_c_1 a),al_bb:=fun a=>aP (h.dn_h_bb hd.1 a) hg0 (h.al_bb a),al_ee:=fun a=>aP (h.dn_h_ee hd.1 a) hg0 (h.al_ee a),al_h:=fun _=>aT hg0 hg1 hgl kb,b9_6:=fun _=>hd.1})
    ·intro L s w2 h hk hd hn K hK
     obtain ⟨g,hg0,hg1,hgl,hg2,hg3⟩:=h.al_bb hd.1
     have kb:=hg2 hn
     exact rs_store rfl hg0 (h.e4 hd.2.1) (sp_store (p:=0) kb (by simp) R.1.2.1) (hK {h with mu:=h.mu.putNew hg1 _,kg_c_0:=fun a=>pO (by have:=h.mu.size;have:=hg1;have:=HLT.out;have:=lt_of_block HE.out;omega) (h.kg_c_0 a),kg_c_1:=fun a=>pO (by have:=h.mu.size;have:=hg1;have:=HLT.out;have:=lt_of_block HE.out;omega) (h.kg_c_1 a),al_h:=fun a=>aP ((h.dn_h_bb a hd.1).symm) hg0 (h.al_h a),al_ee:=fun a=>aP (h.dn_bb_ee hd.1 a) hg0 (h.al_ee a),al_bb:=fun _=>aT hg0 hg1 hgl kb,b10_7:=fun _=>hd.1})
    ·intro L s w2 h hk hd hn K hK
     obtain ⟨g,hg0,hg1,hgl,hg2,hg3⟩:=h.al_ee hd.1
     have kb:=hg2 hn
     exact rs_store rfl hg0 (h.e5 hd.2.1) (sp_store (p:=0) kb (by simp) R.1.2.2) (hK {h with mu:=h.mu.putNew hg1 _,kg_c_0:=fun a=>pO (by have:=h.mu.size;have:=hg1;have:=HLT.out;have:=lt_of_block HE.out;omega) (h.kg_c_0 a),kg_c_1:=fun a=>pO (by have:=h.mu.size;have:=hg1;have:=HLT.out;have:=lt_of_block HE.out;omega) (h.kg_c_1 a),al_h:=fun a=>aP ((h.dn_h_ee a hd.1).symm) hg0 (h.al_h a),al_bb:=fun a=>aP ((h.dn_bb_ee a hd.1).symm) hg0 (h.al_bb a),al_ee:=fun _=>aT hg0 hg1 hgl kb,b11_8:=fun _=>hd.1})
   ·intro L s w2 h hk hl
    refine cA ?_ (hQ2 s w2 (⟨h.mu,h.kg_c_1 (hl 1),aE (h.al_h (hl 6)) (hl 9),aE (h.al_bb (hl 7)) (hl 10),aE (h.al_ee (hl 8)) (hl 11)⟩))
    exact fq hk
  rintro s4 V ⟨h1,c_c,⟨g2,k_h,g_h,c_h⟩,⟨g3,k_bb,g_bb,c_bb⟩,⟨g4,k_ee,g_ee,c_ee⟩⟩
  simp only [mergeL]
  rw [k_h]
  rw [k_bb]
  rw [k_ee]
  replace HLT:=lh (show b<=g2/\b<=g3/\b<=g4/\b<g2/\b+1<g2/\A<g2/\b<g3/\b+1<g3/\A<g3/\b<g4/\b+1<g4/\A<g4/\b<=A/\b<A/\b+1<A from by
   have hlt:=HLT.out
   have hbw:=HM.out.size
   have hbw2:=HBW.out
   have:=lt_of_block HA.out
   have:=lt_of_block HR.out
   have:=lt_of_block HE.out
   omega)
  replace HA:=j1 h1 HA (by have:=HLT.out;omega)
  replace HR:=j1 h1 HR (by have:=HLT.out;omega)
  replace HE:=lh c_c
  have HH:=lh c_h
  have HBB:=lh c_bb
  have HEE:=lh c_ee
  replace HM:=mB HM h1 (by have:=HBW.out;have:=HLT.out;simp;omega)
  clear h1 c_c k_h g_h c_h k_bb g_bb c_bb k_ee g_ee c_ee
  refine HK4.out _ _ ?_
  refine wsk fun KC HKC=>?_
  by_cases hy:R.2=0/\R.1.2.2.1<=0
  ·have HY:=lh hy
   clear hy
   refine wsk fun K5 HK5=>?_
   refine wc (n8 (n8 (n8 (n8 (nn::nn::nn::nn::nn::some 37::some 38::some 39::some 40::some 41::some 42::some 43::some 44::n8 (n8 (n8 (n8 (nn::nn::nn::nn::nn::nn::nn::[]))))))))) (fun s w'=>w'=V/\s 44=.bool true) ?_ ?_
   ·intro Q2 hQ2
    have qc:=cell_of_one HE.out
    have q0:=cell_two0 HEE.out
    obtain ⟨h1,h2⟩:=HY.out
    rw [h1] at qc
    have t1:decide (R.1.2.2.1<=0)=true:=by simp;omega
    clear h1 h2
    go_wp2_with fail
    exact merge_meet hQ2 (by kernel_rfl) ⟨rfl,rfl⟩
   rintro s5 V2 ⟨he,hs⟩
   replace he:=he.symm
   subst he
   simp only [mergeL]
   rw [hs]
   clear hs
   refine HK5.out _ _ ?_
   replace HE:=lh (show V.heap[A]?=some (iobj 62 0) by rw [←HY.out.1];exact HE.out)
   refine wp_cond_true (by rfl) ?_
   refine wsk fun K6 HK6=>?_
   refine wc (nn::nn::nn::some 3::n8 (n8 (n8 (n8 (n8 (nn::some 45::n8 (n8 (n8 (n8 (nn::nn::nn::nn::nn::nn::[])))))))))) (fun s w'=>Mut [b+1] V w'/\w'.heap[b+1]?=some (cobj 34 zeroM)/\s 3=.int .i64 ((7:Nat):Int)) ?_ ?_
   ·intro Q2 hQ2
    refine wG (Zi6 V b) ?_ ?_ ?_
    ·exact ⟨Mut.start _ false _,fun _=>HR.out,nB,nB,nB⟩
    ·refine aC ?_ (aC ?_ (aC ?_ aN))
     ·intro L s w2 h hk hd hn K hK
      exact rs_bld (vs:=#[]) rfl (by simp) (by kernel_rfl) (hK {h with e0:=rF})
     ·intro L s w2 h hk hd hn K hK
      have kb:=h.kt_r hn
      exact rs_store rfl (hk 2) (h.e0 hd.1) (md_store kb rfl _ rfl) (hK {h with mu:=h.mu.put (List.Mem.head _) _,kt_r:=nF,kr_r:=fun _=>pH kb})
     ·intro L s w2 h hk hd hn K hK
      exact rs_assign rfl rfl (hK {h with e2:=rF})
    ·intro L s w2 h hk hl
     refine cA ?_ (hQ2 s w2 (⟨h.mu,h.kr_r (hl 1),h.e2 (hl 2)⟩))
     exact fq hk
   rintro s6 V ⟨h1,c_r,k3⟩
   simp only [mergeL]
   rw [k3]
   replace HA:=j1 h1 HA (by have:=HLT.out;omega)
   replace HR:=lh c_r
   replace HE:=j1 h1 HE (by have:=HLT.out;omega)
   replace HH:=j1 h1 HH (by have:=HLT.out;omega)
   replace HBB:=j1 h1 HBB (by have:=HLT.out;omega)
   replace HEE:=j1 h1 HEE (by have:=HLT.out;omega)
   replace HM:=mB HM h1 (by have:=HBW.out;have:=HLT.out;simp;omega)
   clear h1 c_r k3
   refine HK6.out _ _ ?_
   go_wp2_with fail
   exact bodyPost_ret (v:=.tuple #[mval zeroM,.int .i64 7]) (res_slot Tryz.results17 rfl rfl (md_loadVar HR.out rfl)) rfl ⟨by rw [HU.out,if_pos HY.out],by rw [←HBW.out];exact HM.out.to0⟩
  ·have HY:=lh hy
   clear hy
   refine wsk fun K5 HK5=>?_
   refine wc (n8 (n8 (n8 (n8 (nn::nn::nn::nn::nn::some 37::some 38::some 39::some 40::some 41::some 42::some 43::some 44::n8 (n8 (n8 (n8 (nn::nn::nn::nn::nn::nn::nn::[]))))))))) (fun s w'=>w'=V/\s 44=.bool false) ?_ ?_
   ·intro Q2 hQ2
    have qc:=cell_of_one HE.out
    have q0:=cell_two0 HEE.out
    by_cases he:R.2=0
    ·have t1:decide (R.1.2.2.1<=0)=false:=by
      have h:=HY.out
      simp only [decide_eq_false_iff_not]
      exact fun k=>h ⟨he,k⟩
     rw [he] at qc
     clear he
     go_wp2_with fail
     exact merge_meet hQ2 (by kernel_rfl) ⟨rfl,rfl⟩
    ·have t0:(R.2==0)=false:=by simp;exact he
     clear he
     go_wp2_with fail
     exact merge_meet hQ2 (by kernel_rfl) ⟨rfl,rfl⟩
   rintro s5 V2 ⟨he,hs⟩
   replace he:=he.symm
   subst he
   simp only [mergeL]
   rw [hs]
   clear hs
   refine HK5.out _ _ ?_
   refine wp_cond_false (by rfl) ?_
   go_wp2_with fail
   refine HKC.out _ _ ?_
   replace HU:=lh (HU.out.trans (if_neg HY.out))
   clear HY
   obtain ⟨M,hM⟩:∃x:RS,rSeries R.1.1 [4294967296,-4294967296,4294967296,-4294967296,4294967296] (zeroM.set 0 (-4294967296,-4294967296),R.2)=x:=⟨_,rfl⟩
   have GM:=lh hM
   clear hM
   obtain ⟨X,hX⟩:∃x:(Int×Int)×Int,gt M.2 (sPow R.1.2.1 6)=x:=⟨_,rfl⟩
   have GX:=lh hX
   clear hX
   obtain ⟨Y,hY⟩:∃x:(Int×Int)×Int,gt X.2 (sPow R.1.2.2 7)=x:=⟨_,rfl⟩
   have GY:=lh hY
   clear hY
   obtain ⟨Z,hZ⟩:∃x:(Int×Int)×Int,gt Y.2 (sDiv X.1 Y.1)=x:=⟨_,rfl⟩
   have GZ:=lh hZ
   clear hZ
   obtain ⟨D,hD⟩:∃x:(Int×Int)×Int,gt Z.2 (sAdd (tAt M.1 21) Z.1)=x:=⟨_,rfl⟩
   have GD:=lh hD
   clear hD
   obtain ⟨T,hT⟩:∃x:RS,rEachN sDiv (M.1.set 21 D.1) (tAt a 0) 22 0 (M.1.set 21 D.1,D.2)=x:=⟨_,rfl⟩
   have GT:=lh hT
   clear hT
   have HLM:=lh (show M.1.length=22 by rw [←GM.out];exact rSeries_len _ _ _ rfl)
   have HLT3:=lh (show T.1.length=22 by rw [←GT.out,rEachN_len,List.length_set];exact HLM.out)
   replace HU:=lh (show U=rTold T by
    have e:rInvR (tAt a 0) R.1 R.2=T:=by
     rw [←GT.out,←GD.out,←GZ.out,←GY.out,←GX.out,←GM.out]
     rfl
    rw [←e]
    exact HU.out)
   refine wsk fun K7 HK7=>?_
   refine wc (n8 (some 8::n8 (n8 (n8 (n8 (nn::nn::nn::nn::nn::some 46::some 47::some 48::n8 (n8 (n8 (n8 (nn::nn::nn::[])))))))))) (fun s w'=>Mut [A] V w'/\w'.heap[A]?=some (iobj 62 M.2)/\(∃g:Nat,s 8=.pointer (some ⟨g,0,none⟩)/\V.heap.size<=g/\w'.heap[g]?=some (cobj 34 M.1))) ?_ ?_
   ·intro Q2 hQ2
    refine wG (Zi7 V A R M) ?_ ?_ ?_
    ·exact ⟨Mut.start _ false _,fun _=>HE.out,nB,nB,nB,nB,nB,nB⟩
    ·refine aC ?_ (aC ?_ (aC ?_ (aC ?_ (aC ?_ aN))))
     ·intro L s w2 h hk hd hn K hK
      have kb:=kY h.mu HH (by have:=HLT.out;have:=lt_of_block HE.out;omega)
      exact rs_load rfl (hk 5) (md_load kb HLH.out) (hK {h with e0:=rF})
     ·intro L s w2 h hk hd hn K hK
      go_simp
      exact hK {h with e1:=rF}
     ·intro L s w2 h hk hd hn K hK
      have s4:s 4=_:=hk 4
      have s46:=h.e0 hd.1
      have s47:=h.e1 hd.2.1
      have kb:=h.kg_c_0 hn
      go_simp
      refine (rf_series _ R.2 R.1.1 HLH.out 4294967296 (-4294967296) 4294967296 (-4294967296) 4294967296 (-4294967296) M GM.out _ kb).mono ?_
      rintro e w3 ⟨rfl,hkr,hb⟩
      exact .inl ⟨_,rfl,hK {h with mu:=mS h.mu hb (List.Mem.head _),al_m:=fun a=>aM hb HE.out (h.al_m a),kg_c_0:=nF,kg_c_1:=fun _=>hkr,e2:=rF}⟩
     ·intro L s w2 h hk hd hn K hK
      go_simp
      exact hK {h with mu:=h.mu.alloc _,kg_c_0:=fun a=>(heap_up _ (h.kg_c_0 a)),kg_c_1:=fun a=>(heap_up _ (h.kg_c_1 a)),al_m:=fun _=>aW h.mu.size h.b4_3 hn,b4_3:=rF}
     ·intro L s w2 h hk hd hn K hK
      obtain ⟨g,hg0,hg1,hgl,hg2,hg3⟩:=h.al_m hd.1
      have kb:=hg2 hn
      exact rs_store rfl hg0 (h.e2 hd.2.1) (md_store kb rfl _ HLM.out) (hK {h with mu:=h.mu.putNew hg1 _,kg_c_0:=fun a=>pO (by have:=h.mu.size;have:=hg1;have:=HLT.out;have:=lt_of_block HE.out;omega) (h.kg_c_0 a),kg_c_1:=fun a=>pO (by have:=h.mu.size;have:=hg1;have:=HLT.out;have:=lt_of_block HE.out;omega) (h.kg_c_1 a),al_m:=fun _=>aT hg0 hg1 hgl kb,b4_3:=fun _=>hd.1})
    ·intro L s w2 h hk hl
     refine cA ?_ (hQ2 s w2 (⟨h.mu,h.kg_c_1 (hl 2),aE (h.al_m (hl 3)) (hl 4)⟩))
     exact fq hk
   rintro s7 V ⟨h1,c_c,⟨g5,k_m,g_m,c_m⟩⟩
   simp only [mergeL]
   rw [k_m]
   replace HLT:=lh (show b<=g5/\b<g5/\b+1<g5/\A<g5/\g2<g5/\g3<g5/\g4<g5/\b<=g2/\b<=g3/\b<=g4/\b<g2/\b+1<g2/\A<g2/\b<g3/\b+1<g3/\A<g3/\b<g4/\b+1<g4/\A<g4/\b<=A/\b<A/\b+1<A from by
    have hlt:=HLT.out
    have hbw:=HM.out.size
    have hbw2:=HBW.out
    have:=lt_of_block HA.out
    have:=lt_of_block HR.out
    have:=lt_of_block HE.out
    have:=lt_of_block HH.out
    have:=lt_of_block HBB.out
    have:=lt_of_block HEE.out
    omega)
   replace HA:=j1 h1 HA (by have:=HLT.out;omega)
   replace HR:=j1 h1 HR (by have:=HLT.out;omega)
   replace HE:=lh c_c
   replace HH:=j1 h1 HH (by have:=HLT.out;omega)
   replace HBB:=j1 h1 HBB (by have:=HLT.out;omega)
   replace HEE:=j1 h1 HEE (by have:=HLT.out;omega)
   have HO:=lh c_m
   replace HM:=mB HM h1 (by have:=HBW.out;have:=HLT.out;simp;omega)
   clear h1 c_c k_m g_m c_m
   refine HK7.out _ _ ?_
   refine wsk fun K8 HK8=>?_
   refine wc (n8 (n8 (n8 (n8 (n8 (n8 (nn::some 49::some 50::some 51::some 52::some 53::some 54::some 55::some 56::some 57::n8 (n8 (n8 (nn::nn::[])))))))))) (fun _ w'=>Mut [g5,A] V w'/\w'.heap[g5]?=some (cobj 34 (M.1.set 21 D.1))/\w'.heap[A]?=some (iobj 62 D.2)) ?_ ?_
   ·intro Q2 hQ2
    refine wG (Zi8 V A R M X Y Z D g5) ?_ ?_ ?_
    ·exact ⟨Mut.start _ true _,fun _=>HO.out,nB,fun _=>HE.out,nB,nB,nB,nB,nB,nB,nB,nB,nB,nB,nB,nB,nB,nB,nB,nB,nB⟩
    ·refine aC ?_ (aC ?_ (aC ?_ (aC ?_ (aC ?_ (aC ?_ (aC ?_ (aC ?_ (aC ?_ (aC ?_ aN)))))))))
     ·intro L s w2 h hk hd hn K hK
      exact rs_field rfl (hk 8) (fl_model1 _ _) (hK {h with e0:=rF})
     ·intro L s w2 h hk hd hn K hK
      have kb:=(h.kt_m (bF h.b9_1 hn))
      exact rs_load rfl (h.e0 hd.1) (sp_load (p:=21) kb (by have:=(HLM.out:M.1.length=22);omega)) (hK {h with e1:=rF,b9_1:=rF})
     ·intro L s w2 h hk hd hn K hK
      have kb:=kX h.mu HBB (by have:=HLT.out;have:=lt_of_block HE.out;omega) (by have:=HLT.out;have:=lt_of_block HE.out;omega)
      exact rs_load rfl (hk 6) (sp_load (p:=0) kb (by simp)) (hK {h with e2:=rF})
     ·intro L s w2 h hk hd hn K hK
      have s4:s 4=_:=hk 4
      have s51:=h.e2 hd.1
      have kb:=h.kg_c_0 hn
      go_simp
      refine (rf_powP GX.out _ _ kb).mono ?_
      rintro e w3 ⟨rfl,hkr,hb⟩
      exact .inl ⟨_,rfl,hK {h with mu:=mS h.mu hb (List.Mem.tail _ (List.Mem.head _)),kt_m:=fun a=>hS hb (by have:=HLT.out;have:=lt_of_block HE.out;omega) (h.kt_m a),kr_m:=fun a=>hS hb (by have:=HLT.out;have:=lt_of_block HE.out;omega) (h.kr_m a),kg_c_0:=nF,kg_c_1:=fun _ _=>hkr,kg_c_2:=fun a _=>aB (h.b5_3 a) hn,kg_c_3:=fun a _=>absurd (h.b5_3 (h.b6_5 a)) (by rw [hn];exact bft),kg_c_4:=fun a=>absurd (h.b5_3 (h.b6_5 (h.b7_6 a))) (by rw [hn];exact bft),e3:=rF,b5_3:=rF}⟩
     ·intro L s w2 h hk hd hn K hK
      have kb:=kX h.mu HEE (by have:=HLT.out;have:=lt_of_block HE.out;omega) (by have:=HLT.out;have:=lt_of_block HE.out;omega)
      exact rs_load rfl (hk 7) (sp_load (p:=0) kb (by simp)) (hK {h with e4:=rF})
     ·intro L s w2 h hk hd hn K hK
      have s4:s 4=_:=hk 4
      have s53:=h.e4 hd.1
      have kb:=h.kg_c_1 hd.2.1 hn
      go_simp
      refine (rf_powP GY.out _ _ kb).mono ?_
      rintro e w3 ⟨rfl,hkr,hb⟩
      exact .inl ⟨_,rfl,hK {h with mu:=mS h.mu hb (List.Mem.tail _ (List.Mem.head _)),kt_m:=fun a=>hS hb (by have:=HLT.out;have:=lt_of_block HE.out;omega) (h.kt_m a),kr_m:=fun a=>hS hb (by have:=HLT.out;have:=lt_of_block HE.out;omega) (h.kr_m a),kg_c_0:=fun a=>absurd (a.symm.trans hd.2.1) bft,kg_c_1:=fun a c=>absurd c.symm bft,kg_c_2:=fun _ _=>hkr,kg_c_3:=fun a _=>aB (h.b6_5 a) hn,kg_c_4:=fun a=>absurd (h.b6_5 (h.b7_6 a)) (by rw [hn];exact bft),e5:=rF,b5_3:=fun _=>hd.2.1,b6_5:=rF}⟩
     ·intro L s w2 h hk hd hn K hK
      have s4:s 4=_:=hk 4
      have s52:=h.e3 hd.1
      have s54:=h.e5 hd.2.1
      have kb:=h.kg_c_2 hd.2.1 hn
      go_simp
      refine (rf_divP GZ.out _ _ kb).mono ?_
      rintro e w3 ⟨rfl,hkr,hb⟩
      exact .inl ⟨_,rfl,hK {h with mu:=mS h.mu hb (List.Mem.tail _ (List.Mem.head _)),kt_m:=fun a=>hS hb (by have:=HLT.out;have:=lt_of_block HE.out;omega) (h.kt_m a),kr_m:=fun a=>hS hb (by have:=HLT.out;have:=lt_of_block HE.out;omega) (h.kr_m a),kg_c_0:=fun a=>absurd (a.symm.trans hd.1) bft,kg_c_1:=fun a c=>absurd (c.symm.trans hd.2.1) bft,kg_c_2:=fun a c=>absurd c.symm bft,kg_c_3:=fun _ _=>hkr,kg_c_4:=fun a=>aB (h.b7_6 a) hn,e6:=rF,b6_5:=fun _=>hd.2.1,b7_6:=rF}⟩
     ·intro L s w2 h hk hd hn K hK
      have s4:s 4=_:=hk 4
      have s50:=h.e1 hd.1
      have s55:=h.e6 hd.2.1
      have kb:=h.kg_c_3 hd.2.1 hn
      go_simp
      refine (rf_addP GD.out _ _ kb).mono ?_
      rintro e w3 ⟨rfl,hkr,hb⟩
      exact .inl ⟨_,rfl,hK {h with mu:=mS h.mu hb (List.Mem.tail _ (List.Mem.head _)),kt_m:=fun a=>hS hb (by have:=HLT.out;have:=lt_of_block HE.out;omega) (h.kt_m a),kr_m:=fun a=>hS hb (by have:=HLT.out;have:=lt_of_block HE.out;omega) (h.kr_m a),kg_c_0:=fun a=>absurd (a.symm.trans (h.b5_3 (h.b6_5 hd.2.1))) bft,kg_c_1:=fun a c=>absurd (c.symm.trans (h.b6_5 hd.2.1)) bft,kg_c_2:=fun a c=>absurd (c.symm.trans hd.2.1) bft,kg_c_3:=fun a c=>absurd c.symm bft,kg_c_4:=fun _=>hkr,e7:=rF,b7_6:=fun _=>hd.2.1}⟩
     ·intro L s w2 h hk hd hn K hK
      exact rs_field rfl (hk 8) (fl_model1 _ _) (hK {h with e8:=rF})
     ·intro L s w2 h hk hd hn K hK
      have kb:=h.kt_m hn
      exact rs_store rfl (h.e8 hd.1) (h.e7 hd.2.1) (sp_store (p:=21) kb (by have:=(HLM.out:M.1.length=22);omega) D.1) (hK {h with mu:=h.mu.put (List.Mem.head _) _,kg_c_0:=fun a=>pO (by have:=HLT.out;have:=lt_of_block HE.out;omega) (h.kg_c_0 a),kg_c_1:=fun a c=>pO (by have:=HLT.out;have:=lt_of_block HE.out;omega) (h.kg_c_1 a c),kg_c_2:=fun a c=>pO (by have:=HLT.out;have:=lt_of_block HE.out;omega) (h.kg_c_2 a c),kg_c_3:=fun a c=>pO (by have:=HLT.out;have:=lt_of_block HE.out;omega) (h.kg_c_3 a c),kg_c_4:=fun a=>pO (by have:=HLT.out;have:=lt_of_block HE.out;omega) (h.kg_c_4 a),kt_m:=nF,kr_m:=fun _=>pH kb,b9_1:=fun _=>hd.2.2.2.2.1})
    ·intro L s w2 h hk hl
     refine cA ?_ (hQ2 s w2 (⟨h.mu,h.kr_m (hl 9),h.kg_c_4 (hl 7)⟩))
     exact fq hk
   rintro s8 V ⟨h1,c_m,c_c⟩
   simp only [mergeL]
   replace HA:=j2 h1 HA (by have:=HLT.out;omega) (by have:=HLT.out;omega)
   replace HR:=j2 h1 HR (by have:=HLT.out;omega) (by have:=HLT.out;omega)
   replace HE:=lh c_c
   replace HH:=j2 h1 HH (by have:=HLT.out;omega) (by have:=HLT.out;omega)
   replace HBB:=j2 h1 HBB (by have:=HLT.out;omega) (by have:=HLT.out;omega)
   replace HEE:=j2 h1 HEE (by have:=HLT.out;omega) (by have:=HLT.out;omega)
   replace HO:=lh c_m
   replace HM:=mB HM h1 (by have:=HBW.out;have:=HLT.out;simp;omega)
   clear h1 c_m c_c
   refine HK8.out _ _ ?_
   have HLS:=lh (show (M.1.set 21 D.1).length=22 by rw [List.length_set];exact HLM.out)
   obtain ⟨m,hm⟩:∃m,M.1.set 21 D.1=m:=⟨_,rfl⟩
   rw [hm] at HO HLS GT
   have HLD:=HLS
   clear hm HLS
   refine wsk fun KL HKL=>?_
   go_wp2_with fail
   go_loopw [9] (fun x wr=>∃p:Nat,p<=21/\x=.int .i64 p/\Hid (∃(S:List (Int×Int)) (ee:Int),Mut [g5,A] V wr/\wr.heap[A]?=some (iobj 62 ee)/\wr.heap[g5]?=some (cobj 34 S)/\S.length=22/\(∀q,p<=q->tAt S q=tAt m q)/\rEachN sDiv m (tAt a 0) (22-p) p (S,ee)=T)) (fun x _=>21-(intOf x).toNat)
   case atStart=>exact ⟨0,by omega,rfl,lh ⟨m,D.2,Mut.refl _ _,HE.out,HO.out,HLD.out,fun _ _=>rfl,GT.out⟩⟩
   case round =>
    obtain ⟨p,hp,rfl,HG⟩:=hrel
    obtain ⟨S,ee,hmu,hE,hO,hls,hsq,hq⟩:=HG.out
    have HQ:=lh hq
    have HSQ:=lh hsq
    have HLS:=lh hls
    clear hq HG hls hsq
    have hm2:=HM.out.stepM hmu (by have:=HBW.out;have:=HLT.out;intro x hx;simp only [List.mem_cons,List.not_mem_nil,or_false] at hx;rcases hx with rfl | rfl<;>first | exact .inl (List.mem_singleton.2 rfl) | (right;omega))
    refine wp_world (fun U=>Mut [] w U/\Mut [g5,A] V U/\U.heap[b]?=some (cobj 34 a)/\U.heap[b+1]?=some (cobj 34 zeroM)/\U.heap[A]?=some (iobj 62 ee)/\U.heap[g2]?=some (cobj 34 R.1.1)/\U.heap[g3]?=some (cobj 31 ([R.1.2.1]))/\U.heap[g4]?=some (cobj 31 ([R.1.2.2]))/\U.heap[g5]?=some (cobj 34 S)) ?_ ⟨hm2,hmu,((hmu.same _ (lt_of_block HA.out) (notin2 (by have:=HLT.out;omega) (by have:=HLT.out;omega))).trans HA.out),((hmu.same _ (lt_of_block HR.out) (notin2 (by have:=HLT.out;omega) (by have:=HLT.out;omega))).trans HR.out),hE,((hmu.same _ (lt_of_block HH.out) (notin2 (by have:=HLT.out;omega) (by have:=HLT.out;omega))).trans HH.out),((hmu.same _ (lt_of_block HBB.out) (notin2 (by have:=HLT.out;omega) (by have:=HLT.out;omega))).trans HBB.out),((hmu.same _ (lt_of_block HEE.out) (notin2 (by have:=HLT.out;omega) (by have:=HLT.out;omega))).trans HEE.out),hO⟩
    clear hm2 HM HA HR HE HH HBB HEE HO hmu hE hO
    rintro V ⟨q1,q2,qHA,qHR,qHE,qHH,qHBB,qHEE,qHO⟩
    have HM:=lh q1
    have HGM:=lh q2
    have HA:=lh qHA
    have HR:=lh qHR
    have HE:=lh qHE
    have HH:=lh qHH
    have HBB:=lh qHBB
    have HEE:=lh qHEE
    have HO:=lh qHO
    clear q1 q2 qHA qHR qHE qHH qHBB qHEE qHO
    rcases Nat.lt_or_ge p 21 with hk | hk
    ·have t1:decide ((p:Int)<21)=true:=by simp;omega
     have HPL:=lh hk
     have p0:(0:Int)<=(p:Int):=by omega
     have p9:(p:Int)<21:=by omega
     obtain ⟨x,hx⟩:∃x,gt ee (sDiv (tAt S p) (tAt a 0))=x:=⟨_,rfl⟩
     have GD2:=lh hx
     replace HQ:=lh (show rEachN sDiv m (tAt a 0) (22-(p+1)) (p+1) (S.set p x.1,x.2)=T by
      have h:=HQ.out
      rw [show 22-p=(22-(p+1))+1 by omega,rEachN,rPutF] at h
      simp only [←HSQ.out p (Nat.le_refl _),hx] at h
      exact h)
     clear hk hp hx
     refine wsk fun KP HKP=>?_
     go_wp2_with fail
     refine HKP.out _ _ ?_
     refine wsk fun KQ HKQ=>?_
     refine wp_block ?_
     refine wc (n8 (n8 (n8 (n8 (n8 (n8 (n8 (nn::nn::nn::nn::nn::nn::some 62::some 63::some 64::some 65::some 66::some 67::some 68::some 69::some 70::some 71::some 72::n8 (nn::nn::nn::[]))))))))) (fun _ w'=>Mut [g5,A] V w'/\w'.heap[g5]?=some (cobj 34 (S.set p x.1))/\w'.heap[A]?=some (iobj 62 x.2)) ?_ ?_
     ·intro Q2 hQ2
      refine wG (Zi12 V a b A g5 S ee p x) ?_ ?_ ?_
      ·exact ⟨Mut.start _ true _,fun _=>HO.out,nB,fun _=>HE.out,nB,nB,nB,nB,nB,nB,nB,nB,nB,nB,nB,nB,nB⟩
      ·refine aC ?_ (aC ?_ (aC ?_ (aC ?_ (aC ?_ (aC ?_ (aC ?_ (aC ?_ (aC ?_ (aC ?_ (aC ?_ (aC ?_ aN)))))))))))
       ·intro L s w2 h hk hd hn K hK
        exact rs_move rfl (hk 9) (hK {h with e0:=rF})
       ·intro L s w2 h hk hd hn K hK
        exact rs_move rfl (hk 9) (hK {h with e1:=rF})
       ·intro L s w2 h hk hd hn K hK
        exact rs_field rfl (hk 8) (fl_model0 _ _) (hK {h with e2:=rF})
       ·intro L s w2 h hk hd hn K hK
        exact rs_index rfl (h.e2 hd.1) (h.e1 hd.2.1) (ix_model _ p HPL.out) (hK {h with e3:=rF})
       ·intro L s w2 h hk hd hn K hK
        have kb:=(h.kt_m (bF h.b11_4 hn))
        exact rs_load rfl (h.e3 hd.1) (sp_load (p:=p) kb (by have:=HLS.out;have:=HPL.out;omega)) (hK {h with e4:=rF,b11_4:=rF})
       ·intro L s w2 h hk hd hn K hK
        exact rs_field rfl (hk 1) (fl_model0 _ _) (hK {h with e5:=rF})
       ·intro L s w2 h hk hd hn K hK
        exact rs_index rfl (h.e5 hd.1) rfl (ix_model _ 0 (by omega)) (hK {h with e6:=rF})
       ·intro L s w2 h hk hd hn K hK
        have kb:=kX h.mu HA (by have:=HLT.out;have:=lt_of_block HE.out;omega) (by have:=HLT.out;have:=lt_of_block HE.out;omega)
        exact rs_load rfl (h.e6 hd.1) (sp_load (p:=0) kb (by have:=(HL.out:a.length=22);omega)) (hK {h with e7:=rF})
       ·intro L s w2 h hk hd hn K hK
        have s4:s 4=_:=hk 4
        have s66:=h.e4 hd.1
        have s69:=h.e7 hd.2.1
        have kb:=h.kg_c_0 hn
        go_simp
        refine (rf_divP GD2.out _ _ kb).mono ?_
        rintro e w3 ⟨rfl,hkr,hb⟩
        exact .inl ⟨_,rfl,hK {h with mu:=mS h.mu hb (List.Mem.tail _ (List.Mem.head _)),kt_m:=fun a=>hS hb (by have:=HLT.out;have:=lt_of_block HE.out;omega) (h.kt_m a),kr_m:=fun a=>hS hb (by have:=HLT.out;have:=lt_of_block HE.out;omega) (h.kr_m a),kg_c_0:=nF,kg_c_1:=fun _=>hkr,e8:=rF}⟩
       ·intro L s w2 h hk hd hn K hK
        exact rs_field rfl (hk 8) (fl_model0 _ _) (hK {h with e9:=rF})
       ·intro L s w2 h hk hd hn K hK
        exact rs_index rfl (h.e9 hd.1) (h.e0 hd.2.1) (ix_model _ p HPL.out) (hK {h with e10:=rF})
       ·intro L s w2 h hk hd hn K hK
        have kb:=h.kt_m hn
        exact rs_store rfl (h.e10 hd.1) (h.e8 hd.2.1) (sp_store (p:=p) kb (by have:=HLS.out;have:=HPL.out;omega) x.1) (hK {h with mu:=h.mu.put (List.Mem.head _) _,kg_c_0:=fun a=>pO (by have:=HLT.out;have:=lt_of_block HE.out;omega) (h.kg_c_0 a),kg_c_1:=fun a=>pO (by have:=HLT.out;have:=lt_of_block HE.out;omega) (h.kg_c_1 a),kt_m:=nF,kr_m:=fun _=>pH kb,b11_4:=fun _=>hd.2.2.2.2.2.2.2.1})
      ·intro L s w2 h hk hl
       refine cA ?_ (hQ2 s w2 (⟨h.mu,h.kr_m (hl 11),h.kg_c_1 (hl 8)⟩))
       exact fq hk
     rintro s12 V ⟨h1,c_m,c_c⟩
     simp only [mergeL]
     replace HA:=j2 h1 HA (by have:=HLT.out;omega) (by have:=HLT.out;omega)
     replace HR:=j2 h1 HR (by have:=HLT.out;omega) (by have:=HLT.out;omega)
     replace HE:=lh c_c
     replace HH:=j2 h1 HH (by have:=HLT.out;omega) (by have:=HLT.out;omega)
     replace HBB:=j2 h1 HBB (by have:=HLT.out;omega) (by have:=HLT.out;omega)
     replace HEE:=j2 h1 HEE (by have:=HLT.out;omega) (by have:=HLT.out;omega)
     replace HO:=lh c_m
     replace HM:=mB HM h1 (by have:=HBW.out;have:=HLT.out;simp;omega)
     have HFX:=lh (HGM.out.trans h1)
     clear h1 c_m c_c
     go_wp2_with fail
     refine HKQ.out _ _ ?_
     go_wp2_with fail
     go_roundw
     case rel=>first | exact ⟨p+1,by have:=HPL.out;omega,by go_num,lh ⟨_,_,HFX.out,HE.out,HO.out,by rw [List.length_set];exact HLS.out,fun q hq=>(tAt_set_up _ hq).trans (HSQ.out q (Nat.le_of_lt hq)),HQ.out⟩⟩ | ((repeat apply Exists.intro);exact ⟨⟨p+1,by have:=HPL.out;omega,by go_num,lh ⟨_,_,HFX.out,HE.out,HO.out,by rw [List.length_set];exact HLS.out,fun q hq=>(tAt_set_up _ hq).trans (HSQ.out q (Nat.le_of_lt hq)),HQ.out⟩⟩,rfl⟩)
     case measure=>simp [intOf];have:=HPL.out;omega
    ·obtain rfl:p=21:=by omega
     have HPL:=lh trivial
     obtain ⟨x,hx⟩:∃x,gt ee (sDiv (tAt S 21) (tAt a 0))=x:=⟨_,rfl⟩
     have GD2:=lh hx
     replace HQ:=lh (show T=(S.set 21 x.1,x.2) by
      have h:=HQ.out
      rw [show 22-21=0+1 from rfl,rEachN,rPutF] at h
      simp only [←HSQ.out 21 (Nat.le_refl _),hx] at h
      exact h.symm)
     go_wp2_with fail
     refine HKL.out _ _ ?_
     clear hk hp hx HPL
     refine wsk fun K13 HK13=>?_
     refine wc (n8 (n8 (n8 (n8 (n8 (n8 (n8 (n8 (n8 (nn::some 73::some 74::some 75::some 76::some 77::some 78::some 79::nn::nn::nn::nn::[])))))))))) (fun _ w'=>Mut [g5,A] V w'/\w'.heap[g5]?=some (cobj 34 (S.set 21 x.1))/\w'.heap[A]?=some (iobj 62 x.2)) ?_ ?_
     ·intro Q2 hQ2
      refine wG (Zi13 V a b A g5 S ee x) ?_ ?_ ?_
      ·exact ⟨Mut.start _ false _,fun _=>HO.out,nB,fun _=>HE.out,nB,nB,nB,nB,nB,nB,nB,nB,nB⟩
      ·refine aC ?_ (aC ?_ (aC ?_ (aC ?_ (aC ?_ (aC ?_ (aC ?_ (aC ?_ aN)))))))
       ·intro L s w2 h hk hd hn K hK
        exact rs_field rfl (hk 8) (fl_model1 _ _) (hK {h with e0:=rF})
       ·intro L s w2 h hk hd hn K hK
        have kb:=(h.kt_m (bF h.b7_1 hn))
        exact rs_load rfl (h.e0 hd.1) (sp_load (p:=21) kb (by have:=HLS.out;omega)) (hK {h with e1:=rF,b7_1:=rF})
       ·intro L s w2 h hk hd hn K hK
        exact rs_field rfl (hk 1) (fl_model0 _ _) (hK {h with e2:=rF})
       ·intro L s w2 h hk hd hn K hK
        exact rs_index rfl (h.e2 hd.1) rfl (ix_model _ 0 (by omega)) (hK {h with e3:=rF})
       ·intro L s w2 h hk hd hn K hK
        have kb:=kX h.mu HA (by have:=HLT.out;have:=lt_of_block HE.out;omega) (by have:=HLT.out;have:=lt_of_block HE.out;omega)
        exact rs_load rfl (h.e3 hd.1) (sp_load (p:=0) kb (by have:=(HL.out:a.length=22);omega)) (hK {h with e4:=rF})
       ·intro L s w2 h hk hd hn K hK
        have s4:s 4=_:=hk 4
        have s74:=h.e1 hd.1
        have s77:=h.e4 hd.2.1
        have kb:=h.kg_c_0 hn
        go_simp
        refine (rf_divP GD2.out _ _ kb).mono ?_
        rintro e w3 ⟨rfl,hkr,hb⟩
        exact .inl ⟨_,rfl,hK {h with mu:=mS h.mu hb (List.Mem.tail _ (List.Mem.head _)),kt_m:=fun a=>hS hb (by have:=HLT.out;have:=lt_of_block HE.out;omega) (h.kt_m a),kr_m:=fun a=>hS hb (by have:=HLT.out;have:=lt_of_block HE.out;omega) (h.kr_m a),kg_c_0:=nF,kg_c_1:=fun _=>hkr,e5:=rF}⟩
       ·intro L s w2 h hk hd hn K hK
        exact rs_field rfl (hk 8) (fl_model1 _ _) (hK {h with e6:=rF})
       ·intro L s w2 h hk hd hn K hK
        have kb:=h.kt_m hn
        exact rs_store rfl (h.e6 hd.1) (h.e5 hd.2.1) (sp_store (p:=21) kb (by have:=HLS.out;omega) x.1) (hK {h with mu:=h.mu.put (List.Mem.head _) _,kg_c_0:=fun a=>pO (by have:=HLT.out;have:=lt_of_block HE.out;omega) (h.kg_c_0 a),kg_c_1:=fun a=>pO (by have:=HLT.out;have:=lt_of_block HE.out;omega) (h.kg_c_1 a),kt_m:=nF,kr_m:=fun _=>pH kb,b7_1:=fun _=>hd.2.2.2.2.1})
      ·intro L s w2 h hk hl
       refine cA ?_ (hQ2 s w2 (⟨h.mu,h.kr_m (hl 7),h.kg_c_1 (hl 5)⟩))
       exact fq hk
     rintro s13 V ⟨h1,c_m,c_c⟩
     simp only [mergeL]
     replace HA:=j2 h1 HA (by have:=HLT.out;omega) (by have:=HLT.out;omega)
     replace HR:=j2 h1 HR (by have:=HLT.out;omega) (by have:=HLT.out;omega)
     replace HE:=lh c_c
     replace HH:=j2 h1 HH (by have:=HLT.out;omega) (by have:=HLT.out;omega)
     replace HBB:=j2 h1 HBB (by have:=HLT.out;omega) (by have:=HLT.out;omega)
     replace HEE:=j2 h1 HEE (by have:=HLT.out;omega) (by have:=HLT.out;omega)
     replace HO:=lh c_m
     replace HM:=mB HM h1 (by have:=HBW.out;have:=HLT.out;simp;omega)
     clear h1 c_m c_c
     refine HK13.out _ _ ?_
     replace HO:=lh (show V.heap[g5]?=some (cobj 34 T.1) by rw [HQ.out];exact HO.out)
     replace HE:=lh (show V.heap[A]?=some (iobj 62 T.2) by rw [HQ.out];exact HE.out)
     clear HQ
     replace HU:=lh (show rTold (T.1,T.2)=U from HU.out.symm)
     have HLU:=lh (show U.1.length=22 by rw [←HU.out];exact rTold_len HLT3.out)
     refine wsk fun K14 HK14=>?_
     refine wc (nn::nn::nn::some 3::n8 (n8 (n8 (n8 (n8 (n8 (n8 (n8 (n8 (nn::nn::nn::nn::some 80::some 81::some 82::some 83::[])))))))))) (fun s w'=>Mut [b+1,A] V w'/\w'.heap[b+1]?=some (cobj 34 U.1)/\w'.heap[A]?=some (iobj 62 T.2)/\s 3=.int .i64 U.2) ?_ ?_
     ·intro Q2 hQ2
      refine wG (Zi14 V b A T U) ?_ ?_ ?_
      ·exact ⟨Mut.start _ false _,fun _=>HR.out,nB,fun _=>HE.out,nB,nB,nB,nB,nB,nB⟩
      ·refine aC ?_ (aC ?_ (aC ?_ (aC ?_ (aC ?_ (aC ?_ aN)))))
       ·intro L s w2 h hk hd hn K hK
        have kb:=kX h.mu HO (by have:=HLT.out;have:=lt_of_block HE.out;omega) (by have:=HLT.out;have:=lt_of_block HE.out;omega)
        exact rs_load rfl (hk 8) (md_load kb HLT3.out) (hK {h with e0:=rF})
       ·intro L s w2 h hk hd hn K hK
        have s4:s 4=_:=hk 4
        have s80:=h.e0 hd.1
        have kb:=h.kg_c_0 hn
        go_simp
        refine (rf_toldP HU.out _ HLT3.out _ kb).mono ?_
        rintro e w3 ⟨rfl,hkr,hb⟩
        exact .inl ⟨_,rfl,hK {h with mu:=mS h.mu hb (List.Mem.tail _ (List.Mem.head _)),kt_r:=fun a=>hS hb (by have:=HLT.out;have:=lt_of_block HE.out;omega) (h.kt_r a),kr_r:=fun a=>hS hb (by have:=HLT.out;have:=lt_of_block HE.out;omega) (h.kr_r a),kg_c_0:=nF,kg_c_1:=fun _=>hkr,e1:=rF}⟩
       ·intro L s w2 h hk hd hn K hK
        exact rs_extract rfl (h.e1 hd.1) rfl (hK {h with e2:=rF})
       ·intro L s w2 h hk hd hn K hK
        exact rs_extract rfl (h.e1 hd.1) rfl (hK {h with e3:=rF})
       ·intro L s w2 h hk hd hn K hK
        have kb:=h.kt_r hn
        exact rs_store rfl (hk 2) (h.e2 hd.1) (md_store kb rfl _ HLU.out) (hK {h with mu:=h.mu.put (List.Mem.head _) _,kg_c_0:=fun a=>pO (by have:=HLT.out;have:=lt_of_block HE.out;omega) (h.kg_c_0 a),kg_c_1:=fun a=>pO (by have:=HLT.out;have:=lt_of_block HE.out;omega) (h.kg_c_1 a),kt_r:=nF,kr_r:=fun _=>pH kb})
       ·intro L s w2 h hk hd hn K hK
        exact rs_assign rfl (h.e3 hd.1) (hK {h with e5:=rF})
      ·intro L s w2 h hk hl
       refine cA ?_ (hQ2 s w2 (⟨h.mu,h.kr_r (hl 4),h.kg_c_1 (hl 1),h.e5 (hl 5)⟩))
       exact fq hk
     rintro s14 V ⟨h1,c_r,c_c,k3⟩
     simp only [mergeL]
     rw [k3]
     replace HA:=j2 h1 HA (by have:=HLT.out;omega) (by have:=HLT.out;omega)
     replace HR:=lh c_r
     replace HE:=lh c_c
     replace HH:=j2 h1 HH (by have:=HLT.out;omega) (by have:=HLT.out;omega)
     replace HBB:=j2 h1 HBB (by have:=HLT.out;omega) (by have:=HLT.out;omega)
     replace HEE:=j2 h1 HEE (by have:=HLT.out;omega) (by have:=HLT.out;omega)
     replace HO:=j2 h1 HO (by have:=HLT.out;omega) (by have:=HLT.out;omega)
     replace HM:=mB HM h1 (by have:=HBW.out;have:=HLT.out;simp;omega)
     clear h1 c_r c_c k3
     refine HK14.out _ _ ?_
     refine wp_ret ?_
     exact bodyPost_ret (v:=.tuple #[mval U.1,.int .i64 U.2]) (res_slot Tryz.results17 rfl rfl (md_loadVar HR.out HLU.out)) rfl ⟨rfl,by rw [←HBW.out];exact HM.out.to0⟩
end Go.Proofs.YthhkcfpljgdnhaaGreat
