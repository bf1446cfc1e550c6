/- The reference of layer 21: Sqrt. Printed by wip/genSU.py. -/
import Derived.Test.YthhkcfpljgdnhaaGreatRefTO
namespace Go.Proofs.YthhkcfpljgdnhaaGreat
open Go.RowKit Mnc
attribute [local go_sem] RunSP_value RunSP_skip RunSP_enter evS_tmp evS_const evS_global evS_func
theorem ref2_SqrtP {x:Int×Int} {X:(Int×Int)×Int} (hX:sSqrt x=X) (w:World):Calls Tryz.prog 55 #[sval x] w fun e w'=>e=.returned (.tuple #[sval X.1,.int .i64 X.2])/\Below w.heap.size w w':=by
 subst hX
 exact ref2_Sqrt x w
structure Zj1 (V:World) (a:List (Int×Int)) (E:Int) (L:Nat->Bool) (s:Nat->Value) (w:World):Prop where
 mu:Mut [] V w
 e0:L 0->s 12=mval a
 e1:L 1->s 13=.int .i64 E
 e2:L 2->s 14=.agg #[.int .i64 E]
 al_c:L 3->∃g:Nat,s 4=.pointer (some ⟨g,0,none⟩)/\V.heap.size<=g/\g<w.heap.size/\(L 4=false->w.heap[g]?=some (iobj 62 0))/\(L 4=true->w.heap[g]?=some (iobj 62 E))
 b4_3:L 4->L 3
structure Zj3 (V:World) (b:Nat) (L:Nat->Bool) (s:Nat->Value) (w:World):Prop where
 mu:Mut [b+1] V w
 kt_r:L 1=false->w.heap[b+1]?=some (cobj 34 zeroM)
 kr_r:L 1->w.heap[b+1]?=some (cobj 34 zeroM)
 e0:L 0->s 25=mval zeroM
 e2:L 2->s 3=.int .i64 ((7:Nat):Int)
structure Zj4 (V:World) (a:List (Int×Int)) (E:Int) (A:Nat) (R:(List (Int×Int)×(Int×Int)×(Int×Int))×Int) (L:Nat->Bool) (s:Nat->Value) (w:World):Prop where
 mu:Mut [A] V w
 kg_c_0:L 1=false->w.heap[A]?=some (iobj 62 E)
 kg_c_1:L 1->w.heap[A]?=some (iobj 62 R.2)
 e0:L 0->s 27=mval a
 e1:L 1->s 28=.tuple #[mval R.1.1,sval R.1.2.1,sval R.1.2.2]
 e2:L 2->s 26=.tuple #[mval R.1.1,sval R.1.2.1,sval R.1.2.2]
 e3:L 3->s 29=mval R.1.1
 e4:L 4->s 30=sval R.1.2.1
 e5:L 5->s 31=sval R.1.2.2
 al_h:L 6->∃g:Nat,s 5=.pointer (some ⟨g,0,none⟩)/\V.heap.size<=g/\g<w.heap.size/\(L 9=false->w.heap[g]?=some (cobj 34 zeroM))/\(L 9=true->w.heap[g]?=some (cobj 34 R.1.1))
 dn_h_bb:L 6->L 7->s 5≠s 6
 dn_h_ee:L 6->L 8->s 5≠s 7
 al_bb:L 7->∃g:Nat,s 6=.pointer (some ⟨g,0,none⟩)/\V.heap.size<=g/\g<w.heap.size/\(L 10=false->w.heap[g]?=some (cobj 31 [(0,0)]))/\(L 10=true->w.heap[g]?=some (cobj 31 [R.1.2.1]))
 dn_bb_ee:L 7->L 8->s 6≠s 7
 al_ee:L 8->∃g:Nat,s 7=.pointer (some ⟨g,0,none⟩)/\V.heap.size<=g/\g<w.heap.size/\(L 11=false->w.heap[g]?=some (cobj 31 [(0,0)]))/\(L 11=true->w.heap[g]?=some (cobj 31 [R.1.2.2]))
 b9_6:L 9->L 6
 b10_7:L 10->L 7
 b11_8:L 11->L 8
structure Zj6 (V:World) (b:Nat) (A:Nat) (R:(List (Int×Int)×(Int×Int)×(Int×Int))×Int) (L:Nat->Bool) (s:Nat->Value) (w:World):Prop where
 mu:Mut [b+1] V w
 kt_r:L 3=false->w.heap[b+1]?=some (cobj 34 zeroM)
 kr_r:L 3->w.heap[b+1]?=some (cobj 34 zeroM)
 e0:L 0->s 35=mval zeroM
 e1:L 1->s 36=.pointer (some ⟨A,0,none⟩)
 e2:L 2->s 37=.int .i64 R.2
 e4:L 4->s 3=.int .i64 R.2
structure Zj8 (V:World) (b:Nat) (L:Nat->Bool) (s:Nat->Value) (w:World):Prop where
 mu:Mut [b+1] V w
 kt_r:L 1=false->w.heap[b+1]?=some (cobj 34 zeroM)
 kr_r:L 1->w.heap[b+1]?=some (cobj 34 zeroM)
 e0:L 0->s 41=mval zeroM
 e2:L 2->s 3=.int .i64 ((7:Nat):Int)
structure Zj9 (V:World) (A:Nat) (R:(List (Int×Int)×(Int×Int)×(Int×Int))×Int) (M:RS) (L:Nat->Bool) (s:Nat->Value) (w:World):Prop where
 mu:Mut [A] V w
 kg_c_0:L 2=false->w.heap[A]?=some (iobj 62 0)
 kg_c_1:L 2->w.heap[A]?=some (iobj 62 M.2)
 e0:L 0->s 42=mval R.1.1
 e1:L 1->s 43=.agg #[.int .i64 4294967296,.int .i64 2147483648,.int .i64 (-536870912),.int .i64 268435456,.int .i64 (-167772160),.int .i64 117440512]
 e2:L 2->s 44=mval M.1
 al_m:L 3->∃g:Nat,s 8=.pointer (some ⟨g,0,none⟩)/\V.heap.size<=g/\g<w.heap.size/\(L 4=false->w.heap[g]?=some (cobj 34 zeroM))/\(L 4=true->w.heap[g]?=some (cobj 34 M.1))
 b4_3:L 4->L 3
structure Zj10 (V:World) (R:(List (Int×Int)×(Int×Int)×(Int×Int))×Int) (J0:(Int×Int)×Int) (L:Nat->Bool) (s:Nat->Value) (w:World):Prop where
 mu:Mut [] V w
 e0:L 0->s 46=sval R.1.2.2
 e1:L 1->s 47=.tuple #[sval J0.1,.int .i64 J0.2]
 e2:L 2->s 45=.tuple #[sval J0.1,.int .i64 J0.2]
 e3:L 3->s 48=sval J0.1
 e4:L 4->s 49=.int .i64 J0.2
 al_s:L 5->∃g:Nat,s 9=.pointer (some ⟨g,0,none⟩)/\V.heap.size<=g/\g<w.heap.size/\(L 6=false->w.heap[g]?=some (cobj 31 [(0,0)]))/\(L 6=true->w.heap[g]?=some (cobj 31 [J0.1]))
 e7:L 7->s 10=.int .i64 J0.2
 b6_5:L 6->L 5
structure Zj11 (V:World) (A:Nat) (R:(List (Int×Int)×(Int×Int)×(Int×Int))×Int) (M:RS) (F1:(Int×Int)×Int) (J0:(Int×Int)×Int) (J1:(Int×Int)×Int) (T1:(Int×Int)×Int) (L:Nat->Bool) (s:Nat->Value) (w:World):Prop where
 mu:Mut [A] V w
 kg_c_0:L 1=false->w.heap[A]?=some (iobj 62 M.2)
 kg_c_1:L 1->L 4=false->w.heap[A]?=some (iobj 62 F1.2)
 kg_c_2:L 4->L 5=false->w.heap[A]?=some (iobj 62 J1.2)
 kg_c_3:L 5->w.heap[A]?=some (iobj 62 T1.2)
 e0:L 0->s 50=sval R.1.2.2
 e1:L 1->s 51=sval F1.1
 e2:L 2->s 52=sval J0.1
 e3:L 3->s 53=.int .i64 J0.2
 e4:L 4->s 54=sval J1.1
 e5:L 5->s 55=sval T1.1
 al_t:L 6->∃g:Nat,s 11=.pointer (some ⟨g,0,none⟩)/\V.heap.size<=g/\g<w.heap.size/\(L 7=false->w.heap[g]?=some (cobj 31 [(0,0)]))/\(L 7=true->w.heap[g]?=some (cobj 31 [T1.1]))
 b4_1:L 4->L 1
 b5_4:L 5->L 4
 b7_6:L 7->L 6
structure Zj12 (V:World) (A:Nat) (R:(List (Int×Int)×(Int×Int)×(Int×Int))×Int) (M:RS) (T1:(Int×Int)×Int) (X6:(Int×Int)×Int) (D1:(Int×Int)×Int) (G1:(Int×Int)×Int) (Z1:(Int×Int)×Int) (g5:Nat) (L:Nat->Bool) (s:Nat->Value) (w:World):Prop where
 mu:Mut [g5,A] V w
 kt_m:L 10=false->w.heap[g5]?=some (cobj 34 M.1)
 kr_m:L 10->w.heap[g5]?=some (cobj 34 (M.1.set 21 Z1.1))
 kg_c_0:L 4=false->w.heap[A]?=some (iobj 62 T1.2)
 kg_c_1:L 4->L 6=false->w.heap[A]?=some (iobj 62 X6.2)
 kg_c_2:L 6->L 7=false->w.heap[A]?=some (iobj 62 D1.2)
 kg_c_3:L 7->L 8=false->w.heap[A]?=some (iobj 62 G1.2)
 kg_c_4:L 8->w.heap[A]?=some (iobj 62 Z1.2)
 e0:L 0->s 56=.pointer (some ⟨g5,21*2,none⟩)
 e1:L 1->s 57=sval (tAt M.1 21)
 e2:L 2->s 58=sval (-88080384,-88080384)
 e3:L 3->s 59=sval R.1.2.1
 e4:L 4->s 60=sval X6.1
 e5:L 5->s 61=sval T1.1
 e6:L 6->s 62=sval D1.1
 e7:L 7->s 63=sval G1.1
 e8:L 8->s 64=sval Z1.1
 e9:L 9->s 65=.pointer (some ⟨g5,21*2,none⟩)
 b10_1:L 10->L 1
 b6_4:L 6->L 4
 b7_6:L 7->L 6
 b8_7:L 8->L 7
structure Zj13 (V:World) (a:List (Int×Int)) (b:Nat) (J0:(Int×Int)×Int) (J2:(Int×Int)×Int) (g6:Nat) (L:Nat->Bool) (s:Nat->Value) (w:World):Prop where
 mu:Mut [g6] V w
 kt_s:L 7=false->w.heap[g6]?=some (cobj 31 ([J0.1]))
 kr_s:L 7->w.heap[g6]?=some (cobj 31 ([J2.1]))
 e0:L 0->s 67=.pointer (some ⟨b,0,none⟩)
 e1:L 1->s 68=.pointer (some ⟨b,0*2,none⟩)
 e2:L 2->s 69=sval (tAt a 0)
 e3:L 3->s 70=.tuple #[sval J2.1,.int .i64 J2.2]
 e4:L 4->s 66=.tuple #[sval J2.1,.int .i64 J2.2]
 e5:L 5->s 71=sval J2.1
 e6:L 6->s 72=.int .i64 J2.2
 e8:L 8->s 10=.int .i64 J2.2
structure Zj14 (V:World) (b:Nat) (A:Nat) (M:RS) (Z1:(Int×Int)×Int) (J2:(Int×Int)×Int) (J3:(Int×Int)×Int) (T:RS) (U:List (Int×Int)×Int) (L:Nat->Bool) (s:Nat->Value) (w:World):Prop where
 mu:Mut [b+1,A] V w
 kt_r:L 8=false->w.heap[b+1]?=some (cobj 34 zeroM)
 kr_r:L 8->w.heap[b+1]?=some (cobj 34 U.1)
 kg_c_0:L 3=false->w.heap[A]?=some (iobj 62 Z1.2)
 kg_c_1:L 3->L 4=false->w.heap[A]?=some (iobj 62 J3.2)
 kg_c_2:L 4->L 5=false->w.heap[A]?=some (iobj 62 T.2)
 kg_c_3:L 5->w.heap[A]?=some (iobj 62 T.2)
 e0:L 0->s 73=mval (M.1.set 21 Z1.1)
 e1:L 1->s 74=sval J2.1
 e2:L 2->s 75=.int .i64 J2.2
 e3:L 3->s 76=sval J3.1
 e4:L 4->s 77=mval T.1
 e5:L 5->s 78=.tuple #[mval U.1,.int .i64 U.2]
 e6:L 6->s 79=mval U.1
 e7:L 7->s 80=.int .i64 U.2
 e9:L 9->s 3=.int .i64 U.2
 b4_3:L 4->L 3
 b5_4:L 5->L 4
set_option maxRecDepth 100000 in
set_option maxHeartbeats 4000000 in
theorem rf_Sqrt (a:List (Int×Int)) (ha:a.length=22) (w:World):Calls Tryz.prog 19 #[mval a] w fun e w'=>e=.returned (.tuple #[mval (rSqrt a (tRight a).2).1,.int .i64 (rSqrt a (tRight a).2).2])/\Below w.heap.size w w':=by
 obtain ⟨E,hE0⟩:∃E,(tRight a).2=E:=⟨_,rfl⟩
 rw [hE0]
 obtain ⟨U,hU⟩:∃U,rSqrt a E=U:=⟨_,rfl⟩
 rw [hU]
 have HET:=lh hE0
 have HU:=lh hU
 have HL:=lh ha
 clear ha hE0 hU
 go_enter Tryz.func19,Tryz.ntmps19
 refine wsk fun K0 HK0=>?_
 go_wp2_with fail
 rename_i x1 cs1 hc1
 obtain rfl:(mc a).toArray=cs1:=Value.agg.inj hc1
 clear hc1
 obtain ⟨b,hb⟩:∃b,w.heap.size=b:=⟨_,rfl⟩
 refine HK0.out _ _ ?_
 refine wp_world (fun V=>Mut [] w V/\V.heap[b]?=some (cobj 34 a)/\V.heap[b+1]?=some (cobj 34 zeroM)) ?_
  (by
   rw [←hb]
   exact ⟨(((Mut.refl _ _).alloc _).alloc _),heap_up _ (heap_at (cobj 34 a) (by simp)),heap_at (cobj 34 zeroM) (by simp)⟩)
 rintro V ⟨hm,hHA,hHR⟩
 rw [hb]
 have HM:=lh hm
 have HBW:=lh hb
 have HLT:=lh trivial
 have HA:=lh hHA
 have HR:=lh hHR
 clear hm hHA hHR hb HK0
 refine wsk fun K1 HK1=>?_
 refine wc (nn::nn::nn::nn::some 4::nn::nn::nn::nn::nn::nn::nn::some 12::some 13::some 14::n8 (n8 (n8 (n8 (n8 (n8 (n8 (n8 (nn::nn::[]))))))))) (fun s w'=>Mut [] V w'/\(∃g:Nat,s 4=.pointer (some ⟨g,0,none⟩)/\V.heap.size<=g/\w'.heap[g]?=some (iobj 62 E))) ?_ ?_
 ·intro Q2 hQ2
  refine wG (Zj1 V a E) ?_ ?_ ?_
  ·exact ⟨Mut.start _ false _,nB,nB,nB,nB,nB⟩
  ·refine aC ?_ (aC ?_ (aC ?_ (aC ?_ (aC ?_ aN))))
   ·intro L s w2 h hk hd hn K hK
    have kb:=kZ h.mu HA
    exact rs_load rfl (hk 1) (md_load kb HL.out) (hK {h with e0:=rF})
   ·intro L s w2 h hk hd hn K hK
    have s12:=h.e0 hd.1
    go_simp
    refine (rf_CheckP HET.out HL.out _).mono ?_
    rintro e w3 ⟨rfl,hb⟩
    exact .inl ⟨_,rfl,hK {h with mu:=h.mu.step hb,al_c:=fun a=>aS hb (h.al_c a),e1:=rF}⟩
   ·intro L s w2 h hk hd hn K hK
    exact rs_bld rfl (by simp [evS_tmp,(h.e1 hd.1)]) (su_build _ _) (hK {h with e2:=rF})
   ·intro L s w2 h hk hd hn K hK
    go_simp
    exact hK {h with mu:=h.mu.alloc _,al_c:=fun _=>aW h.mu.size h.b4_3 hn,b4_3:=rF}
   ·intro L s w2 h hk hd hn K hK
    obtain ⟨g,hg0,hg1,hgl,hg2,hg3⟩:=h.al_c hd.1
    have kb:=hg2 hn
    exact rs_store rfl hg0 (h.e2 hd.2.1) (su_store kb) (hK {h with mu:=h.mu.putNew hg1 _,al_c:=fun _=>aT hg0 hg1 hgl kb,b4_3:=fun _=>hd.1})
  ·intro L s w2 h hk hl
   refine cA ?_ (hQ2 s w2 (⟨h.mu,aE (h.al_c (hl 3)) (hl 4)⟩))
   exact fq hk
 rintro s1 V ⟨h1,⟨A,k_c,g_c,c_c⟩⟩
 simp only [mergeL]
 rw [k_c]
 replace HLT:=lh (show b<=A/\b<A/\b+1<A from by
  have hlt:=HLT.out
  have hbw:=HM.out.size
  have hbw2:=HBW.out
  have:=lt_of_block HA.out
  have:=lt_of_block HR.out
  omega)
 replace HA:=sm h1 HA
 replace HR:=sm h1 HR
 have HE:=lh c_c
 replace HM:=mE HM h1
 clear h1 k_c g_c c_c
 refine HK1.out _ _ ?_
 refine wsk fun KB HKB=>?_
 by_cases hz:E=0/\(tAt a 0).1<=0
 ·obtain ⟨he,hlo⟩:=hz
  subst he
  have t1:decide ((tAt a 0).1<=0)=true:=decide_eq_true hlo
  have HOU:=lh (show U=(zeroM,7) by rw [←HU.out];exact if_pos ⟨rfl,hlo⟩)
  clear hlo HU
  refine wsk fun K2 HK2=>?_
  refine wc (n8 (nn::nn::nn::nn::nn::nn::nn::some 15::some 16::some 17::some 18::some 19::some 20::some 21::some 22::some 23::some 24::n8 (n8 (n8 (n8 (n8 (n8 (n8 ([]))))))))) (fun s w'=>w'=V/\s 24=.bool true) ?_ ?_
  ·intro Q2 hQ2
   have qc:=cell_of_one HE.out
   have q0:V.cell? ⟨b,0,none⟩=some (.int .i64 (tAt a 0).1):=(cobj_cell HA.out 0).trans (mc_get a 0 (by have:=HL.out;omega)).1
   go_wp2_with fail
   exact merge_meet hQ2 (by kernel_rfl) ⟨rfl,rfl⟩
  rintro s2 V2 ⟨he,hs⟩
  replace he:=he.symm
  subst he
  simp only [mergeL]
  rw [hs]
  clear hs
  refine HK2.out _ _ ?_
  refine wp_cond_true (by rfl) ?_
  refine wsk fun K3 HK3=>?_
  refine wc (nn::nn::nn::some 3::n8 (n8 (nn::nn::nn::nn::nn::some 25::n8 (n8 (n8 (n8 (n8 (n8 (nn::nn::nn::nn::nn::nn::nn::[]))))))))) (fun s w'=>Mut [b+1] V w'/\w'.heap[b+1]?=some (cobj 34 zeroM)/\s 3=.int .i64 ((7:Nat):Int)) ?_ ?_
  ·intro Q2 hQ2
   refine wG (Zj3 V b) ?_ ?_ ?_
   ·exact ⟨Mut.start _ false _,fun _=>HR.out,nB,nB,nB⟩
   ·refine aC ?_ (aC ?_ (aC ?_ aN))
    ·intro L s w2 h hk hd hn K hK
     exact rs_bld (vs:=#[]) rfl (by simp) (by kernel_rfl) (hK {h with e0:=rF})
    ·intro L s w2 h hk hd hn K hK
     have kb:=h.kt_r hn
     exact rs_store rfl (hk 2) (h.e0 hd.1) (md_store kb rfl _ rfl) (hK {h with mu:=h.mu.put (List.Mem.head _) _,kt_r:=nF,kr_r:=fun _=>pH kb})
    ·intro L s w2 h hk hd hn K hK
     exact rs_assign rfl rfl (hK {h with e2:=rF})
   ·intro L s w2 h hk hl
    refine cA ?_ (hQ2 s w2 (⟨h.mu,h.kr_r (hl 1),h.e2 (hl 2)⟩))
    exact fq hk
  rintro s3 V ⟨h1,c_r,k3⟩
  simp only [mergeL]
  rw [k3]
  replace HA:=j1 h1 HA (by have:=HLT.out;omega)
  replace HR:=lh c_r
  replace HE:=j1 h1 HE (by have:=HLT.out;omega)
  replace HM:=mB HM h1 (by have:=HBW.out;have:=HLT.out;simp;omega)
  clear h1 c_r k3
  refine HK3.out _ _ ?_
  go_wp2_with fail
  exact bodyPost_ret (v:=.tuple #[mval zeroM,.int .i64 7]) (res_slot Tryz.results19 rfl rfl (md_loadVar HR.out rfl)) rfl ⟨by rw [HOU.out],by rw [←HBW.out];exact HM.out.to0⟩
 ·have HZ:=lh hz
  clear hz
  refine wsk fun K2 HK2=>?_
  refine wc (n8 (nn::nn::nn::nn::nn::nn::nn::some 15::some 16::some 17::some 18::some 19::some 20::some 21::some 22::some 23::some 24::n8 (n8 (n8 (n8 (n8 (n8 (n8 ([]))))))))) (fun s w'=>w'=V/\s 24=.bool false) ?_ ?_
  ·intro Q2 hQ2
   have qc:=cell_of_one HE.out
   have q0:V.cell? ⟨b,0,none⟩=some (.int .i64 (tAt a 0).1):=(cobj_cell HA.out 0).trans (mc_get a 0 (by have:=HL.out;omega)).1
   by_cases he:E=0
   ·subst he
    have t1:decide ((tAt a 0).1<=0)=false:=by
     have hz:=HZ.out
     simp only [decide_eq_false_iff_not]
     exact fun k=>hz ⟨rfl,k⟩
    go_wp2_with fail
    exact merge_meet hQ2 (by kernel_rfl) ⟨rfl,rfl⟩
   ·have t0:(E==0)=false:=by simp;exact he
    clear he
    go_wp2_with fail
    exact merge_meet hQ2 (by kernel_rfl) ⟨rfl,rfl⟩
  rintro s2 V2 ⟨he,hs⟩
  replace he:=he.symm
  subst he
  simp only [mergeL]
  rw [hs]
  clear hs
  refine HK2.out _ _ ?_
  refine wp_cond_false (by rfl) ?_
  go_wp2_with fail
  refine HKB.out _ _ ?_
  obtain ⟨R,hR⟩:∃x:(List (Int×Int)×(Int×Int)×(Int×Int))×Int,rRel a E=x:=⟨_,rfl⟩
  have GR:=lh hR
  clear hR
  have HLH:=lh (show R.1.1.length=22 by rw [←GR.out];exact rRel_len a HL.out E)
  replace HU:=lh (HU.out.symm.trans (if_neg HZ.out))
  rw [GR.out] at HU
  clear HZ
  refine wsk fun K4 HK4=>?_
  refine wc (nn::nn::nn::nn::nn::some 5::some 6::some 7::n8 (n8 (nn::nn::some 26::some 27::some 28::some 29::some 30::some 31::n8 (n8 (n8 (n8 (n8 (n8 (nn::[]))))))))) (fun s w'=>Mut [A] V w'/\w'.heap[A]?=some (iobj 62 R.2)/\(∃g:Nat,s 5=.pointer (some ⟨g,0,none⟩)/\V.heap.size<=g/\w'.heap[g]?=some (cobj 34 R.1.1))/\(∃g:Nat,s 6=.pointer (some ⟨g,0,none⟩)/\V.heap.size<=g/\w'.heap[g]?=some (cobj 31 [R.1.2.1]))/\(∃g:Nat,s 7=.pointer (some ⟨g,0,none⟩)/\V.heap.size<=g/\w'.heap[g]?=some (cobj 31 [R.1.2.2]))) ?_ ?_
  ·intro Q2 hQ2
   refine wG (Zj4 V a E A R) ?_ ?_ ?_
   ·exact ⟨Mut.start _ false _,fun _=>HE.out,nB,nB,nB,nB,nB,nB,nB,nB,nB,nB,nB,nB,nB,nB,nB,nB⟩
   ·refine aC ?_ (aC ?_ (aC ?_ (aC ?_ (aC ?_ (aC ?_ (aC ?_ (aC ?_ (aC ?_ (aC ?_ (aC ?_ (aC ?_ aN)))))))))))
    ·intro L s w2 h hk hd hn K hK
     have kb:=kY h.mu HA (by have:=HLT.out;have:=lt_of_block HE.out;omega)
     exact rs_load rfl (hk 1) (md_load kb HL.out) (hK {h with e0:=rF})
    ·intro L s w2 h hk hd hn K hK
     have s4:s 4=_:=hk 4
     have s27:=h.e0 hd.1
     have kb:=h.kg_c_0 hn
     go_simp
     refine (rf_relativeP GR.out _ HL.out _ kb).mono ?_
     rintro e w3 ⟨rfl,hkr,hb⟩
     exact .inl ⟨_,rfl,hK {h with mu:=mS h.mu hb (List.Mem.head _),al_h:=fun a=>aM hb HE.out (h.al_h a),al_bb:=fun a=>aM hb HE.out (h.al_bb a),al_ee:=fun a=>aM hb HE.out (h.al_ee a),kg_c_0:=nF,kg_c_1:=fun _=>hkr,e1:=rF}⟩
    ·intro L s w2 h hk hd hn K hK
     exact rs_move rfl (h.e1 hd.1) (hK {h with e2:=rF})
    ·intro L s w2 h hk hd hn K hK
     exact rs_extract rfl (h.e2 hd.1) rfl (hK {h with e3:=rF})
    ·intro L s w2 h hk hd hn K hK
     exact rs_extract rfl (h.e2 hd.1) rfl (hK {h with e4:=rF})
    ·intro L s w2 h hk hd hn K hK
     exact rs_extract rfl (h.e2 hd.1) rfl (hK {h with e5:=rF})
    ·intro L s w2 h hk hd hn K hK
     go_simp
     exact hK {h with mu:=h.mu.alloc _,kg_c_0:=fun a=>(heap_up _ (h.kg_c_0 a)),kg_c_1:=fun a=>(heap_up _ (h.kg_c_1 a)),al_bb:=fun a=>aU (h.al_bb a),dn_h_bb:=fun _ b=>dU (h.al_bb b),al_ee:=fun a=>aU (h.al_ee a),dn_h_ee:=fun _ b=>dU (h.al_ee b),al_h:=fun _=>aW h.mu.size h.b9_6 hn,b9_6:=rF}
    ·intro L s w2 h hk hd hn K hK
     go_simp
     exact hK {h with mu:=h.mu.alloc _,kg_c_0:=fun a=>(heap_up _ (h.kg_c_0 a)),kg_c_1:=fun a=>(heap_up _ (h.kg_c_1 a)),al_h:=fun a=>aU (h.al_h a),dn_h_bb:=fun a _=>(dU (h.al_h a)).symm,al_ee:=fun a=>aU (h.al_ee a),dn_bb_ee:=fun _ b=>dU (h.al_ee b),al_bb:=fun _=>aW h.mu.size h.b10_7 hn,b10_7:=rF}
    ·intro L s w2 h hk hd hn K hK
     go_simp
     exact hK {h with mu:=h.mu.alloc _,kg_c_0:=fun a=>(heap_up _ (h.kg_c_0 a)),kg_c_1:=fun a=>(heap_up _ (h.kg_c_1 a)),al_h:=fun a=>aU (h.al_h a),dn_h_ee:=fun a _=>(dU (h.al_h a)).symm,al_bb:=fun a=>aU (h.al_bb a),dn_bb_ee:=fun a _=>(dU (h.al_bb a)).symm,al_ee:=fun _=>aW h.mu.size h.b11_8 hn,b11_8:=rF}
    ·intro L s w2 h hk hd hn K hK
     obtain ⟨g,hg0,hg1,hgl,hg2,hg3⟩:=h.al_h hd.1
     have kb:=hg2 hn
     exact rs_store rfl hg0 (h.e3 hd.2.1) (md_store kb rfl _ HLH.out) (hK {h with mu:=h.mu.putNew hg1 _,kg_c_0:=fun a=>pO (by have:=h.mu.size;have:=hg1;have:=HLT.out;have:=lt_of_block HE.out;omega) (h.kg_c_0 a),kg_c_1:=fun a=>pO (by have:=h.mu.size;have:=hg1;have:=HLT.out;have:=lt_of_block HE.out;omega) (h.kg_c_1 a),al_bb:=fun a=>aP (h.dn_h_bb hd.1 a) hg0 (h.al_bb a),al_ee:=fun a=>aP (h.dn_h_ee hd.1 a) hg0 (h.al_ee a),al_h:=fun _=>aT hg0 hg1 hgl kb,b9_6:=fun _=>hd.1})
    ·intro L s w2 h hk hd hn K hK
     obtain ⟨g,hg0,hg1,hgl,hg2,hg3⟩:=h.al_bb hd.1
     have kb:=hg2 hn
     exact rs_store rfl hg0 (h.e4 hd.2.1) (sp_store (p:=0) kb (by simp) R.1.2.1) (hK {h with mu:=h.mu.putNew hg1 _,kg_c_0:=fun a=>pO (by have:=h.mu.size;have:=hg1;have:=HLT.out;have:=lt_of_block HE.out;omega) (h.kg_c_0 a),kg_c_1:=fun a=>pO (by have:=h.mu.size;have:=hg1;have:=HLT.out;have:=lt_of_block HE.out;omega) (h.kg_c_1 a),al_h:=fun a=>aP ((h.dn_h_bb a hd.1).symm) hg0 (h.al_h a),al_ee:=fun a=>aP (h.dn_bb_ee hd.1 a) hg0 (h.al_ee a),al_bb:=fun _=>aT hg0 hg1 hgl kb,b10_7:=fun _=>hd.1})
    ·intro L s w2 h hk hd hn K hK
     obtain ⟨g,hg0,hg1,hgl,hg2,hg3⟩:=h.al_ee hd.1
     have kb:=hg2 hn
     exact rs_store rfl hg0 (h.e5 hd.2.1) (sp_store (p:=0) kb (by simp) R.1.2.2) (hK {h with mu:=h.mu.putNew hg1 _,kg_c_0:=fun a=>pO (by have:=h.mu.size;have:=hg1;have:=HLT.out;have:=lt_of_block HE.out;omega) (h.kg_c_0 a),kg_c_1:=fun a=>pO (by have:=h.mu.size;have:=hg1;have:=HLT.out;have:=lt_of_block HE.out;omega) (h.kg_c_1 a),al_h:=fun a=>aP ((h.dn_h_ee a hd.1).symm) hg0 (h.al_h a),al_bb:=fun a=>aP ((h.dn_bb_ee a hd.1).symm) hg0 (h.al_bb a),al_ee:=fun _=>aT hg0 hg1 hgl kb,b11_8:=fun _=>hd.1})
   ·intro L s w2 h hk hl
    refine cA ?_ (hQ2 s w2 (⟨h.mu,h.kg_c_1 (hl 1),aE (h.al_h (hl 6)) (hl 9),aE (h.al_bb (hl 7)) (hl 10),aE (h.al_ee (hl 8)) (hl 11)⟩))
    exact fq hk
  rintro s4 V ⟨h1,c_c,⟨g2,k_h,g_h,c_h⟩,⟨g3,k_bb,g_bb,c_bb⟩,⟨g4,k_ee,g_ee,c_ee⟩⟩
  simp only [mergeL]
  rw [k_h]
  rw [k_bb]
  rw [k_ee]
  replace HLT:=lh (show b<=g2/\b<=g3/\b<=g4/\b<g2/\b+1<g2/\A<g2/\b<g3/\b+1<g3/\A<g3/\b<g4/\b+1<g4/\A<g4/\b<=A/\b<A/\b+1<A from by
   have hlt:=HLT.out
   have hbw:=HM.out.size
   have hbw2:=HBW.out
   have:=lt_of_block HA.out
   have:=lt_of_block HR.out
   have:=lt_of_block HE.out
   omega)
  replace HA:=j1 h1 HA (by have:=HLT.out;omega)
  replace HR:=j1 h1 HR (by have:=HLT.out;omega)
  replace HE:=lh c_c
  have HH:=lh c_h
  have HBB:=lh c_bb
  have HEE:=lh c_ee
  replace HM:=mB HM h1 (by have:=HBW.out;have:=HLT.out;simp;omega)
  clear h1 c_c k_h g_h c_h k_bb g_bb c_bb k_ee g_ee c_ee
  refine HK4.out _ _ ?_
  refine wsk fun KC HKC=>?_
  by_cases hy:¬R.2=0
  ·have HY:=lh hy
   clear hy
   refine wsk fun K5 HK5=>?_
   refine wc (n8 (n8 (n8 (n8 (some 32::some 33::some 34::n8 (n8 (n8 (n8 (n8 (nn::nn::nn::nn::nn::nn::[])))))))))) (fun s w'=>w'=V/\s 34=.bool true) ?_ ?_
   ·intro Q2 hQ2
    have qc:=cell_of_one HE.out
    have t0:(R.2 != 0)=true:=by have:=HY.out;simp;exact this
    have t3:(R.2==0)=false:=by have:=HY.out;simp;exact this
    go_wp2_with fail
    exact merge_meet hQ2 (by kernel_rfl) ⟨rfl,rfl⟩
   rintro s5 V2 ⟨he,hs⟩
   replace he:=he.symm
   subst he
   simp only [mergeL]
   rw [hs]
   clear hs
   refine HK5.out _ _ ?_
   refine wp_cond_true (by rfl) ?_
   refine wsk fun K6 HK6=>?_
   refine wc (nn::nn::nn::some 3::n8 (n8 (n8 (nn::nn::nn::nn::nn::nn::nn::some 35::some 36::some 37::n8 (n8 (n8 (n8 (n8 (nn::nn::nn::[]))))))))) (fun s w'=>Mut [b+1] V w'/\w'.heap[b+1]?=some (cobj 34 zeroM)/\s 3=.int .i64 R.2) ?_ ?_
   ·intro Q2 hQ2
    refine wG (Zj6 V b A R) ?_ ?_ ?_
    ·exact ⟨Mut.start _ true _,fun _=>HR.out,nB,nB,nB,nB,nB⟩
    ·refine aC ?_ (aC ?_ (aC ?_ (aC ?_ (aC ?_ aN))))
     ·intro L s w2 h hk hd hn K hK
      exact rs_bld (vs:=#[]) rfl (by simp) (by kernel_rfl) (hK {h with e0:=rF})
     ·intro L s w2 h hk hd hn K hK
      exact rs_field rfl (hk 4) (fl_sums _ _) (hK {h with e1:=rF})
     ·intro L s w2 h hk hd hn K hK
      have kb:=kY h.mu HE (by have:=HLT.out;omega)
      exact rs_load rfl (h.e1 hd.1) (e_load kb) (hK {h with e2:=rF})
     ·intro L s w2 h hk hd hn K hK
      have kb:=h.kt_r hn
      exact rs_store rfl (hk 2) (h.e0 hd.1) (md_store kb rfl _ rfl) (hK {h with mu:=h.mu.put (List.Mem.head _) _,kt_r:=nF,kr_r:=fun _=>pH kb})
     ·intro L s w2 h hk hd hn K hK
      exact rs_assign rfl (h.e2 hd.1) (hK {h with e4:=rF})
    ·intro L s w2 h hk hl
     refine cA ?_ (hQ2 s w2 (⟨h.mu,h.kr_r (hl 3),h.e4 (hl 4)⟩))
     exact fq hk
   rintro s6 V ⟨h1,c_r,k3⟩
   simp only [mergeL]
   rw [k3]
   replace HA:=j1 h1 HA (by have:=HLT.out;omega)
   replace HR:=lh c_r
   replace HE:=j1 h1 HE (by have:=HLT.out;omega)
   replace HH:=j1 h1 HH (by have:=HLT.out;omega)
   replace HBB:=j1 h1 HBB (by have:=HLT.out;omega)
   replace HEE:=j1 h1 HEE (by have:=HLT.out;omega)
   replace HM:=mB HM h1 (by have:=HBW.out;have:=HLT.out;simp;omega)
   clear h1 c_r k3
   refine HK6.out _ _ ?_
   go_wp2_with fail
   exact bodyPost_ret (v:=.tuple #[mval zeroM,.int .i64 R.2]) (res_slot Tryz.results19 rfl rfl (md_loadVar HR.out rfl)) rfl ⟨by rw [HU.out,if_pos HY.out],by rw [←HBW.out];exact HM.out.to0⟩
  ·have HY:=lh (show R.2=0 from Decidable.not_not.1 hy)
   clear hy
   replace HE:=lh (show V.heap[A]?=some (iobj 62 0) by rw [←HY.out];exact HE.out)
   refine wsk fun K5 HK5=>?_
   refine wc (n8 (n8 (n8 (n8 (some 32::some 33::some 34::n8 (n8 (n8 (n8 (n8 (nn::nn::nn::nn::nn::nn::[])))))))))) (fun s w'=>w'=V/\s 34=.bool false) ?_ ?_
   ·intro Q2 hQ2
    have qc:=cell_of_one HE.out
    go_wp2_with fail
    exact merge_meet hQ2 (by kernel_rfl) ⟨rfl,rfl⟩
   rintro s5 V2 ⟨he,hs⟩
   replace he:=he.symm
   subst he
   simp only [mergeL]
   rw [hs]
   clear hs
   refine HK5.out _ _ ?_
   refine wp_cond_false (by rfl) ?_
   go_wp2_with fail
   refine HKC.out _ _ ?_
   replace HU:=lh (HU.out.trans (if_neg fun k=>k HY.out))
   refine wsk fun KD HKD=>?_
   by_cases hz:R.1.2.2.1<=0
   ·have HZ:=lh hz
    clear hz
    refine wsk fun K7 HK7=>?_
    refine wc (n8 (n8 (n8 (n8 (nn::nn::nn::nn::nn::nn::some 38::some 39::some 40::n8 (n8 (n8 (n8 (n8 ([])))))))))) (fun s w'=>w'=V/\s 40=.bool true) ?_ ?_
    ·intro Q2 hQ2
     have q0:=cell_two0 HEE.out
     have t1:decide (R.1.2.2.1<=0)=true:=decide_eq_true HZ.out
     go_wp2_with fail
     exact merge_meet hQ2 (by kernel_rfl) ⟨rfl,rfl⟩
    rintro s7 V2 ⟨he,hs⟩
    replace he:=he.symm
    subst he
    simp only [mergeL]
    rw [hs]
    clear hs
    refine HK7.out _ _ ?_
    refine wp_cond_true (by rfl) ?_
    refine wsk fun K8 HK8=>?_
    refine wc (nn::nn::nn::some 3::n8 (n8 (n8 (n8 (nn::nn::nn::nn::nn::some 41::n8 (n8 (n8 (n8 (nn::nn::nn::nn::nn::nn::nn::[]))))))))) (fun s w'=>Mut [b+1] V w'/\w'.heap[b+1]?=some (cobj 34 zeroM)/\s 3=.int .i64 ((7:Nat):Int)) ?_ ?_
    ·intro Q2 hQ2
     refine wG (Zj8 V b) ?_ ?_ ?_
     ·exact ⟨Mut.start _ false _,fun _=>HR.out,nB,nB,nB⟩
     ·refine aC ?_ (aC ?_ (aC ?_ aN))
      ·intro L s w2 h hk hd hn K hK
       exact rs_bld (vs:=#[]) rfl (by simp) (by kernel_rfl) (hK {h with e0:=rF})
      ·intro L s w2 h hk hd hn K hK
       have kb:=h.kt_r hn
       exact rs_store rfl (hk 2) (h.e0 hd.1) (md_store kb rfl _ rfl) (hK {h with mu:=h.mu.put (List.Mem.head _) _,kt_r:=nF,kr_r:=fun _=>pH kb})
      ·intro L s w2 h hk hd hn K hK
       exact rs_assign rfl rfl (hK {h with e2:=rF})
     ·intro L s w2 h hk hl
      refine cA ?_ (hQ2 s w2 (⟨h.mu,h.kr_r (hl 1),h.e2 (hl 2)⟩))
      exact fq hk
    rintro s8 V ⟨h1,c_r,k3⟩
    simp only [mergeL]
    rw [k3]
    replace HA:=j1 h1 HA (by have:=HLT.out;omega)
    replace HR:=lh c_r
    replace HE:=j1 h1 HE (by have:=HLT.out;omega)
    replace HH:=j1 h1 HH (by have:=HLT.out;omega)
    replace HBB:=j1 h1 HBB (by have:=HLT.out;omega)
    replace HEE:=j1 h1 HEE (by have:=HLT.out;omega)
    replace HM:=mB HM h1 (by have:=HBW.out;have:=HLT.out;simp;omega)
    clear h1 c_r k3
    refine HK8.out _ _ ?_
    go_wp2_with fail
    exact bodyPost_ret (v:=.tuple #[mval zeroM,.int .i64 7]) (res_slot Tryz.results19 rfl rfl (md_loadVar HR.out rfl)) rfl ⟨by rw [HU.out,if_pos HZ.out],by rw [←HBW.out];exact HM.out.to0⟩
   ·have HZ:=lh hz
    clear hz
    refine wsk fun K7 HK7=>?_
    refine wc (n8 (n8 (n8 (n8 (nn::nn::nn::nn::nn::nn::some 38::some 39::some 40::n8 (n8 (n8 (n8 (n8 ([])))))))))) (fun s w'=>w'=V/\s 40=.bool false) ?_ ?_
    ·intro Q2 hQ2
     have q0:=cell_two0 HEE.out
     have t1:decide (R.1.2.2.1<=0)=false:=by have:=HZ.out;simp;omega
     go_wp2_with fail
     exact merge_meet hQ2 (by kernel_rfl) ⟨rfl,rfl⟩
    rintro s7 V2 ⟨he,hs⟩
    replace he:=he.symm
    subst he
    simp only [mergeL]
    rw [hs]
    clear hs
    refine HK7.out _ _ ?_
    refine wp_cond_false (by rfl) ?_
    go_wp2_with fail
    refine HKD.out _ _ ?_
    replace HU:=lh (HU.out.trans (if_neg (by have:=HZ.out;omega)))
    clear HZ
    rw [HY.out] at HU
    obtain ⟨M,hM⟩:∃x:RS,rSeries R.1.1 [-167772160,268435456,-536870912,2147483648,4294967296] (zeroM.set 0 (117440512,117440512),0)=x:=⟨_,rfl⟩
    have GM:=lh hM
    clear hM
    obtain ⟨F1,hF1⟩:∃x:(Int×Int)×Int,gt M.2 (sPow R.1.2.2 5)=x:=⟨_,rfl⟩
    have GF1:=lh hF1
    clear hF1
    obtain ⟨J0,hJ0⟩:∃x:(Int×Int)×Int,sSqrt R.1.2.2=x:=⟨_,rfl⟩
    have GJ0:=lh hJ0
    clear hJ0
    obtain ⟨J1,hJ1⟩:∃x:(Int×Int)×Int,gt F1.2 J0=x:=⟨_,rfl⟩
    have GJ1:=lh hJ1
    clear hJ1
    obtain ⟨T1,hT1⟩:∃x:(Int×Int)×Int,gt J1.2 (sMul F1.1 J1.1)=x:=⟨_,rfl⟩
    have GT1:=lh hT1
    clear hT1
    obtain ⟨X6,hX6⟩:∃x:(Int×Int)×Int,gt T1.2 (sPow R.1.2.1 6)=x:=⟨_,rfl⟩
    have GX6:=lh hX6
    clear hX6
    obtain ⟨D1,hD1⟩:∃x:(Int×Int)×Int,gt X6.2 (sDiv X6.1 T1.1)=x:=⟨_,rfl⟩
    have GD1:=lh hD1
    clear hD1
    obtain ⟨G1,hG1⟩:∃x:(Int×Int)×Int,gt D1.2 (sMul (-88080384,-88080384) D1.1)=x:=⟨_,rfl⟩
    have GG1:=lh hG1
    clear hG1
    obtain ⟨Z1,hZ1⟩:∃x:(Int×Int)×Int,gt G1.2 (sAdd (tAt M.1 21) G1.1)=x:=⟨_,rfl⟩
    have GZ1:=lh hZ1
    clear hZ1
    obtain ⟨J2,hJ2⟩:∃x:(Int×Int)×Int,sSqrt (tAt a 0)=x:=⟨_,rfl⟩
    have GJ2:=lh hJ2
    clear hJ2
    obtain ⟨J3,hJ3⟩:∃x:(Int×Int)×Int,gt Z1.2 J2=x:=⟨_,rfl⟩
    have GJ3:=lh hJ3
    clear hJ3
    obtain ⟨T,hT⟩:∃x:RS,rScaled (M.1.set 21 Z1.1) J3.1 J3.2=x:=⟨_,rfl⟩
    have GT:=lh hT
    clear hT
    have HLM:=lh (show M.1.length=22 by rw [←GM.out];exact rSeries_len _ _ _ rfl)
    have HLM2:=lh (show (M.1.set 21 Z1.1).length=22 by rw [List.length_set];exact HLM.out)
    have HLT3:=lh (show T.1.length=22 by rw [←GT.out,rScaled,rEachN_len];rfl)
    replace HU:=lh (show rTold (T.1,T.2)=U by
     have e:rSqR (tAt a 0) R.1 0=T:=by
      rw [←GT.out,←GJ3.out,←GJ2.out,←GZ1.out,←GG1.out,←GD1.out,←GX6.out,←GT1.out,←GJ1.out,←GJ0.out,←GF1.out,←GM.out]
      rfl
     show rTold T=U
     rw [←e]
     exact HU.out.symm)
    have HLU:=lh (show U.1.length=22 by rw [←HU.out];exact rTold_len HLT3.out)
    refine wsk fun K9 HK9=>?_
    refine wc (n8 (some 8::n8 (n8 (n8 (n8 (nn::some 42::some 43::some 44::n8 (n8 (n8 (n8 (nn::nn::nn::nn::[])))))))))) (fun s w'=>Mut [A] V w'/\w'.heap[A]?=some (iobj 62 M.2)/\(∃g:Nat,s 8=.pointer (some ⟨g,0,none⟩)/\V.heap.size<=g/\w'.heap[g]?=some (cobj 34 M.1))) ?_ ?_
    ·intro Q2 hQ2
     refine wG (Zj9 V A R M) ?_ ?_ ?_
     ·exact ⟨Mut.start _ false _,fun _=>HE.out,nB,nB,nB,nB,nB,nB⟩
     ·refine aC ?_ (aC ?_ (aC ?_ (aC ?_ (aC ?_ aN))))
      ·intro L s w2 h hk hd hn K hK
       have kb:=kY h.mu HH (by have:=HLT.out;have:=lt_of_block HE.out;omega)
       exact rs_load rfl (hk 5) (md_load kb HLH.out) (hK {h with e0:=rF})
      ·intro L s w2 h hk hd hn K hK
       go_simp
       exact hK {h with e1:=rF}
      ·intro L s w2 h hk hd hn K hK
       have s4:s 4=_:=hk 4
       have s42:=h.e0 hd.1
       have s43:=h.e1 hd.2.1
       have kb:=h.kg_c_0 hn
       go_simp
       refine (rf_series _ 0 R.1.1 HLH.out 4294967296 2147483648 (-536870912) 268435456 (-167772160) 117440512 M GM.out _ kb).mono ?_
       rintro e w3 ⟨rfl,hkr,hb⟩
       exact .inl ⟨_,rfl,hK {h with mu:=mS h.mu hb (List.Mem.head _),al_m:=fun a=>aM hb HE.out (h.al_m a),kg_c_0:=nF,kg_c_1:=fun _=>hkr,e2:=rF}⟩
      ·intro L s w2 h hk hd hn K hK
       go_simp
       exact hK {h with mu:=h.mu.alloc _,kg_c_0:=fun a=>(heap_up _ (h.kg_c_0 a)),kg_c_1:=fun a=>(heap_up _ (h.kg_c_1 a)),al_m:=fun _=>aW h.mu.size h.b4_3 hn,b4_3:=rF}
      ·intro L s w2 h hk hd hn K hK
       obtain ⟨g,hg0,hg1,hgl,hg2,hg3⟩:=h.al_m hd.1
       have kb:=hg2 hn
       exact rs_store rfl hg0 (h.e2 hd.2.1) (md_store kb rfl _ HLM.out) (hK {h with mu:=h.mu.putNew hg1 _,kg_c_0:=fun a=>pO (by have:=h.mu.size;have:=hg1;have:=HLT.out;have:=lt_of_block HE.out;omega) (h.kg_c_0 a),kg_c_1:=fun a=>pO (by have:=h.mu.size;have:=hg1;have:=HLT.out;have:=lt_of_block HE.out;omega) (h.kg_c_1 a),al_m:=fun _=>aT hg0 hg1 hgl kb,b4_3:=fun _=>hd.1})
     ·intro L s w2 h hk hl
      refine cA ?_ (hQ2 s w2 (⟨h.mu,h.kg_c_1 (hl 2),aE (h.al_m (hl 3)) (hl 4)⟩))
      exact fq hk
    rintro s9 V ⟨h1,c_c,⟨g5,k_m,g_m,c_m⟩⟩
    simp only [mergeL]
    rw [k_m]
    replace HLT:=lh (show b<=g5/\b<g5/\b+1<g5/\A<g5/\g2<g5/\g3<g5/\g4<g5/\b<=g2/\b<=g3/\b<=g4/\b<g2/\b+1<g2/\A<g2/\b<g3/\b+1<g3/\A<g3/\b<g4/\b+1<g4/\A<g4/\b<=A/\b<A/\b+1<A from by
     have hlt:=HLT.out
     have hbw:=HM.out.size
     have hbw2:=HBW.out
     have:=lt_of_block HA.out
     have:=lt_of_block HR.out
     have:=lt_of_block HE.out
     have:=lt_of_block HH.out
     have:=lt_of_block HBB.out
     have:=lt_of_block HEE.out
     omega)
    replace HA:=j1 h1 HA (by have:=HLT.out;omega)
    replace HR:=j1 h1 HR (by have:=HLT.out;omega)
    replace HE:=lh c_c
    replace HH:=j1 h1 HH (by have:=HLT.out;omega)
    replace HBB:=j1 h1 HBB (by have:=HLT.out;omega)
    replace HEE:=j1 h1 HEE (by have:=HLT.out;omega)
    have HO:=lh c_m
    replace HM:=mB HM h1 (by have:=HBW.out;have:=HLT.out;simp;omega)
    clear h1 c_c k_m g_m c_m
    refine HK9.out _ _ ?_
    refine wsk fun K10 HK10=>?_
    refine wc (n8 (nn::some 9::some 10::n8 (n8 (n8 (n8 (nn::nn::some 45::some 46::some 47::some 48::some 49::n8 (n8 (n8 (nn::nn::nn::nn::nn::nn::nn::[]))))))))) (fun s w'=>Mut [] V w'/\(∃g:Nat,s 9=.pointer (some ⟨g,0,none⟩)/\V.heap.size<=g/\w'.heap[g]?=some (cobj 31 [J0.1]))/\s 10=.int .i64 J0.2) ?_ ?_
    ·intro Q2 hQ2
     refine wG (Zj10 V R J0) ?_ ?_ ?_
     ·exact ⟨Mut.start _ false _,nB,nB,nB,nB,nB,nB,nB,nB⟩
     ·refine aC ?_ (aC ?_ (aC ?_ (aC ?_ (aC ?_ (aC ?_ (aC ?_ (aC ?_ aN)))))))
      ·intro L s w2 h hk hd hn K hK
       have kb:=kZ h.mu HEE
       exact rs_load rfl (hk 7) (sp_load (p:=0) kb (by simp)) (hK {h with e0:=rF})
      ·intro L s w2 h hk hd hn K hK
       have s46:=h.e0 hd.1
       go_simp
       refine (ref2_SqrtP GJ0.out _).mono ?_
       rintro e w3 ⟨rfl,hb⟩
       exact .inl ⟨_,rfl,hK {h with mu:=h.mu.step hb,al_s:=fun a=>aS hb (h.al_s a),e1:=rF}⟩
      ·intro L s w2 h hk hd hn K hK
       exact rs_move rfl (h.e1 hd.1) (hK {h with e2:=rF})
      ·intro L s w2 h hk hd hn K hK
       exact rs_extract rfl (h.e2 hd.1) rfl (hK {h with e3:=rF})
      ·intro L s w2 h hk hd hn K hK
       exact rs_extract rfl (h.e2 hd.1) rfl (hK {h with e4:=rF})
      ·intro L s w2 h hk hd hn K hK
       go_simp
       exact hK {h with mu:=h.mu.alloc _,al_s:=fun _=>aW h.mu.size h.b6_5 hn,b6_5:=rF}
      ·intro L s w2 h hk hd hn K hK
       obtain ⟨g,hg0,hg1,hgl,hg2,hg3⟩:=h.al_s hd.1
       have kb:=hg2 hn
       exact rs_store rfl hg0 (h.e3 hd.2.1) (sp_store (p:=0) kb (by simp) J0.1) (hK {h with mu:=h.mu.putNew hg1 _,al_s:=fun _=>aT hg0 hg1 hgl kb,b6_5:=fun _=>hd.1})
      ·intro L s w2 h hk hd hn K hK
       exact rs_assign rfl (h.e4 hd.1) (hK {h with e7:=rF})
     ·intro L s w2 h hk hl
      refine cA ?_ (hQ2 s w2 (⟨h.mu,aE (h.al_s (hl 5)) (hl 6),h.e7 (hl 7)⟩))
      exact fq hk
    rintro s10 V ⟨h1,⟨g6,k_s,g_s,c_s⟩,k10⟩
    simp only [mergeL]
    rw [k_s]
    rw [k10]
    replace HLT:=lh (show b<=g6/\b<g6/\b+1<g6/\A<g6/\g2<g6/\g3<g6/\g4<g6/\g5<g6/\b<=g5/\b<g5/\b+1<g5/\A<g5/\g2<g5/\g3<g5/\g4<g5/\b<=g2/\b<=g3/\b<=g4/\b<g2/\b+1<g2/\A<g2/\b<g3/\b+1<g3/\A<g3/\b<g4/\b+1<g4/\A<g4/\b<=A/\b<A/\b+1<A from by
     have hlt:=HLT.out
     have hbw:=HM.out.size
     have hbw2:=HBW.out
     have:=lt_of_block HA.out
     have:=lt_of_block HR.out
     have:=lt_of_block HE.out
     have:=lt_of_block HH.out
     have:=lt_of_block HBB.out
     have:=lt_of_block HEE.out
     have:=lt_of_block HO.out
     omega)
    replace HA:=sm h1 HA
    replace HR:=sm h1 HR
    replace HE:=sm h1 HE
    replace HH:=sm h1 HH
    replace HBB:=sm h1 HBB
    replace HEE:=sm h1 HEE
    replace HO:=sm h1 HO
    have HS:=lh c_s
    replace HM:=mE HM h1
    clear h1 k_s g_s c_s k10
    refine HK10.out _ _ ?_
    refine wsk fun K11 HK11=>?_
    refine wc (n8 (nn::nn::nn::some 11::n8 (n8 (n8 (n8 (nn::nn::nn::nn::nn::nn::some 50::some 51::some 52::some 53::some 54::some 55::n8 (n8 (n8 (nn::[]))))))))) (fun s w'=>Mut [A] V w'/\w'.heap[A]?=some (iobj 62 T1.2)/\(∃g:Nat,s 11=.pointer (some ⟨g,0,none⟩)/\V.heap.size<=g/\w'.heap[g]?=some (cobj 31 [T1.1]))) ?_ ?_
    ·intro Q2 hQ2
     refine wG (Zj11 V A R M F1 J0 J1 T1) ?_ ?_ ?_
     ·exact ⟨Mut.start _ true _,fun _=>HE.out,nB,nB,nB,nB,nB,nB,nB,nB,nB,nB,nB,nB,nB⟩
     ·refine aC ?_ (aC ?_ (aC ?_ (aC ?_ (aC ?_ (aC ?_ (aC ?_ (aC ?_ aN)))))))
      ·intro L s w2 h hk hd hn K hK
       have kb:=kY h.mu HEE (by have:=HLT.out;have:=lt_of_block HE.out;omega)
       exact rs_load rfl (hk 7) (sp_load (p:=0) kb (by simp)) (hK {h with e0:=rF})
      ·intro L s w2 h hk hd hn K hK
       have s4:s 4=_:=hk 4
       have s50:=h.e0 hd.1
       have kb:=h.kg_c_0 hn
       go_simp
       refine (rf_powP GF1.out _ _ kb).mono ?_
       rintro e w3 ⟨rfl,hkr,hb⟩
       exact .inl ⟨_,rfl,hK {h with mu:=mS h.mu hb (List.Mem.head _),al_t:=fun a=>aM hb HE.out (h.al_t a),kg_c_0:=nF,kg_c_1:=fun _ _=>hkr,kg_c_2:=fun a _=>aB (h.b4_1 a) hn,kg_c_3:=fun a=>absurd (h.b4_1 (h.b5_4 a)) (by rw [hn];exact bft),e1:=rF,b4_1:=rF}⟩
      ·intro L s w2 h hk hd hn K hK
       have kb:=kY h.mu HS (by have:=HLT.out;have:=lt_of_block HE.out;omega)
       exact rs_load rfl (hk 9) (sp_load (p:=0) kb (by simp)) (hK {h with e2:=rF})
      ·intro L s w2 h hk hd hn K hK
       exact rs_move rfl (hk 10) (hK {h with e3:=rF})
      ·intro L s w2 h hk hd hn K hK
       have s4:s 4=_:=hk 4
       have s52:=h.e2 hd.1
       have s53:=h.e3 hd.2.1
       have kb:=h.kg_c_1 hd.2.2.1 hn
       go_simp
       refine (rf_gotP GJ1.out _ _ kb).mono ?_
       rintro e w3 ⟨rfl,hkr,hb⟩
       exact .inl ⟨_,rfl,hK {h with mu:=mS h.mu hb (List.Mem.head _),al_t:=fun a=>aM hb HE.out (h.al_t a),kg_c_0:=fun a=>absurd (a.symm.trans hd.2.2.1) bft,kg_c_1:=fun a c=>absurd c.symm bft,kg_c_2:=fun _ _=>hkr,kg_c_3:=fun a=>aB (h.b5_4 a) hn,e4:=rF,b4_1:=fun _=>hd.2.2.1,b5_4:=rF}⟩
      ·intro L s w2 h hk hd hn K hK
       have s4:s 4=_:=hk 4
       have s51:=h.e1 hd.1
       have s54:=h.e4 hd.2.1
       have kb:=h.kg_c_2 hd.2.1 hn
       go_simp
       refine (rf_mulP GT1.out _ _ kb).mono ?_
       rintro e w3 ⟨rfl,hkr,hb⟩
       exact .inl ⟨_,rfl,hK {h with mu:=mS h.mu hb (List.Mem.head _),al_t:=fun a=>aM hb HE.out (h.al_t a),kg_c_0:=fun a=>absurd (a.symm.trans hd.1) bft,kg_c_1:=fun a c=>absurd (c.symm.trans hd.2.1) bft,kg_c_2:=fun a c=>absurd c.symm bft,kg_c_3:=fun _=>hkr,e5:=rF,b5_4:=fun _=>hd.2.1}⟩
      ·intro L s w2 h hk hd hn K hK
       go_simp
       exact hK {h with mu:=h.mu.alloc _,kg_c_0:=fun a=>(heap_up _ (h.kg_c_0 a)),kg_c_1:=fun a c=>(heap_up _ (h.kg_c_1 a c)),kg_c_2:=fun a c=>(heap_up _ (h.kg_c_2 a c)),kg_c_3:=fun a=>(heap_up _ (h.kg_c_3 a)),al_t:=fun _=>aW h.mu.size h.b7_6 hn,b7_6:=rF}
      ·intro L s w2 h hk hd hn K hK
       obtain ⟨g,hg0,hg1,hgl,hg2,hg3⟩:=h.al_t hd.1
       have kb:=hg2 hn
       exact rs_store rfl hg0 (h.e5 hd.2.1) (sp_store (p:=0) kb (by simp) T1.1) (hK {h with mu:=h.mu.putNew hg1 _,kg_c_0:=fun a=>pO (by have:=h.mu.size;have:=hg1;have:=HLT.out;have:=lt_of_block HE.out;omega) (h.kg_c_0 a),kg_c_1:=fun a c=>pO (by have:=h.mu.size;have:=hg1;have:=HLT.out;have:=lt_of_block HE.out;omega) (h.kg_c_1 a c),kg_c_2:=fun a c=>pO (by have:=h.mu.size;have:=hg1;have:=HLT.out;have:=lt_of_block HE.out;omega) (h.kg_c_2 a c),kg_c_3:=fun a=>pO (by have:=h.mu.size;have:=hg1;have:=HLT.out;have:=lt_of_block HE.out;omega) (h.kg_c_3 a),al_t:=fun _=>aT hg0 hg1 hgl kb,b7_6:=fun _=>hd.1})
     ·intro L s w2 h hk hl
      refine cA ?_ (hQ2 s w2 (⟨h.mu,h.kg_c_3 (hl 5),aE (h.al_t (hl 6)) (hl 7)⟩))
      exact fq hk
    rintro s11 V ⟨h1,c_c,⟨g7,k_t,g_t,c_t⟩⟩
    simp only [mergeL]
    rw [k_t]
    replace HLT:=lh (show b<=g7/\b<g7/\b+1<g7/\A<g7/\g2<g7/\g3<g7/\g4<g7/\g5<g7/\g6<g7/\b<=g6/\b<g6/\b+1<g6/\A<g6/\g2<g6/\g3<g6/\g4<g6/\g5<g6/\b<=g5/\b<g5/\b+1<g5/\A<g5/\g2<g5/\g3<g5/\g4<g5/\b<=g2/\b<=g3/\b<=g4/\b<g2/\b+1<g2/\A<g2/\b<g3/\b+1<g3/\A<g3/\b<g4/\b+1<g4/\A<g4/\b<=A/\b<A/\b+1<A from by
     have hlt:=HLT.out
     have hbw:=HM.out.size
     have hbw2:=HBW.out
     have:=lt_of_block HA.out
     have:=lt_of_block HR.out
     have:=lt_of_block HE.out
     have:=lt_of_block HH.out
     have:=lt_of_block HBB.out
     have:=lt_of_block HEE.out
     have:=lt_of_block HO.out
     have:=lt_of_block HS.out
     omega)
    replace HA:=j1 h1 HA (by have:=HLT.out;omega)
    replace HR:=j1 h1 HR (by have:=HLT.out;omega)
    replace HE:=lh c_c
    replace HH:=j1 h1 HH (by have:=HLT.out;omega)
    replace HBB:=j1 h1 HBB (by have:=HLT.out;omega)
    replace HEE:=j1 h1 HEE (by have:=HLT.out;omega)
    replace HO:=j1 h1 HO (by have:=HLT.out;omega)
    replace HS:=j1 h1 HS (by have:=HLT.out;omega)
    have HT1:=lh c_t
    replace HM:=mB HM h1 (by have:=HBW.out;have:=HLT.out;simp;omega)
    clear h1 c_c k_t g_t c_t
    refine HK11.out _ _ ?_
    refine wsk fun K12 HK12=>?_
    refine wc (n8 (n8 (n8 (n8 (n8 (n8 (n8 (some 56::some 57::some 58::some 59::some 60::some 61::some 62::some 63::some 64::some 65::n8 (nn::nn::nn::nn::nn::nn::nn::[]))))))))) (fun _ w'=>Mut [g5,A] V w'/\w'.heap[g5]?=some (cobj 34 (M.1.set 21 Z1.1))/\w'.heap[A]?=some (iobj 62 Z1.2)) ?_ ?_
    ·intro Q2 hQ2
     refine wG (Zj12 V A R M T1 X6 D1 G1 Z1 g5) ?_ ?_ ?_
     ·exact ⟨Mut.start _ true _,fun _=>HO.out,nB,fun _=>HE.out,nB,nB,nB,nB,nB,nB,nB,nB,nB,nB,nB,nB,nB,nB,nB,nB,nB,nB⟩
     ·refine aC ?_ (aC ?_ (aC ?_ (aC ?_ (aC ?_ (aC ?_ (aC ?_ (aC ?_ (aC ?_ (aC ?_ (aC ?_ aN))))))))))
      ·intro L s w2 h hk hd hn K hK
       exact rs_field rfl (hk 8) (fl_model1 _ _) (hK {h with e0:=rF})
      ·intro L s w2 h hk hd hn K hK
       have kb:=(h.kt_m (bF h.b10_1 hn))
       exact rs_load rfl (h.e0 hd.1) (sp_load (p:=21) kb (by have:=(HLM.out:M.1.length=22);omega)) (hK {h with e1:=rF,b10_1:=rF})
      ·intro L s w2 h hk hd hn K hK
       go_simp
       refine (rf_point (-88080384) _).mono ?_
       rintro e w3 ⟨rfl,hb⟩
       exact .inl ⟨_,rfl,hK {h with mu:=h.mu.step hb,kt_m:=fun a=>bk hb (h.kt_m a),kr_m:=fun a=>bk hb (h.kr_m a),kg_c_0:=fun a=>bk hb (h.kg_c_0 a),kg_c_1:=fun a c=>bk hb (h.kg_c_1 a c),kg_c_2:=fun a c=>bk hb (h.kg_c_2 a c),kg_c_3:=fun a c=>bk hb (h.kg_c_3 a c),kg_c_4:=fun a=>bk hb (h.kg_c_4 a),e2:=rF}⟩
      ·intro L s w2 h hk hd hn K hK
       have kb:=kX h.mu HBB (by have:=HLT.out;have:=lt_of_block HE.out;omega) (by have:=HLT.out;have:=lt_of_block HE.out;omega)
       exact rs_load rfl (hk 6) (sp_load (p:=0) kb (by simp)) (hK {h with e3:=rF})
      ·intro L s w2 h hk hd hn K hK
       have s4:s 4=_:=hk 4
       have s59:=h.e3 hd.1
       have kb:=h.kg_c_0 hn
       go_simp
       refine (rf_powP GX6.out _ _ kb).mono ?_
       rintro e w3 ⟨rfl,hkr,hb⟩
       exact .inl ⟨_,rfl,hK {h with mu:=mS h.mu hb (List.Mem.tail _ (List.Mem.head _)),kt_m:=fun a=>hS hb (by have:=HLT.out;have:=lt_of_block HE.out;omega) (h.kt_m a),kr_m:=fun a=>hS hb (by have:=HLT.out;have:=lt_of_block HE.out;omega) (h.kr_m a),kg_c_0:=nF,kg_c_1:=fun _ _=>hkr,kg_c_2:=fun a _=>aB (h.b6_4 a) hn,kg_c_3:=fun a _=>absurd (h.b6_4 (h.b7_6 a)) (by rw [hn];exact bft),kg_c_4:=fun a=>absurd (h.b6_4 (h.b7_6 (h.b8_7 a))) (by rw [hn];exact bft),e4:=rF,b6_4:=rF}⟩
      ·intro L s w2 h hk hd hn K hK
       have kb:=kX h.mu HT1 (by have:=HLT.out;have:=lt_of_block HE.out;omega) (by have:=HLT.out;have:=lt_of_block HE.out;omega)
       exact rs_load rfl (hk 11) (sp_load (p:=0) kb (by simp)) (hK {h with e5:=rF})
      ·intro L s w2 h hk hd hn K hK
       have s4:s 4=_:=hk 4
       have s60:=h.e4 hd.1
       have s61:=h.e5 hd.2.1
       have kb:=h.kg_c_1 hd.1 hn
       go_simp
       refine (rf_divP GD1.out _ _ kb).mono ?_
       rintro e w3 ⟨rfl,hkr,hb⟩
       exact .inl ⟨_,rfl,hK {h with mu:=mS h.mu hb (List.Mem.tail _ (List.Mem.head _)),kt_m:=fun a=>hS hb (by have:=HLT.out;have:=lt_of_block HE.out;omega) (h.kt_m a),kr_m:=fun a=>hS hb (by have:=HLT.out;have:=lt_of_block HE.out;omega) (h.kr_m a),kg_c_0:=fun a=>absurd (a.symm.trans hd.1) bft,kg_c_1:=fun a c=>absurd c.symm bft,kg_c_2:=fun _ _=>hkr,kg_c_3:=fun a _=>aB (h.b7_6 a) hn,kg_c_4:=fun a=>absurd (h.b7_6 (h.b8_7 a)) (by rw [hn];exact bft),e6:=rF,b6_4:=fun _=>hd.1,b7_6:=rF}⟩
      ·intro L s w2 h hk hd hn K hK
       have s4:s 4=_:=hk 4
       have s58:=h.e2 hd.1
       have s62:=h.e6 hd.2.1
       have kb:=h.kg_c_2 hd.2.1 hn
       go_simp
       refine (rf_mulP GG1.out _ _ kb).mono ?_
       rintro e w3 ⟨rfl,hkr,hb⟩
       exact .inl ⟨_,rfl,hK {h with mu:=mS h.mu hb (List.Mem.tail _ (List.Mem.head _)),kt_m:=fun a=>hS hb (by have:=HLT.out;have:=lt_of_block HE.out;omega) (h.kt_m a),kr_m:=fun a=>hS hb (by have:=HLT.out;have:=lt_of_block HE.out;omega) (h.kr_m a),kg_c_0:=fun a=>absurd (a.symm.trans (h.b6_4 hd.2.1)) bft,kg_c_1:=fun a c=>absurd (c.symm.trans hd.2.1) bft,kg_c_2:=fun a c=>absurd c.symm bft,kg_c_3:=fun _ _=>hkr,kg_c_4:=fun a=>aB (h.b8_7 a) hn,e7:=rF,b7_6:=fun _=>hd.2.1,b8_7:=rF}⟩
      ·intro L s w2 h hk hd hn K hK
       have s4:s 4=_:=hk 4
       have s57:=h.e1 hd.1
       have s63:=h.e7 hd.2.1
       have kb:=h.kg_c_3 hd.2.1 hn
       go_simp
       refine (rf_addP GZ1.out _ _ kb).mono ?_
       rintro e w3 ⟨rfl,hkr,hb⟩
       exact .inl ⟨_,rfl,hK {h with mu:=mS h.mu hb (List.Mem.tail _ (List.Mem.head _)),kt_m:=fun a=>hS hb (by have:=HLT.out;have:=lt_of_block HE.out;omega) (h.kt_m a),kr_m:=fun a=>hS hb (by have:=HLT.out;have:=lt_of_block HE.out;omega) (h.kr_m a),kg_c_0:=fun a=>absurd (a.symm.trans (h.b6_4 (h.b7_6 hd.2.1))) bft,kg_c_1:=fun a c=>absurd (c.symm.trans (h.b7_6 hd.2.1)) bft,kg_c_2:=fun a c=>absurd (c.symm.trans hd.2.1) bft,kg_c_3:=fun a c=>absurd c.symm bft,kg_c_4:=fun _=>hkr,e8:=rF,b8_7:=fun _=>hd.2.1}⟩
      ·intro L s w2 h hk hd hn K hK
       exact rs_field rfl (hk 8) (fl_model1 _ _) (hK {h with e9:=rF})
      ·intro L s w2 h hk hd hn K hK
       have kb:=h.kt_m hn
       exact rs_store rfl (h.e9 hd.1) (h.e8 hd.2.1) (sp_store (p:=21) kb (by have:=(HLM.out:M.1.length=22);omega) Z1.1) (hK {h with mu:=h.mu.put (List.Mem.head _) _,kg_c_0:=fun a=>pO (by have:=HLT.out;have:=lt_of_block HE.out;omega) (h.kg_c_0 a),kg_c_1:=fun a c=>pO (by have:=HLT.out;have:=lt_of_block HE.out;omega) (h.kg_c_1 a c),kg_c_2:=fun a c=>pO (by have:=HLT.out;have:=lt_of_block HE.out;omega) (h.kg_c_2 a c),kg_c_3:=fun a c=>pO (by have:=HLT.out;have:=lt_of_block HE.out;omega) (h.kg_c_3 a c),kg_c_4:=fun a=>pO (by have:=HLT.out;have:=lt_of_block HE.out;omega) (h.kg_c_4 a),kt_m:=nF,kr_m:=fun _=>pH kb,b10_1:=fun _=>hd.2.2.2.2.1})
     ·intro L s w2 h hk hl
      refine cA ?_ (hQ2 s w2 (⟨h.mu,h.kr_m (hl 10),h.kg_c_4 (hl 8)⟩))
      exact fq hk
    rintro s12 V ⟨h1,c_m,c_c⟩
    simp only [mergeL]
    replace HA:=j2 h1 HA (by have:=HLT.out;omega) (by have:=HLT.out;omega)
    replace HR:=j2 h1 HR (by have:=HLT.out;omega) (by have:=HLT.out;omega)
    replace HE:=lh c_c
    replace HH:=j2 h1 HH (by have:=HLT.out;omega) (by have:=HLT.out;omega)
    replace HBB:=j2 h1 HBB (by have:=HLT.out;omega) (by have:=HLT.out;omega)
    replace HEE:=j2 h1 HEE (by have:=HLT.out;omega) (by have:=HLT.out;omega)
    replace HO:=lh c_m
    replace HS:=j2 h1 HS (by have:=HLT.out;omega) (by have:=HLT.out;omega)
    replace HT1:=j2 h1 HT1 (by have:=HLT.out;omega) (by have:=HLT.out;omega)
    replace HM:=mB HM h1 (by have:=HBW.out;have:=HLT.out;simp;omega)
    clear h1 c_m c_c
    refine HK12.out _ _ ?_
    refine wsk fun K13 HK13=>?_
    refine wc (n8 (nn::nn::some 10::n8 (n8 (n8 (n8 (n8 (n8 (nn::nn::nn::nn::nn::nn::nn::some 66::some 67::some 68::some 69::some 70::some 71::some 72::n8 ([]))))))))) (fun s w'=>Mut [g6] V w'/\w'.heap[g6]?=some (cobj 31 ([J2.1]))/\s 10=.int .i64 J2.2) ?_ ?_
    ·intro Q2 hQ2
     refine wG (Zj13 V a b J0 J2 g6) ?_ ?_ ?_
     ·exact ⟨Mut.start _ false _,fun _=>HS.out,nB,nB,nB,nB,nB,nB,nB,nB,nB⟩
     ·refine aC ?_ (aC ?_ (aC ?_ (aC ?_ (aC ?_ (aC ?_ (aC ?_ (aC ?_ (aC ?_ aN))))))))
      ·intro L s w2 h hk hd hn K hK
       exact rs_field rfl (hk 1) (fl_model0 _ _) (hK {h with e0:=rF})
      ·intro L s w2 h hk hd hn K hK
       exact rs_index rfl (h.e0 hd.1) rfl (ix_model _ 0 (by omega)) (hK {h with e1:=rF})
      ·intro L s w2 h hk hd hn K hK
       have kb:=kY h.mu HA (by have:=HLT.out;omega)
       exact rs_load rfl (h.e1 hd.1) (sp_load (p:=0) kb (by have:=(HL.out:a.length=22);omega)) (hK {h with e2:=rF})
      ·intro L s w2 h hk hd hn K hK
       have s69:=h.e2 hd.1
       go_simp
       refine (ref2_SqrtP GJ2.out _).mono ?_
       rintro e w3 ⟨rfl,hb⟩
       exact .inl ⟨_,rfl,hK {h with mu:=h.mu.step hb,kt_s:=fun a=>bk hb (h.kt_s a),kr_s:=fun a=>bk hb (h.kr_s a),e3:=rF}⟩
      ·intro L s w2 h hk hd hn K hK
       exact rs_move rfl (h.e3 hd.1) (hK {h with e4:=rF})
      ·intro L s w2 h hk hd hn K hK
       exact rs_extract rfl (h.e4 hd.1) rfl (hK {h with e5:=rF})
      ·intro L s w2 h hk hd hn K hK
       exact rs_extract rfl (h.e4 hd.1) rfl (hK {h with e6:=rF})
      ·intro L s w2 h hk hd hn K hK
       have kb:=h.kt_s hn
       exact rs_store rfl (hk 9) (h.e5 hd.1) (sp_store (p:=0) kb (by simp) J2.1) (hK {h with mu:=h.mu.put (List.Mem.head _) _,kt_s:=nF,kr_s:=fun _=>pH kb})
      ·intro L s w2 h hk hd hn K hK
       exact rs_assign rfl (h.e6 hd.1) (hK {h with e8:=rF})
     ·intro L s w2 h hk hl
      refine cA ?_ (hQ2 s w2 (⟨h.mu,h.kr_s (hl 7),h.e8 (hl 8)⟩))
      exact fq hk
    rintro s13 V ⟨h1,c_s,k10⟩
    simp only [mergeL]
    rw [k10]
    replace HA:=j1 h1 HA (by have:=HLT.out;omega)
    replace HR:=j1 h1 HR (by have:=HLT.out;omega)
    replace HE:=j1 h1 HE (by have:=HLT.out;omega)
    replace HH:=j1 h1 HH (by have:=HLT.out;omega)
    replace HBB:=j1 h1 HBB (by have:=HLT.out;omega)
    replace HEE:=j1 h1 HEE (by have:=HLT.out;omega)
    replace HO:=j1 h1 HO (by have:=HLT.out;omega)
    replace HS:=lh c_s
    replace HT1:=j1 h1 HT1 (by have:=HLT.out;omega)
    replace HM:=mB HM h1 (by have:=HBW.out;have:=HLT.out;simp;omega)
    clear h1 c_s k10
    refine HK13.out _ _ ?_
    refine wsk fun K14 HK14=>?_
    refine wc (nn::nn::nn::some 3::n8 (n8 (n8 (n8 (n8 (n8 (n8 (n8 (nn::nn::nn::nn::nn::some 73::some 74::some 75::some 76::some 77::some 78::some 79::some 80::[]))))))))) (fun s w'=>Mut [b+1,A] V w'/\w'.heap[b+1]?=some (cobj 34 U.1)/\w'.heap[A]?=some (iobj 62 T.2)/\s 3=.int .i64 U.2) ?_ ?_
    ·intro Q2 hQ2
     refine wG (Zj14 V b A M Z1 J2 J3 T U) ?_ ?_ ?_
     ·exact ⟨Mut.start _ true _,fun _=>HR.out,nB,fun _=>HE.out,nB,nB,nB,nB,nB,nB,nB,nB,nB,nB,nB,nB,nB,nB⟩
     ·refine aC ?_ (aC ?_ (aC ?_ (aC ?_ (aC ?_ (aC ?_ (aC ?_ (aC ?_ (aC ?_ (aC ?_ aN)))))))))
      ·intro L s w2 h hk hd hn K hK
       have kb:=kX h.mu HO (by have:=HLT.out;have:=lt_of_block HE.out;omega) (by have:=HLT.out;have:=lt_of_block HE.out;omega)
       exact rs_load rfl (hk 8) (md_load kb HLM2.out) (hK {h with e0:=rF})
      ·intro L s w2 h hk hd hn K hK
       have kb:=kX h.mu HS (by have:=HLT.out;have:=lt_of_block HE.out;omega) (by have:=HLT.out;have:=lt_of_block HE.out;omega)
       exact rs_load rfl (hk 9) (sp_load (p:=0) kb (by simp)) (hK {h with e1:=rF})
      ·intro L s w2 h hk hd hn K hK
       exact rs_move rfl (hk 10) (hK {h with e2:=rF})
      ·intro L s w2 h hk hd hn K hK
       have s4:s 4=_:=hk 4
       have s74:=h.e1 hd.1
       have s75:=h.e2 hd.2.1
       have kb:=h.kg_c_0 hn
       go_simp
       refine (rf_gotP GJ3.out _ _ kb).mono ?_
       rintro e w3 ⟨rfl,hkr,hb⟩
       exact .inl ⟨_,rfl,hK {h with mu:=mS h.mu hb (List.Mem.tail _ (List.Mem.head _)),kt_r:=fun a=>hS hb (by have:=HLT.out;have:=lt_of_block HE.out;omega) (h.kt_r a),kr_r:=fun a=>hS hb (by have:=HLT.out;have:=lt_of_block HE.out;omega) (h.kr_r a),kg_c_0:=nF,kg_c_1:=fun _ _=>hkr,kg_c_2:=fun a _=>aB (h.b4_3 a) hn,kg_c_3:=fun a=>absurd (h.b4_3 (h.b5_4 a)) (by rw [hn];exact bft),e3:=rF,b4_3:=rF}⟩
      ·intro L s w2 h hk hd hn K hK
       have s4:s 4=_:=hk 4
       have s73:=h.e0 hd.1
       have s76:=h.e3 hd.2.1
       have kb:=h.kg_c_1 hd.2.1 hn
       go_simp
       refine (rf_scaledP GT.out _ HLM2.out _ kb).mono ?_
       rintro e w3 ⟨rfl,hkr,hb⟩
       exact .inl ⟨_,rfl,hK {h with mu:=mS h.mu hb (List.Mem.tail _ (List.Mem.head _)),kt_r:=fun a=>hS hb (by have:=HLT.out;have:=lt_of_block HE.out;omega) (h.kt_r a),kr_r:=fun a=>hS hb (by have:=HLT.out;have:=lt_of_block HE.out;omega) (h.kr_r a),kg_c_0:=fun a=>absurd (a.symm.trans hd.2.1) bft,kg_c_1:=fun a c=>absurd c.symm bft,kg_c_2:=fun _ _=>hkr,kg_c_3:=fun a=>aB (h.b5_4 a) hn,e4:=rF,b4_3:=fun _=>hd.2.1,b5_4:=rF}⟩
      ·intro L s w2 h hk hd hn K hK
       have s4:s 4=_:=hk 4
       have s77:=h.e4 hd.1
       have kb:=h.kg_c_2 hd.1 hn
       go_simp
       refine (rf_toldP HU.out _ HLT3.out _ kb).mono ?_
       rintro e w3 ⟨rfl,hkr,hb⟩
       exact .inl ⟨_,rfl,hK {h with mu:=mS h.mu hb (List.Mem.tail _ (List.Mem.head _)),kt_r:=fun a=>hS hb (by have:=HLT.out;have:=lt_of_block HE.out;omega) (h.kt_r a),kr_r:=fun a=>hS hb (by have:=HLT.out;have:=lt_of_block HE.out;omega) (h.kr_r a),kg_c_0:=fun a=>absurd (a.symm.trans (h.b4_3 hd.1)) bft,kg_c_1:=fun a c=>absurd (c.symm.trans hd.1) bft,kg_c_2:=fun a c=>absurd c.symm bft,kg_c_3:=fun _=>hkr,e5:=rF,b5_4:=fun _=>hd.1}⟩
      ·intro L s w2 h hk hd hn K hK
       exact rs_extract rfl (h.e5 hd.1) rfl (hK {h with e6:=rF})
      ·intro L s w2 h hk hd hn K hK
       exact rs_extract rfl (h.e5 hd.1) rfl (hK {h with e7:=rF})
      ·intro L s w2 h hk hd hn K hK
       have kb:=h.kt_r hn
       exact rs_store rfl (hk 2) (h.e6 hd.1) (md_store kb rfl _ HLU.out) (hK {h with mu:=h.mu.put (List.Mem.head _) _,kg_c_0:=fun a=>pO (by have:=HLT.out;have:=lt_of_block HE.out;omega) (h.kg_c_0 a),kg_c_1:=fun a c=>pO (by have:=HLT.out;have:=lt_of_block HE.out;omega) (h.kg_c_1 a c),kg_c_2:=fun a c=>pO (by have:=HLT.out;have:=lt_of_block HE.out;omega) (h.kg_c_2 a c),kg_c_3:=fun a=>pO (by have:=HLT.out;have:=lt_of_block HE.out;omega) (h.kg_c_3 a),kt_r:=nF,kr_r:=fun _=>pH kb})
      ·intro L s w2 h hk hd hn K hK
       exact rs_assign rfl (h.e7 hd.1) (hK {h with e9:=rF})
     ·intro L s w2 h hk hl
      refine cA ?_ (hQ2 s w2 (⟨h.mu,h.kr_r (hl 8),h.kg_c_3 (hl 5),h.e9 (hl 9)⟩))
      exact fq hk
    rintro s14 V ⟨h1,c_r,c_c,k3⟩
    simp only [mergeL]
    rw [k3]
    replace HA:=j2 h1 HA (by have:=HLT.out;omega) (by have:=HLT.out;omega)
    replace HR:=lh c_r
    replace HE:=lh c_c
    replace HH:=j2 h1 HH (by have:=HLT.out;omega) (by have:=HLT.out;omega)
    replace HBB:=j2 h1 HBB (by have:=HLT.out;omega) (by have:=HLT.out;omega)
    replace HEE:=j2 h1 HEE (by have:=HLT.out;omega) (by have:=HLT.out;omega)
    replace HO:=j2 h1 HO (by have:=HLT.out;omega) (by have:=HLT.out;omega)
    replace HS:=j2 h1 HS (by have:=HLT.out;omega) (by have:=HLT.out;omega)
    replace HT1:=j2 h1 HT1 (by have:=HLT.out;omega) (by have:=HLT.out;omega)
    replace HM:=mB HM h1 (by have:=HBW.out;have:=HLT.out;simp;omega)
    clear h1 c_r c_c k3
    refine HK14.out _ _ ?_
    refine wp_ret ?_
    exact bodyPost_ret (v:=.tuple #[mval U.1,.int .i64 U.2]) (res_slot Tryz.results19 rfl rfl (md_loadVar HR.out HLU.out)) rfl ⟨rfl,by rw [←HBW.out];exact HM.out.to0⟩
end Go.Proofs.YthhkcfpljgdnhaaGreat
