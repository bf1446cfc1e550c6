/- The reference of layer 21: place, Right, Check. Printed by wip/genRF.py. -/
import Derived.Test.YthhkcfpljgdnhaaGreatTayO
import Derived.Test.YthhkcfpljgdnhaaGreatDrT
import Derived.Test.YthhkcfpljgdnhaaGreatRefY
import Derived.Test.YthhkcfpljgdnhaaGreatTayPl
import Derived.Test.YthhkcfpljgdnhaaGreatRefSX
set_option maxRecDepth 100000
set_option maxHeartbeats 4000000
namespace Go.Proofs.YthhkcfpljgdnhaaGreat
open Go.RowKit Mnc
attribute [local go_sem] RunSP_value RunSP_skip RunSP_enter evS_tmp evS_const evS_global evS_func
theorem tri_succ (s:Nat):s*(s+1) / 2+s+1=(s+1)*(s+1+1) / 2:=by
 have h:(s+1)*(s+1+1)=s*(s+1)+(s+1)*2:=by rw [show s+1+1=s+2 from rfl,Nat.mul_add,Nat.mul_comm (s+1) s]
 rw [h,Nat.add_mul_div_right _ _ (by decide)]
 omega
theorem rf_place (i j:Nat) (h:i+j<=10) (w:World):Calls Tryz.prog 68 #[.int .i64 (i:Int),.int .i64 (j:Int)] w fun e w'=>e=.returned (.int .i64 ((tPlace i j:Nat):Int))/\Below w.heap.size w w':=by
 have hi0:(0:Int)<=i:=by omega
 have hi1:(i:Int)<=10:=by omega
 have hj0:(0:Int)<=j:=by omega
 have hj1:(j:Int)<=10:=by omega
 have HIJ:=lh h
 go_enter Tryz.func68,Tryz.ntmps68
 go_wp2_with fail
 go_loopw [5,6] (fun x y wr=>∃s n:Nat,s<=i+j/\n<=100/\x=.int .i64 n/\y=.int .i64 s/\Hid (n=s*(s+1) / 2/\Below w.heap.size w wr)) (fun _ y _=>i+j-(intOf y).toNat)
 case atStart=>exact ⟨0,0,by omega,by omega,rfl,rfl,lh ⟨rfl,Below.refl _ _⟩⟩
 case round =>
  obtain ⟨s,n,hs,hn,rfl,rfl,HG⟩:=hrel
  have hs0:(0:Int)<=s:=by omega
  have hs1:(s:Int)<=10:=by omega
  have hn0:(0:Int)<=n:=by omega
  have hn1:(n:Int)<=100:=by omega
  rcases Nat.lt_or_ge s (i+j) with hk | hk
  ·have t1:decide ((s:Int)<(i:Int)+(j:Int))=true:=by simp;omega
   have HN:=lh (show n+s+1=(s+1)*(s+1+1) / 2 by rw [HG.out.1];exact tri_succ s)
   have HN2:=lh (show n+s+1<=100 by
    have h1:n=s*(s+1) / 2:=HG.out.1
    have h2:s*(s+1)<=9*10:=Nat.mul_le_mul (by omega) (by omega)
    omega)
   have HK:=lh hk
   clear hk h
   go_wp2_with fail
   go_roundw
   case rel=>first | exact ⟨s+1,n+s+1,by have:=HK.out;omega,HN2.out,by go_num,by go_num,lh ⟨HN.out,HG.out.2⟩⟩ | ((repeat apply Exists.intro);exact ⟨⟨s+1,n+s+1,by have:=HK.out;omega,HN2.out,by go_num,by go_num,lh ⟨HN.out,HG.out.2⟩⟩,rfl⟩)
   case measure=>simp [intOf];have:=HK.out;omega
  ·have hse:s=i+j:=by omega
   have t1:decide ((s:Int)<(i:Int)+(j:Int))=false:=by simp;omega
   have HT:=lh (show ((tPlace i j:Nat):Int)=(n:Int)+(i:Int) by
    have h1:n=s*(s+1) / 2:=HG.out.1
    unfold tPlace
    rw [←hse,←h1]
    omega)
   clear hse hk
   go_wp2_with fail
   go_ret
   exact ⟨by rw [HT.out];rfl,HG.out.2⟩
theorem rfC_ok {s:Int×Int} (h:okS s) (w:World):Calls Tryz.prog 92 #[sval s] w fun e w'=>e=.returned (.int .i64 0)/\Below w.heap.size w w':=by
 have h2:=ref2_Check s w
 rw [sChk_ok h] at h2
 exact h2
theorem rfC_bad {s:Int×Int} (h:¬okS s) (w:World):Calls Tryz.prog 92 #[sval s] w fun e w'=>e=.returned (.int .i64 20)/\Below w.heap.size w w':=by
 have h2:=ref2_Check s w
 rw [sChk_bad h] at h2
 exact h2
theorem all_tAt {a:List (Int×Int)} {n:Nat} (hl:a.length=n) (h:∀q,q<n->okS (tAt a q)):∀s∈a,okS s:=by
 intro s hs
 obtain ⟨i,hi,rfl⟩:=List.getElem_of_mem hs
 have:=h i (by omega)
 simpa [tAt,List.getD,List.getElem?_eq_getElem hi] using this
structure Rtg4 (V:World) (a:List (Int×Int)) (b:Nat) (p:Nat) (L:Nat->Bool) (s:Nat->Value) (w:World):Prop where
 mu:Mut [] V w
 e0:L 0->s 8=.int .i64 ((p:Nat):Int)
 e1:L 1->s 9=.pointer (some ⟨b,0,none⟩)
 e2:L 2->s 10=.pointer (some ⟨b,p*2,none⟩)
 e3:L 3->s 11=sval (tAt a p)
 e4:L 4->s 12=.int .i64 0
 e5:L 5->s 13=.bool false
structure Rsg6 (V:World) (a:List (Int×Int)) (b:Nat) (L:Nat->Bool) (s:Nat->Value) (w:World):Prop where
 mu:Mut [] V w
 e0:L 0->s 14=.pointer (some ⟨b,21*2,none⟩)
 e1:L 1->s 15=sval (tAt a 21)
 e2:L 2->s 16=.int .i64 0
 e3:L 3->s 17=.bool true
 e4:L 4->s 2=.bool true
structure Rtx4 (V:World) (a:List (Int×Int)) (b:Nat) (p:Nat) (L:Nat->Bool) (s:Nat->Value) (w:World):Prop where
 mu:Mut [] V w
 e0:L 0->s 8=.int .i64 ((p:Nat):Int)
 e1:L 1->s 9=.pointer (some ⟨b,0,none⟩)
 e2:L 2->s 10=.pointer (some ⟨b,p*2,none⟩)
 e3:L 3->s 11=sval (tAt a p)
 e4:L 4->s 12=.int .i64 20
 e5:L 5->s 13=.bool true
structure Rsx6 (V:World) (a:List (Int×Int)) (b:Nat) (L:Nat->Bool) (s:Nat->Value) (w:World):Prop where
 mu:Mut [] V w
 e0:L 0->s 14=.pointer (some ⟨b,21*2,none⟩)
 e1:L 1->s 15=sval (tAt a 21)
 e2:L 2->s 16=.int .i64 20
 e3:L 3->s 17=.bool false
 e4:L 4->s 2=.bool false
theorem rf_Right (a:List (Int×Int)) (ha:a.length=22) (w:World):Calls Tryz.prog 66 #[mval a] w fun e w'=>e=.returned (.bool (decide (∀s∈a,okS s)))/\Below w.heap.size w w':=by
 have HL:=lh ha
 clear ha
 go_enter Tryz.func66,Tryz.ntmps66
 refine wsk fun K0 HK0=>?_
 go_wp2_with fail
 rename_i x1 cs1 hc1
 obtain rfl:(mc a).toArray=cs1:=Value.agg.inj hc1
 clear hc1
 obtain ⟨b,hb⟩:∃b,w.heap.size=b:=⟨_,rfl⟩
 refine HK0.out _ _ ?_
 refine wp_world (fun V=>Mut [] w V/\V.heap[b]?=some (cobj 34 a)) ?_
  (by
   rw [←hb]
   exact ⟨((Mut.refl _ _).alloc _),heap_at (cobj 34 a) (by simp)⟩)
 rintro V ⟨hm,hHA⟩
 rw [hb]
 have HM:=lh hm
 have HBW:=lh hb
 have HLT:=lh trivial
 have HA:=lh hHA
 clear hm hHA hb HK0
 refine wsk fun KL HKL=>?_
 go_wp2_with fail
 go_loopw [3] (fun x wr=>∃p:Nat,p<=21/\x=.int .i64 p/\Hid (Mut [] V wr/\∀q,q<p->okS (tAt a q))) (fun x _=>21-(intOf x).toNat)
 case atStart=>exact ⟨0,by omega,rfl,lh ⟨Mut.refl _ _,fun q h=>by omega⟩⟩
 case round =>
  obtain ⟨p,hp,rfl,HG⟩:=hrel
  have HALL:=lh HG.out.2
  have hm2:=HM.out.trans HG.out.1
  refine wp_world (fun U=>Mut [] w U/\Mut [] V U/\U.heap[b]?=some (cobj 34 a)) ?_ ⟨hm2,HG.out.1,(HG.out.1.same _ (lt_of_block HA.out) (by simp)).trans HA.out⟩
  clear hm2 HG HM HA
  rintro V ⟨q1,q2,q3⟩
  have HM:=lh q1
  have HGM:=lh q2
  have HA:=lh q3
  clear q1 q2 q3
  rcases Nat.lt_or_ge p 21 with hk | hk
  ·have t1:decide ((p:Int)<21)=true:=by simp;omega
   have HPL:=lh hk
   have hp0:(0:Int)<=(p:Int):=by omega
   have hp9:(p:Int)<21:=by omega
   clear hk hp
   refine wsk fun K1 HK1=>?_
   go_wp2_with fail
   refine HK1.out _ _ ?_
   refine wsk fun K2 HK2=>?_
   refine wp_block ?_
   by_cases hok:okS (tAt a p)
   ·have HOK:=lh hok
    clear hok
    refine wsk fun K4 HK4=>?_
    refine wc (n8 (some 8::some 9::some 10::some 11::some 12::some 13::nn::nn::nn::nn::[])) (fun s w'=>Mut [] V w'/\s 13=.bool false) ?_ ?_
    ·intro Q2 hQ2
     refine wG (Rtg4 V a b p) ?_ ?_ ?_
     ·exact ⟨Mut.start _ false _,nB,nB,nB,nB,nB,nB⟩
     ·refine aC ?_ (aC ?_ (aC ?_ (aC ?_ (aC ?_ (aC ?_ aN)))))
      ·intro L s w2 h hk hd hn K hK
       exact rs_move rfl (hk 3) (hK {h with e0:=rF})
      ·intro L s w2 h hk hd hn K hK
       exact rs_field rfl (hk 1) (fl_model0 _ _) (hK {h with e1:=rF})
      ·intro L s w2 h hk hd hn K hK
       exact rs_index rfl (h.e1 hd.1) (h.e0 hd.2.1) (ix_model _ p HPL.out) (hK {h with e2:=rF})
      ·intro L s w2 h hk hd hn K hK
       have kb:=kZ h.mu HA
       exact rs_load rfl (h.e2 hd.1) (sp_load (p:=p) kb (by have:=HL.out;have:=HPL.out;omega)) (hK {h with e3:=rF})
      ·intro L s w2 h hk hd hn K hK
       have s11:=h.e3 hd.1
       go_simp
       refine (rfC_ok HOK.out _).mono ?_
       rintro e w3 ⟨rfl,hb⟩
       exact .inl ⟨_,rfl,hK {h with mu:=h.mu.step hb,e4:=rF}⟩
      ·intro L s w2 h hk hd hn K hK
       have s12:=h.e4 hd.1
       go_simp
       exact hK {h with e5:=rF}
     ·intro L s w2 h hk hl
      refine cA ?_ (hQ2 s w2 (⟨h.mu,h.e5 (hl 5)⟩))
      exact fq hk
    rintro s4 V ⟨h1,k13⟩
    simp only [mergeL]
    rw [k13]
    replace HA:=sm h1 HA
    replace HM:=mE HM h1
    have HF:=lh (HGM.out.trans h1)
    clear h1 k13
    refine HK4.out _ _ ?_
    go_wp2_with fail
    refine HK2.out _ _ ?_
    have HA2:=lh (show ∀q,q<p+1->okS (tAt a q) from fun q hq=>by
     rcases Nat.lt_or_ge q p with h | h
     ·exact HALL.out q h
     ·obtain rfl:q=p:=by omega
      exact HOK.out)
    go_wp2_with fail
    go_roundw
    case rel=>first | exact ⟨p+1,by have:=HPL.out;omega,by go_num,lh ⟨HF.out,HA2.out⟩⟩ | ((repeat apply Exists.intro);exact ⟨⟨p+1,by have:=HPL.out;omega,by go_num,lh ⟨HF.out,HA2.out⟩⟩,rfl⟩)
    case measure=>simp [intOf];have:=HPL.out;omega
   ·have HOK:=lh hok
    clear hok
    refine wsk fun K4 HK4=>?_
    refine wc (n8 (some 8::some 9::some 10::some 11::some 12::some 13::nn::nn::nn::nn::[])) (fun s w'=>Mut [] V w'/\s 13=.bool true) ?_ ?_
    ·intro Q2 hQ2
     refine wG (Rtx4 V a b p) ?_ ?_ ?_
     ·exact ⟨Mut.start _ false _,nB,nB,nB,nB,nB,nB⟩
     ·refine aC ?_ (aC ?_ (aC ?_ (aC ?_ (aC ?_ (aC ?_ aN)))))
      ·intro L s w2 h hk hd hn K hK
       exact rs_move rfl (hk 3) (hK {h with e0:=rF})
      ·intro L s w2 h hk hd hn K hK
       exact rs_field rfl (hk 1) (fl_model0 _ _) (hK {h with e1:=rF})
      ·intro L s w2 h hk hd hn K hK
       exact rs_index rfl (h.e1 hd.1) (h.e0 hd.2.1) (ix_model _ p HPL.out) (hK {h with e2:=rF})
      ·intro L s w2 h hk hd hn K hK
       have kb:=kZ h.mu HA
       exact rs_load rfl (h.e2 hd.1) (sp_load (p:=p) kb (by have:=HL.out;have:=HPL.out;omega)) (hK {h with e3:=rF})
      ·intro L s w2 h hk hd hn K hK
       have s11:=h.e3 hd.1
       go_simp
       refine (rfC_bad HOK.out _).mono ?_
       rintro e w3 ⟨rfl,hb⟩
       exact .inl ⟨_,rfl,hK {h with mu:=h.mu.step hb,e4:=rF}⟩
      ·intro L s w2 h hk hd hn K hK
       have s12:=h.e4 hd.1
       go_simp
       exact hK {h with e5:=rF}
     ·intro L s w2 h hk hl
      refine cA ?_ (hQ2 s w2 (⟨h.mu,h.e5 (hl 5)⟩))
      exact fq hk
    rintro s4 V ⟨h1,k13⟩
    simp only [mergeL]
    rw [k13]
    replace HA:=sm h1 HA
    replace HM:=mE HM h1
    have HF:=lh (HGM.out.trans h1)
    clear h1 k13
    refine HK4.out _ _ ?_
    have HRES:=lh (show (decide (∀s∈a,okS s))=false from decide_eq_false fun h=>HOK.out (h _ (tAt_mem (by have:=HL.out;have:=HPL.out;omega))))
    go_wp2_with fail
    exact bodyPost_ret (v:=.bool false) (by simp [results,Tryz.results66,go_sem]) rfl ⟨by rw [HRES.out],by rw [←HBW.out];exact HM.out.to0⟩
  ·obtain rfl:p=21:=by omega
   go_wp2_with fail
   refine HKL.out _ _ ?_
   clear hk hp
   by_cases hok:okS (tAt a 21)
   ·have HOK:=lh hok
    clear hok
    refine wsk fun K6 HK6=>?_
    refine wc (nn::nn::some 2::n8 (nn::nn::nn::some 14::some 15::some 16::some 17::[])) (fun s w'=>Mut [] V w'/\s 2=.bool true) ?_ ?_
    ·intro Q2 hQ2
     refine wG (Rsg6 V a b) ?_ ?_ ?_
     ·exact ⟨Mut.start _ false _,nB,nB,nB,nB,nB⟩
     ·refine aC ?_ (aC ?_ (aC ?_ (aC ?_ (aC ?_ aN))))
      ·intro L s w2 h hk hd hn K hK
       exact rs_field rfl (hk 1) (fl_model1 _ _) (hK {h with e0:=rF})
      ·intro L s w2 h hk hd hn K hK
       have kb:=kZ h.mu HA
       exact rs_load rfl (h.e0 hd.1) (sp_load (p:=21) kb (by have:=(HL.out:a.length=22);omega)) (hK {h with e1:=rF})
      ·intro L s w2 h hk hd hn K hK
       have s15:=h.e1 hd.1
       go_simp
       refine (rfC_ok HOK.out _).mono ?_
       rintro e w3 ⟨rfl,hb⟩
       exact .inl ⟨_,rfl,hK {h with mu:=h.mu.step hb,e2:=rF}⟩
      ·intro L s w2 h hk hd hn K hK
       have s16:=h.e2 hd.1
       go_simp
       exact hK {h with e3:=rF}
      ·intro L s w2 h hk hd hn K hK
       exact rs_assign rfl (h.e3 hd.1) (hK {h with e4:=rF})
     ·intro L s w2 h hk hl
      refine cA ?_ (hQ2 s w2 (⟨h.mu,h.e4 (hl 4)⟩))
      exact fq hk
    rintro s6 V ⟨h1,k2⟩
    simp only [mergeL]
    rw [k2]
    replace HA:=sm h1 HA
    replace HM:=mE HM h1
    clear h1 k2
    refine HK6.out _ _ ?_
    have HRES:=lh (show (decide (∀s∈a,okS s))=true from decide_eq_true (all_tAt HL.out fun q hq=>by
     rcases Nat.lt_or_ge q 21 with h | h
     ·exact HALL.out q h
     ·obtain rfl:q=21:=by omega
      exact HOK.out))
    refine wp_ret ?_
    exact bodyPost_ret (v:=.bool true) (by simp [results,Tryz.results66,go_sem]) rfl ⟨by rw [HRES.out],by rw [←HBW.out];exact HM.out.to0⟩
   ·have HOK:=lh hok
    clear hok
    refine wsk fun K6 HK6=>?_
    refine wc (nn::nn::some 2::n8 (nn::nn::nn::some 14::some 15::some 16::some 17::[])) (fun s w'=>Mut [] V w'/\s 2=.bool false) ?_ ?_
    ·intro Q2 hQ2
     refine wG (Rsx6 V a b) ?_ ?_ ?_
     ·exact ⟨Mut.start _ false _,nB,nB,nB,nB,nB⟩
     ·refine aC ?_ (aC ?_ (aC ?_ (aC ?_ (aC ?_ aN))))
      ·intro L s w2 h hk hd hn K hK
       exact rs_field rfl (hk 1) (fl_model1 _ _) (hK {h with e0:=rF})
      ·intro L s w2 h hk hd hn K hK
       have kb:=kZ h.mu HA
       exact rs_load rfl (h.e0 hd.1) (sp_load (p:=21) kb (by have:=(HL.out:a.length=22);omega)) (hK {h with e1:=rF})
      ·intro L s w2 h hk hd hn K hK
       have s15:=h.e1 hd.1
       go_simp
       refine (rfC_bad HOK.out _).mono ?_
       rintro e w3 ⟨rfl,hb⟩
       exact .inl ⟨_,rfl,hK {h with mu:=h.mu.step hb,e2:=rF}⟩
      ·intro L s w2 h hk hd hn K hK
       have s16:=h.e2 hd.1
       go_simp
       exact hK {h with e3:=rF}
      ·intro L s w2 h hk hd hn K hK
       exact rs_assign rfl (h.e3 hd.1) (hK {h with e4:=rF})
     ·intro L s w2 h hk hl
      refine cA ?_ (hQ2 s w2 (⟨h.mu,h.e4 (hl 4)⟩))
      exact fq hk
    rintro s6 V ⟨h1,k2⟩
    simp only [mergeL]
    rw [k2]
    replace HA:=sm h1 HA
    replace HM:=mE HM h1
    clear h1 k2
    refine HK6.out _ _ ?_
    have HRES:=lh (show (decide (∀s∈a,okS s))=false from decide_eq_false fun h=>HOK.out (h _ (tAt_mem (by have:=HL.out;omega))))
    refine wp_ret ?_
    exact bodyPost_ret (v:=.bool false) (by simp [results,Tryz.results66,go_sem]) rfl ⟨by rw [HRES.out],by rw [←HBW.out];exact HM.out.to0⟩
theorem rf_Right_ok {a:List (Int×Int)} (ha:a.length=22) (h:∀s∈a,okS s) (w:World):Calls Tryz.prog 66 #[mval a] w fun e w'=>e=.returned (.bool true)/\Below w.heap.size w w':=by
 have h2:=rf_Right a ha w
 rw [show decide (∀s∈a,okS s)=true from decide_eq_true h] at h2
 exact h2
structure Rcok1 (V:World) (a:List (Int×Int)) (b:Nat) (L:Nat->Bool) (s:Nat->Value) (w:World):Prop where
 mu:Mut [] V w
 e0:L 0->s 3=mval a
 e1:L 1->s 4=.bool true
 e2:L 2->s 5=.bool false
theorem rf_Check_ok (a:List (Int×Int)) (ha:a.length=22) (hok:∀s∈a,okS s) (w:World):Calls Tryz.prog 35 #[mval a] w fun e w'=>e=.returned (.int .i64 0)/\Below w.heap.size w w':=by
 have HL:=lh ha
 have HOK:=lh hok
 clear ha hok
 go_enter Tryz.func35,Tryz.ntmps35
 refine wsk fun K0 HK0=>?_
 go_wp2_with fail
 rename_i x1 cs1 hc1
 obtain rfl:(mc a).toArray=cs1:=Value.agg.inj hc1
 clear hc1
 obtain ⟨b,hb⟩:∃b,w.heap.size=b:=⟨_,rfl⟩
 refine HK0.out _ _ ?_
 refine wp_world (fun V=>Mut [] w V/\V.heap[b]?=some (cobj 34 a)) ?_
  (by
   rw [←hb]
   exact ⟨((Mut.refl _ _).alloc _),heap_at (cobj 34 a) (by simp)⟩)
 rintro V ⟨hm,hHA⟩
 rw [hb]
 have HM:=lh hm
 have HBW:=lh hb
 have HLT:=lh trivial
 have HA:=lh hHA
 clear hm hHA hb HK0
 refine wsk fun KA HKA=>?_
 refine wsk fun K1 HK1=>?_
 refine wc (nn::nn::nn::some 3::some 4::some 5::[]) (fun s w'=>Mut [] V w'/\s 5=.bool false) ?_ ?_
 ·intro Q2 hQ2
  refine wG (Rcok1 V a b) ?_ ?_ ?_
  ·exact ⟨Mut.start _ false _,nB,nB,nB⟩
  ·refine aC ?_ (aC ?_ (aC ?_ aN))
   ·intro L s w2 h hk hd hn K hK
    have kb:=kZ h.mu HA
    exact rs_load rfl (hk 1) (md_load kb HL.out) (hK {h with e0:=rF})
   ·intro L s w2 h hk hd hn K hK
    have s3:=h.e0 hd.1
    go_simp
    refine (rf_Right_ok HL.out HOK.out _).mono ?_
    rintro e w3 ⟨rfl,hb⟩
    exact .inl ⟨_,rfl,hK {h with mu:=h.mu.step hb,e1:=rF}⟩
   ·intro L s w2 h hk hd hn K hK
    have s4:=h.e1 hd.1
    go_simp
    exact hK {h with e2:=rF}
  ·intro L s w2 h hk hl
   refine cA ?_ (hQ2 s w2 (⟨h.mu,h.e2 (hl 2)⟩))
   exact fq hk
 rintro s1 V ⟨h1,k5⟩
 simp only [mergeL]
 rw [k5]
 replace HA:=sm h1 HA
 replace HM:=mE HM h1
 clear h1 k5
 refine HK1.out _ _ ?_
 go_wp2_with fail
 refine HKA.out _ _ ?_
 go_wp2_with fail
 exact bodyPost_ret (v:=.int .i64 0) (by simp [results,Tryz.results35,go_sem]) rfl ⟨rfl,by rw [←HBW.out];exact HM.out.to0⟩
theorem rf_Right_bad {a:List (Int×Int)} (ha:a.length=22) (h:¬(∀s∈a,okS s)) (w:World):Calls Tryz.prog 66 #[mval a] w fun e w'=>e=.returned (.bool false)/\Below w.heap.size w w':=by
 have h2:=rf_Right a ha w
 rw [show decide (∀s∈a,okS s)=false from decide_eq_false h] at h2
 exact h2
structure Rcbad1 (V:World) (a:List (Int×Int)) (b:Nat) (L:Nat->Bool) (s:Nat->Value) (w:World):Prop where
 mu:Mut [] V w
 e0:L 0->s 3=mval a
 e1:L 1->s 4=.bool false
 e2:L 2->s 5=.bool true
theorem rf_Check_bad (a:List (Int×Int)) (ha:a.length=22) (hok:¬(∀s∈a,okS s)) (w:World):Calls Tryz.prog 35 #[mval a] w fun e w'=>e=.returned (.int .i64 210)/\Below w.heap.size w w':=by
 have HL:=lh ha
 have HOK:=lh hok
 clear ha hok
 go_enter Tryz.func35,Tryz.ntmps35
 refine wsk fun K0 HK0=>?_
 go_wp2_with fail
 rename_i x1 cs1 hc1
 obtain rfl:(mc a).toArray=cs1:=Value.agg.inj hc1
 clear hc1
 obtain ⟨b,hb⟩:∃b,w.heap.size=b:=⟨_,rfl⟩
 refine HK0.out _ _ ?_
 refine wp_world (fun V=>Mut [] w V/\V.heap[b]?=some (cobj 34 a)) ?_
  (by
   rw [←hb]
   exact ⟨((Mut.refl _ _).alloc _),heap_at (cobj 34 a) (by simp)⟩)
 rintro V ⟨hm,hHA⟩
 rw [hb]
 have HM:=lh hm
 have HBW:=lh hb
 have HLT:=lh trivial
 have HA:=lh hHA
 clear hm hHA hb HK0
 refine wsk fun KA HKA=>?_
 refine wsk fun K1 HK1=>?_
 refine wc (nn::nn::nn::some 3::some 4::some 5::[]) (fun s w'=>Mut [] V w'/\s 5=.bool true) ?_ ?_
 ·intro Q2 hQ2
  refine wG (Rcbad1 V a b) ?_ ?_ ?_
  ·exact ⟨Mut.start _ false _,nB,nB,nB⟩
  ·refine aC ?_ (aC ?_ (aC ?_ aN))
   ·intro L s w2 h hk hd hn K hK
    have kb:=kZ h.mu HA
    exact rs_load rfl (hk 1) (md_load kb HL.out) (hK {h with e0:=rF})
   ·intro L s w2 h hk hd hn K hK
    have s3:=h.e0 hd.1
    go_simp
    refine (rf_Right_bad HL.out HOK.out _).mono ?_
    rintro e w3 ⟨rfl,hb⟩
    exact .inl ⟨_,rfl,hK {h with mu:=h.mu.step hb,e1:=rF}⟩
   ·intro L s w2 h hk hd hn K hK
    have s4:=h.e1 hd.1
    go_simp
    exact hK {h with e2:=rF}
  ·intro L s w2 h hk hl
   refine cA ?_ (hQ2 s w2 (⟨h.mu,h.e2 (hl 2)⟩))
   exact fq hk
 rintro s1 V ⟨h1,k5⟩
 simp only [mergeL]
 rw [k5]
 replace HA:=sm h1 HA
 replace HM:=mE HM h1
 clear h1 k5
 refine HK1.out _ _ ?_
 go_wp2_with fail
 exact bodyPost_ret (v:=.int .i64 210) (by simp [results,Tryz.results35,go_sem]) rfl ⟨rfl,by rw [←HBW.out];exact HM.out.to0⟩
theorem rf_Check (a:List (Int×Int)) (ha:a.length=22) (w:World):Calls Tryz.prog 35 #[mval a] w fun e w'=>e=.returned (.int .i64 (tRight a).2)/\Below w.heap.size w w':=by
 by_cases h:∀s∈a,okS s
 ·rw [show (tRight a).2=0 from if_pos h]
  exact rf_Check_ok a ha h w
 ·rw [show (tRight a).2=210 from if_neg h]
  exact rf_Check_bad a ha h w
theorem fl_sums (B:Nat) (W:World):(Instr.fieldAt 62 (.pointer (some ⟨B,0,none⟩)) 0).run Tryz.prog W=.ok (.pointer (some ⟨B,0,none⟩)) W:=by
 simp [go_sem]
theorem res_span {fn:Func} {tmps:Array Value} {i B:Nat} {W:World} {v:Value} (hf:fn.results=#[.cell i 31]) (ht:tmps.getD i undef=.pointer (some ⟨B,0,none⟩)) (hl:(loadVar 31 ⟨B,0,none⟩).run Tryz.prog W=.ok v W) :
  (results fn tmps).run Tryz.prog W=.ok v W:=by
 unfold results
 rw [hf]
 simp only [Array.mapM_eq_mapM_toList,List.mapM_cons,List.mapM_nil,ht,asAddr,pure_bind,map_eq_pure_bind,bind_assoc,Sem.run_bind,hl,Result.andThen,Sem.run_pure]
 rfl
structure Sga1 (V:World) (A:Nat) (L:Nat->Bool) (s:Nat->Value) (w:World):Prop where
 mu:Mut [] V w
 e0:L 0->s 7=.pointer (some ⟨A,0,none⟩)
 e1:L 1->s 8=.pointer (some ⟨A,0,none⟩)
 e2:L 2->s 9=.pointer (some ⟨A,0,none⟩)
 e3:L 3->s 10=.int .i64 0
 e4:L 4->s 11=.bool true
structure Sga2 (V:World) (A:Nat) (L:Nat->Bool) (s:Nat->Value) (w:World):Prop where
 mu:Mut [A] V w
 kt_c:L 4=false->w.heap[A]?=some (iobj 62 0)
 kr_c:L 4->w.heap[A]?=some (iobj 62 0)
 e0:L 0->s 12=.pointer (some ⟨A,0,none⟩)
 e1:L 1->s 13=.int .i64 0
 e2:L 2->s 14=.pointer (some ⟨A,0,none⟩)
 e3:L 3->s 15=.pointer (some ⟨A,0,none⟩)
structure Sga3 (V:World) (A:Nat) (L:Nat->Bool) (s:Nat->Value) (w:World):Prop where
 mu:Mut [] V w
 e0:L 0->s 16=.pointer (some ⟨A,0,none⟩)
 e1:L 1->s 17=.pointer (some ⟨A,0,none⟩)
 e2:L 2->s 18=.pointer (some ⟨A,0,none⟩)
 e3:L 3->s 19=.int .i64 0
 e4:L 4->s 20=.bool false
structure Sga5 (V:World) (x:(Int×Int)) (b:Nat) (L:Nat->Bool) (s:Nat->Value) (w:World):Prop where
 mu:Mut [b+1] V w
 kt_r:L 1=false->w.heap[b+1]?=some (cobj 31 ([(0,0)]))
 kr_r:L 1->w.heap[b+1]?=some (cobj 31 ([x]))
 e0:L 0->s 22=sval x
theorem rf_got_a (A:Nat) (x:Int×Int)  (w:World) (h:w.heap[A]?=some (iobj 62 0)) :
  Calls Tryz.prog 57 #[.pointer (some ⟨A,0,none⟩),sval x,.int .i64 0] w fun r w'=>r=.returned (sval x)/\w'.heap[A]?=some (iobj 62 (0))/\Mut [A] w w':=by
 have HE0:=lh h
 clear h
 rw [show sval x=.agg #[.int .i64 x.1,.int .i64 x.2] from rfl]
 go_enter Tryz.func57,Tryz.ntmps57
 refine wsk fun K0 HK0=>?_
 go_wp2_with fail
 obtain ⟨b,hb⟩:∃b,w.heap.size=b:=⟨_,rfl⟩
 have HLT:=lh (show A<b from hb ▸ lt_of_block HE0.out)
 refine HK0.out _ _ ?_
 refine wp_world (fun V=>Mut [A] w V/\V.heap[A]?=some (iobj 62 0)/\V.heap[b]?=some (cobj 31 [x])/\V.heap[b+1]?=some (cobj 31 [(0,0)])) ?_
  (by
   rw [←hb]
   exact ⟨(((Mut.refl _ _).alloc _).alloc _),heap_up _ (heap_up _ (HE0.out)),heap_up _ (heap_at (cobj 31 [x]) (by simp)),heap_at (cobj 31 [(0,0)]) (by simp)⟩)
 rintro V ⟨hm,hHE,hHX,hHR⟩
 rw [hb]
 have HM:=lh hm
 have HBW:=lh hb
 have HE:=lh hHE
 have HX:=lh hHX
 have HR:=lh hHR
 clear hm hHE hHX hHR hb HK0 HE0
 refine wsk fun KA HKA=>?_
 refine wsk fun K1 HK1=>?_
 refine wc (nn::nn::nn::nn::nn::nn::nn::some 7::some 8::some 9::some 10::some 11::n8 (nn::nn::nn::[])) (fun s w'=>Mut [] V w'/\s 11=.bool true) ?_ ?_
 ·intro Q2 hQ2
  refine wG (Sga1 V A) ?_ ?_ ?_
  ·exact ⟨Mut.start _ false _,nB,nB,nB,nB,nB⟩
  ·refine aC ?_ (aC ?_ (aC ?_ (aC ?_ (aC ?_ aN))))
   ·intro L s w2 h hk hd hn K hK
    exact rs_move rfl (hk 0) (hK {h with e0:=rF})
   ·intro L s w2 h hk hd hn K hK
    have s7:=h.e0 hd.1
    go_simp
    exact hK {h with e1:=rF}
   ·intro L s w2 h hk hd hn K hK
    exact rs_field rfl (h.e1 hd.1) (fl_sums _ _) (hK {h with e2:=rF})
   ·intro L s w2 h hk hd hn K hK
    have kb:=kZ h.mu HE
    exact rs_load rfl (h.e2 hd.1) (e_load kb) (hK {h with e3:=rF})
   ·intro L s w2 h hk hd hn K hK
    have s10:=h.e3 hd.1
    go_simp
    exact hK {h with e4:=rF}
  ·intro L s w2 h hk hl
   refine cA ?_ (hQ2 s w2 (⟨h.mu,h.e4 (hl 4)⟩))
   exact fq hk
 rintro s1 V ⟨h1,k11⟩
 simp only [mergeL]
 rw [k11]
 replace HE:=sm h1 HE
 replace HX:=sm h1 HX
 replace HR:=sm h1 HR
 replace HM:=mE HM h1
 clear h1 k11
 refine HK1.out _ _ ?_
 refine wp_cond_true (by rfl) ?_
 refine wc (n8 (nn::nn::nn::nn::some 12::some 13::some 14::some 15::nn::nn::nn::nn::nn::nn::nn::[])) (fun _ w'=>Mut [A] V w'/\w'.heap[A]?=some (iobj 62 0)) ?_ ?_
 ·intro Q2 hQ2
  refine wG (Sga2 V A) ?_ ?_ ?_
  ·exact ⟨Mut.start _ false _,fun _=>HE.out,nB,nB,nB,nB,nB⟩
  ·refine aC ?_ (aC ?_ (aC ?_ (aC ?_ (aC ?_ aN))))
   ·intro L s w2 h hk hd hn K hK
    exact rs_move rfl (hk 0) (hK {h with e0:=rF})
   ·intro L s w2 h hk hd hn K hK
    exact rs_move rfl (hk 2) (hK {h with e1:=rF})
   ·intro L s w2 h hk hd hn K hK
    have s12:=h.e0 hd.1
    go_simp
    exact hK {h with e2:=rF}
   ·intro L s w2 h hk hd hn K hK
    exact rs_field rfl (h.e2 hd.1) (fl_sums _ _) (hK {h with e3:=rF})
   ·intro L s w2 h hk hd hn K hK
    have kb:=h.kt_c hn
    exact rs_store rfl (h.e3 hd.1) (h.e1 hd.2.1) (e_store kb) (hK {h with mu:=h.mu.put (List.Mem.head _) _,kt_c:=nF,kr_c:=fun _=>pH kb})
  ·intro L s w2 h hk hl
   refine cA ?_ (hQ2 s w2 (⟨h.mu,h.kr_c (hl 4)⟩))
   exact fq hk
 rintro s2 V ⟨h1,c_c⟩
 simp only [mergeL]
 replace HE:=lh c_c
 replace HX:=j1 h1 HX (by have:=HLT.out;omega)
 replace HR:=j1 h1 HR (by have:=HLT.out;omega)
 replace HM:=lh (HM.out.stepM h1 (by have:=HBW.out;have:=HLT.out;intro x hx;rw [List.mem_singleton.1 hx];first | exact .inl (List.mem_singleton.2 rfl) | (right;omega)))
 clear h1 c_c
 refine HKA.out _ _ ?_
 refine wsk fun KB HKB=>?_
 refine wsk fun K3 HK3=>?_
 refine wc (n8 (n8 (some 16::some 17::some 18::some 19::some 20::nn::nn::[]))) (fun s w'=>Mut [] V w'/\s 20=.bool false) ?_ ?_
 ·intro Q2 hQ2
  refine wG (Sga3 V A) ?_ ?_ ?_
  ·exact ⟨Mut.start _ false _,nB,nB,nB,nB,nB⟩
  ·refine aC ?_ (aC ?_ (aC ?_ (aC ?_ (aC ?_ aN))))
   ·intro L s w2 h hk hd hn K hK
    exact rs_move rfl (hk 0) (hK {h with e0:=rF})
   ·intro L s w2 h hk hd hn K hK
    have s16:=h.e0 hd.1
    go_simp
    exact hK {h with e1:=rF}
   ·intro L s w2 h hk hd hn K hK
    exact rs_field rfl (h.e1 hd.1) (fl_sums _ _) (hK {h with e2:=rF})
   ·intro L s w2 h hk hd hn K hK
    have kb:=kZ h.mu HE
    exact rs_load rfl (h.e2 hd.1) (e_load kb) (hK {h with e3:=rF})
   ·intro L s w2 h hk hd hn K hK
    have s19:=h.e3 hd.1
    go_simp
    exact hK {h with e4:=rF}
  ·intro L s w2 h hk hl
   refine cA ?_ (hQ2 s w2 (⟨h.mu,h.e4 (hl 4)⟩))
   exact fq hk
 rintro s3 V ⟨h1,k20⟩
 simp only [mergeL]
 rw [k20]
 replace HE:=sm h1 HE
 replace HX:=sm h1 HX
 replace HR:=sm h1 HR
 replace HM:=mE HM h1
 clear h1 k20
 refine HK3.out _ _ ?_
 refine wp_cond_false (by rfl) ?_
 go_wp2_with fail
 refine HKB.out _ _ ?_
 refine wsk fun K5 HK5=>?_
 refine wc (n8 (n8 (nn::nn::nn::nn::nn::nn::some 22::[]))) (fun _ w'=>Mut [b+1] V w'/\w'.heap[b+1]?=some (cobj 31 ([x]))) ?_ ?_
 ·intro Q2 hQ2
  refine wG (Sga5 V x b) ?_ ?_ ?_
  ·exact ⟨Mut.start _ false _,fun _=>HR.out,nB,nB⟩
  ·refine aC ?_ (aC ?_ aN)
   ·intro L s w2 h hk hd hn K hK
    have kb:=kY h.mu HX (by have:=HLT.out;have:=lt_of_block HE.out;omega)
    exact rs_load rfl (hk 4) (sp_load (p:=0) kb (by simp)) (hK {h with e0:=rF})
   ·intro L s w2 h hk hd hn K hK
    have kb:=h.kt_r hn
    exact rs_store rfl (hk 6) (h.e0 hd.1) (sp_store (p:=0) kb (by simp) x) (hK {h with mu:=h.mu.put (List.Mem.head _) _,kt_r:=nF,kr_r:=fun _=>pH kb})
  ·intro L s w2 h hk hl
   refine cA ?_ (hQ2 s w2 (⟨h.mu,h.kr_r (hl 1)⟩))
   exact fq hk
 rintro s5 V ⟨h1,c_r⟩
 simp only [mergeL]
 replace HE:=j1 h1 HE (by have:=HLT.out;omega)
 replace HX:=j1 h1 HX (by have:=HLT.out;omega)
 replace HR:=lh c_r
 replace HM:=lh (HM.out.stepM h1 (by have:=HBW.out;have:=HLT.out;intro x hx;rw [List.mem_singleton.1 hx];first | exact .inl (List.mem_singleton.2 rfl) | (right;omega)))
 clear h1 c_r
 refine HK5.out _ _ ?_
 refine wp_ret ?_
 exact bodyPost_ret (v:=sval x) (res_span Tryz.results57 rfl (sp_loadVar HR.out)) rfl ⟨rfl,HE.out,HM.out⟩
structure Sgb1 (V:World) (A:Nat) (L:Nat->Bool) (s:Nat->Value) (w:World):Prop where
 mu:Mut [] V w
 e0:L 0->s 7=.pointer (some ⟨A,0,none⟩)
 e1:L 1->s 8=.pointer (some ⟨A,0,none⟩)
 e2:L 2->s 9=.pointer (some ⟨A,0,none⟩)
 e3:L 3->s 10=.int .i64 0
 e4:L 4->s 11=.bool true
structure Sgb2 (V:World) (A:Nat) (n:Int) (L:Nat->Bool) (s:Nat->Value) (w:World):Prop where
 mu:Mut [A] V w
 kt_c:L 4=false->w.heap[A]?=some (iobj 62 0)
 kr_c:L 4->w.heap[A]?=some (iobj 62 n)
 e0:L 0->s 12=.pointer (some ⟨A,0,none⟩)
 e1:L 1->s 13=.int .i64 n
 e2:L 2->s 14=.pointer (some ⟨A,0,none⟩)
 e3:L 3->s 15=.pointer (some ⟨A,0,none⟩)
structure Sgb3 (V:World) (A:Nat) (n:Int) (L:Nat->Bool) (s:Nat->Value) (w:World):Prop where
 mu:Mut [] V w
 e0:L 0->s 16=.pointer (some ⟨A,0,none⟩)
 e1:L 1->s 17=.pointer (some ⟨A,0,none⟩)
 e2:L 2->s 18=.pointer (some ⟨A,0,none⟩)
 e3:L 3->s 19=.int .i64 n
 e4:L 4->s 20=.bool true
structure Sgb4 (V:World) (b:Nat) (L:Nat->Bool) (s:Nat->Value) (w:World):Prop where
 mu:Mut [b+1] V w
 kt_r:L 1=false->w.heap[b+1]?=some (cobj 31 ([(0,0)]))
 kr_r:L 1->w.heap[b+1]?=some (cobj 31 ([(0,0)]))
 e0:L 0->s 21=sval ((0,0):Int×Int)
theorem rf_got_b (A:Nat) (x:Int×Int) (n:Int) (hn:¬n=0) (w:World) (h:w.heap[A]?=some (iobj 62 0)) :
  Calls Tryz.prog 57 #[.pointer (some ⟨A,0,none⟩),sval x,.int .i64 n] w fun r w'=>r=.returned (sval ((0,0):Int×Int))/\w'.heap[A]?=some (iobj 62 (n))/\Mut [A] w w':=by
 have HE0:=lh h
 clear h
 have HN:=lh hn
 clear hn
 rw [show sval x=.agg #[.int .i64 x.1,.int .i64 x.2] from rfl]
 go_enter Tryz.func57,Tryz.ntmps57
 refine wsk fun K0 HK0=>?_
 go_wp2_with fail
 obtain ⟨b,hb⟩:∃b,w.heap.size=b:=⟨_,rfl⟩
 have HLT:=lh (show A<b from hb ▸ lt_of_block HE0.out)
 refine HK0.out _ _ ?_
 refine wp_world (fun V=>Mut [A] w V/\V.heap[A]?=some (iobj 62 0)/\V.heap[b]?=some (cobj 31 [x])/\V.heap[b+1]?=some (cobj 31 [(0,0)])) ?_
  (by
   rw [←hb]
   exact ⟨(((Mut.refl _ _).alloc _).alloc _),heap_up _ (heap_up _ (HE0.out)),heap_up _ (heap_at (cobj 31 [x]) (by simp)),heap_at (cobj 31 [(0,0)]) (by simp)⟩)
 rintro V ⟨hm,hHE,hHX,hHR⟩
 rw [hb]
 have HM:=lh hm
 have HBW:=lh hb
 have HE:=lh hHE
 have HX:=lh hHX
 have HR:=lh hHR
 clear hm hHE hHX hHR hb HK0 HE0
 refine wsk fun KA HKA=>?_
 refine wsk fun K1 HK1=>?_
 refine wc (nn::nn::nn::nn::nn::nn::nn::some 7::some 8::some 9::some 10::some 11::n8 (nn::nn::nn::[])) (fun s w'=>Mut [] V w'/\s 11=.bool true) ?_ ?_
 ·intro Q2 hQ2
  refine wG (Sgb1 V A) ?_ ?_ ?_
  ·exact ⟨Mut.start _ false _,nB,nB,nB,nB,nB⟩
  ·refine aC ?_ (aC ?_ (aC ?_ (aC ?_ (aC ?_ aN))))
   ·intro L s w2 h hk hd hn K hK
    exact rs_move rfl (hk 0) (hK {h with e0:=rF})
   ·intro L s w2 h hk hd hn K hK
    have s7:=h.e0 hd.1
    go_simp
    exact hK {h with e1:=rF}
   ·intro L s w2 h hk hd hn K hK
    exact rs_field rfl (h.e1 hd.1) (fl_sums _ _) (hK {h with e2:=rF})
   ·intro L s w2 h hk hd hn K hK
    have kb:=kZ h.mu HE
    exact rs_load rfl (h.e2 hd.1) (e_load kb) (hK {h with e3:=rF})
   ·intro L s w2 h hk hd hn K hK
    have s10:=h.e3 hd.1
    go_simp
    exact hK {h with e4:=rF}
  ·intro L s w2 h hk hl
   refine cA ?_ (hQ2 s w2 (⟨h.mu,h.e4 (hl 4)⟩))
   exact fq hk
 rintro s1 V ⟨h1,k11⟩
 simp only [mergeL]
 rw [k11]
 replace HE:=sm h1 HE
 replace HX:=sm h1 HX
 replace HR:=sm h1 HR
 replace HM:=mE HM h1
 clear h1 k11
 refine HK1.out _ _ ?_
 refine wp_cond_true (by rfl) ?_
 refine wc (n8 (nn::nn::nn::nn::some 12::some 13::some 14::some 15::nn::nn::nn::nn::nn::nn::nn::[])) (fun _ w'=>Mut [A] V w'/\w'.heap[A]?=some (iobj 62 n)) ?_ ?_
 ·intro Q2 hQ2
  refine wG (Sgb2 V A n) ?_ ?_ ?_
  ·exact ⟨Mut.start _ false _,fun _=>HE.out,nB,nB,nB,nB,nB⟩
  ·refine aC ?_ (aC ?_ (aC ?_ (aC ?_ (aC ?_ aN))))
   ·intro L s w2 h hk hd hn K hK
    exact rs_move rfl (hk 0) (hK {h with e0:=rF})
   ·intro L s w2 h hk hd hn K hK
    exact rs_move rfl (hk 2) (hK {h with e1:=rF})
   ·intro L s w2 h hk hd hn K hK
    have s12:=h.e0 hd.1
    go_simp
    exact hK {h with e2:=rF}
   ·intro L s w2 h hk hd hn K hK
    exact rs_field rfl (h.e2 hd.1) (fl_sums _ _) (hK {h with e3:=rF})
   ·intro L s w2 h hk hd hn K hK
    have kb:=h.kt_c hn
    exact rs_store rfl (h.e3 hd.1) (h.e1 hd.2.1) (e_store kb) (hK {h with mu:=h.mu.put (List.Mem.head _) _,kt_c:=nF,kr_c:=fun _=>pH kb})
  ·intro L s w2 h hk hl
   refine cA ?_ (hQ2 s w2 (⟨h.mu,h.kr_c (hl 4)⟩))
   exact fq hk
 rintro s2 V ⟨h1,c_c⟩
 simp only [mergeL]
 replace HE:=lh c_c
 replace HX:=j1 h1 HX (by have:=HLT.out;omega)
 replace HR:=j1 h1 HR (by have:=HLT.out;omega)
 replace HM:=lh (HM.out.stepM h1 (by have:=HBW.out;have:=HLT.out;intro x hx;rw [List.mem_singleton.1 hx];first | exact .inl (List.mem_singleton.2 rfl) | (right;omega)))
 clear h1 c_c
 refine HKA.out _ _ ?_
 refine wsk fun KB HKB=>?_
 refine wsk fun K3 HK3=>?_
 refine wc (n8 (n8 (some 16::some 17::some 18::some 19::some 20::nn::nn::[]))) (fun s w'=>Mut [] V w'/\s 20=.bool true) ?_ ?_
 ·intro Q2 hQ2
  refine wG (Sgb3 V A n) ?_ ?_ ?_
  ·exact ⟨Mut.start _ false _,nB,nB,nB,nB,nB⟩
  ·refine aC ?_ (aC ?_ (aC ?_ (aC ?_ (aC ?_ aN))))
   ·intro L s w2 h hk hd hn K hK
    exact rs_move rfl (hk 0) (hK {h with e0:=rF})
   ·intro L s w2 h hk hd hn K hK
    have s16:=h.e0 hd.1
    go_simp
    exact hK {h with e1:=rF}
   ·intro L s w2 h hk hd hn K hK
    exact rs_field rfl (h.e1 hd.1) (fl_sums _ _) (hK {h with e2:=rF})
   ·intro L s w2 h hk hd hn K hK
    have kb:=kZ h.mu HE
    exact rs_load rfl (h.e2 hd.1) (e_load kb) (hK {h with e3:=rF})
   ·intro L s w2 h hk hd hn K hK
    have s19:=h.e3 hd.1
    go_simp
    exact hK {h with e4:=fun _=>congrArg Value.bool (by simp;exact HN.out)}
  ·intro L s w2 h hk hl
   refine cA ?_ (hQ2 s w2 (⟨h.mu,h.e4 (hl 4)⟩))
   exact fq hk
 rintro s3 V ⟨h1,k20⟩
 simp only [mergeL]
 rw [k20]
 replace HE:=sm h1 HE
 replace HX:=sm h1 HX
 replace HR:=sm h1 HR
 replace HM:=mE HM h1
 clear h1 k20
 refine HK3.out _ _ ?_
 refine wp_cond_true (by rfl) ?_
 refine wsk fun K4 HK4=>?_
 refine wc (n8 (n8 (nn::nn::nn::nn::nn::some 21::nn::[]))) (fun _ w'=>Mut [b+1] V w'/\w'.heap[b+1]?=some (cobj 31 ([(0,0)]))) ?_ ?_
 ·intro Q2 hQ2
  refine wG (Sgb4 V b) ?_ ?_ ?_
  ·exact ⟨Mut.start _ false _,fun _=>HR.out,nB,nB⟩
  ·refine aC ?_ (aC ?_ aN)
   ·intro L s w2 h hk hd hn K hK
    go_simp
    exact hK {h with e0:=rF}
   ·intro L s w2 h hk hd hn K hK
    have kb:=h.kt_r hn
    exact rs_store rfl (hk 6) (h.e0 hd.1) (sp_store (p:=0) kb (by simp) _) (hK {h with mu:=h.mu.put (List.Mem.head _) _,kt_r:=nF,kr_r:=fun _=>pH kb})
  ·intro L s w2 h hk hl
   refine cA ?_ (hQ2 s w2 (⟨h.mu,h.kr_r (hl 1)⟩))
   exact fq hk
 rintro s4 V ⟨h1,c_r⟩
 simp only [mergeL]
 replace HE:=j1 h1 HE (by have:=HLT.out;omega)
 replace HX:=j1 h1 HX (by have:=HLT.out;omega)
 replace HR:=lh c_r
 replace HM:=lh (HM.out.stepM h1 (by have:=HBW.out;have:=HLT.out;intro x hx;rw [List.mem_singleton.1 hx];first | exact .inl (List.mem_singleton.2 rfl) | (right;omega)))
 clear h1 c_r
 refine HK4.out _ _ ?_
 go_wp2_with fail
 exact bodyPost_ret (v:=sval ((0,0):Int×Int)) (res_span Tryz.results57 rfl (sp_loadVar HR.out)) rfl ⟨rfl,HE.out,HM.out⟩
structure Sgc1 (V:World) (A:Nat) (e:Int) (L:Nat->Bool) (s:Nat->Value) (w:World):Prop where
 mu:Mut [] V w
 e0:L 0->s 7=.pointer (some ⟨A,0,none⟩)
 e1:L 1->s 8=.pointer (some ⟨A,0,none⟩)
 e2:L 2->s 9=.pointer (some ⟨A,0,none⟩)
 e3:L 3->s 10=.int .i64 e
 e4:L 4->s 11=.bool false
structure Sgc3 (V:World) (A:Nat) (e:Int) (L:Nat->Bool) (s:Nat->Value) (w:World):Prop where
 mu:Mut [] V w
 e0:L 0->s 16=.pointer (some ⟨A,0,none⟩)
 e1:L 1->s 17=.pointer (some ⟨A,0,none⟩)
 e2:L 2->s 18=.pointer (some ⟨A,0,none⟩)
 e3:L 3->s 19=.int .i64 e
 e4:L 4->s 20=.bool true
structure Sgc4 (V:World) (b:Nat) (L:Nat->Bool) (s:Nat->Value) (w:World):Prop where
 mu:Mut [b+1] V w
 kt_r:L 1=false->w.heap[b+1]?=some (cobj 31 ([(0,0)]))
 kr_r:L 1->w.heap[b+1]?=some (cobj 31 ([(0,0)]))
 e0:L 0->s 21=sval ((0,0):Int×Int)
theorem rf_got_c (A:Nat) (e:Int) (x:Int×Int) (n:Int) (he:¬e=0) (w:World) (h:w.heap[A]?=some (iobj 62 e)) :
  Calls Tryz.prog 57 #[.pointer (some ⟨A,0,none⟩),sval x,.int .i64 n] w fun r w'=>r=.returned (sval ((0,0):Int×Int))/\w'.heap[A]?=some (iobj 62 (e))/\Mut [A] w w':=by
 have HE0:=lh h
 clear h
 have HNE:=lh he
 clear he
 rw [show sval x=.agg #[.int .i64 x.1,.int .i64 x.2] from rfl]
 go_enter Tryz.func57,Tryz.ntmps57
 refine wsk fun K0 HK0=>?_
 go_wp2_with fail
 obtain ⟨b,hb⟩:∃b,w.heap.size=b:=⟨_,rfl⟩
 have HLT:=lh (show A<b from hb ▸ lt_of_block HE0.out)
 refine HK0.out _ _ ?_
 refine wp_world (fun V=>Mut [A] w V/\V.heap[A]?=some (iobj 62 e)/\V.heap[b]?=some (cobj 31 [x])/\V.heap[b+1]?=some (cobj 31 [(0,0)])) ?_
  (by
   rw [←hb]
   exact ⟨(((Mut.refl _ _).alloc _).alloc _),heap_up _ (heap_up _ (HE0.out)),heap_up _ (heap_at (cobj 31 [x]) (by simp)),heap_at (cobj 31 [(0,0)]) (by simp)⟩)
 rintro V ⟨hm,hHE,hHX,hHR⟩
 rw [hb]
 have HM:=lh hm
 have HBW:=lh hb
 have HE:=lh hHE
 have HX:=lh hHX
 have HR:=lh hHR
 clear hm hHE hHX hHR hb HK0 HE0
 refine wsk fun KA HKA=>?_
 refine wsk fun K1 HK1=>?_
 refine wc (nn::nn::nn::nn::nn::nn::nn::some 7::some 8::some 9::some 10::some 11::n8 (nn::nn::nn::[])) (fun s w'=>Mut [] V w'/\s 11=.bool false) ?_ ?_
 ·intro Q2 hQ2
  refine wG (Sgc1 V A e) ?_ ?_ ?_
  ·exact ⟨Mut.start _ false _,nB,nB,nB,nB,nB⟩
  ·refine aC ?_ (aC ?_ (aC ?_ (aC ?_ (aC ?_ aN))))
   ·intro L s w2 h hk hd hn K hK
    exact rs_move rfl (hk 0) (hK {h with e0:=rF})
   ·intro L s w2 h hk hd hn K hK
    have s7:=h.e0 hd.1
    go_simp
    exact hK {h with e1:=rF}
   ·intro L s w2 h hk hd hn K hK
    exact rs_field rfl (h.e1 hd.1) (fl_sums _ _) (hK {h with e2:=rF})
   ·intro L s w2 h hk hd hn K hK
    have kb:=kZ h.mu HE
    exact rs_load rfl (h.e2 hd.1) (e_load kb) (hK {h with e3:=rF})
   ·intro L s w2 h hk hd hn K hK
    have s10:=h.e3 hd.1
    go_simp
    exact hK {h with e4:=fun _=>congrArg Value.bool (by simp;exact HNE.out)}
  ·intro L s w2 h hk hl
   refine cA ?_ (hQ2 s w2 (⟨h.mu,h.e4 (hl 4)⟩))
   exact fq hk
 rintro s1 V ⟨h1,k11⟩
 simp only [mergeL]
 rw [k11]
 replace HE:=sm h1 HE
 replace HX:=sm h1 HX
 replace HR:=sm h1 HR
 replace HM:=mE HM h1
 clear h1 k11
 refine HK1.out _ _ ?_
 refine wp_cond_false (by rfl) ?_
 go_wp2_with fail
 refine HKA.out _ _ ?_
 refine wsk fun KB HKB=>?_
 refine wsk fun K3 HK3=>?_
 refine wc (n8 (n8 (some 16::some 17::some 18::some 19::some 20::nn::nn::[]))) (fun s w'=>Mut [] V w'/\s 20=.bool true) ?_ ?_
 ·intro Q2 hQ2
  refine wG (Sgc3 V A e) ?_ ?_ ?_
  ·exact ⟨Mut.start _ false _,nB,nB,nB,nB,nB⟩
  ·refine aC ?_ (aC ?_ (aC ?_ (aC ?_ (aC ?_ aN))))
   ·intro L s w2 h hk hd hn K hK
    exact rs_move rfl (hk 0) (hK {h with e0:=rF})
   ·intro L s w2 h hk hd hn K hK
    have s16:=h.e0 hd.1
    go_simp
    exact hK {h with e1:=rF}
   ·intro L s w2 h hk hd hn K hK
    exact rs_field rfl (h.e1 hd.1) (fl_sums _ _) (hK {h with e2:=rF})
   ·intro L s w2 h hk hd hn K hK
    have kb:=kZ h.mu HE
    exact rs_load rfl (h.e2 hd.1) (e_load kb) (hK {h with e3:=rF})
   ·intro L s w2 h hk hd hn K hK
    have s19:=h.e3 hd.1
    go_simp
    exact hK {h with e4:=fun _=>congrArg Value.bool (by simp;exact HNE.out)}
  ·intro L s w2 h hk hl
   refine cA ?_ (hQ2 s w2 (⟨h.mu,h.e4 (hl 4)⟩))
   exact fq hk
 rintro s3 V ⟨h1,k20⟩
 simp only [mergeL]
 rw [k20]
 replace HE:=sm h1 HE
 replace HX:=sm h1 HX
 replace HR:=sm h1 HR
 replace HM:=mE HM h1
 clear h1 k20
 refine HK3.out _ _ ?_
 refine wp_cond_true (by rfl) ?_
 refine wsk fun K4 HK4=>?_
 refine wc (n8 (n8 (nn::nn::nn::nn::nn::some 21::nn::[]))) (fun _ w'=>Mut [b+1] V w'/\w'.heap[b+1]?=some (cobj 31 ([(0,0)]))) ?_ ?_
 ·intro Q2 hQ2
  refine wG (Sgc4 V b) ?_ ?_ ?_
  ·exact ⟨Mut.start _ false _,fun _=>HR.out,nB,nB⟩
  ·refine aC ?_ (aC ?_ aN)
   ·intro L s w2 h hk hd hn K hK
    go_simp
    exact hK {h with e0:=rF}
   ·intro L s w2 h hk hd hn K hK
    have kb:=h.kt_r hn
    exact rs_store rfl (hk 6) (h.e0 hd.1) (sp_store (p:=0) kb (by simp) _) (hK {h with mu:=h.mu.put (List.Mem.head _) _,kt_r:=nF,kr_r:=fun _=>pH kb})
  ·intro L s w2 h hk hl
   refine cA ?_ (hQ2 s w2 (⟨h.mu,h.kr_r (hl 1)⟩))
   exact fq hk
 rintro s4 V ⟨h1,c_r⟩
 simp only [mergeL]
 replace HE:=j1 h1 HE (by have:=HLT.out;omega)
 replace HX:=j1 h1 HX (by have:=HLT.out;omega)
 replace HR:=lh c_r
 replace HM:=lh (HM.out.stepM h1 (by have:=HBW.out;have:=HLT.out;intro x hx;rw [List.mem_singleton.1 hx];first | exact .inl (List.mem_singleton.2 rfl) | (right;omega)))
 clear h1 c_r
 refine HK4.out _ _ ?_
 go_wp2_with fail
 exact bodyPost_ret (v:=sval ((0,0):Int×Int)) (res_span Tryz.results57 rfl (sp_loadVar HR.out)) rfl ⟨rfl,HE.out,HM.out⟩
theorem rf_got (A:Nat) (e:Int) (x:Int×Int) (n:Int) (w:World) (h:w.heap[A]?=some (iobj 62 e)) :
  Calls Tryz.prog 57 #[.pointer (some ⟨A,0,none⟩),sval x,.int .i64 n] w fun r w'=>r=.returned (sval (gt e (x,n)).1)/\w'.heap[A]?=some (iobj 62 (gt e (x,n)).2)/\Mut [A] w w':=by
 by_cases he:e=0
 ·subst he
  by_cases hn:n=0
  ·subst hn
   rw [gt_ok rfl]
   exact rf_got_a A x w h
  ·rw [gt_bad (x:=(x,n)) hn]
   exact rf_got_b A x n hn w h
 ·rw [gt_err he]
  exact rf_got_c A e x n he w h
structure Soadd1 (V:World) (x:(Int×Int)) (y:(Int×Int)) (L:Nat->Bool) (s:Nat->Value) (w:World):Prop where
 mu:Mut [] V w
 e0:L 0->s 10=sval x
 e1:L 1->s 11=sval y
 e2:L 2->s 12=.tuple #[sval (sAdd x y).1,.int .i64 (sAdd x y).2]
 e3:L 3->s 9=.tuple #[sval (sAdd x y).1,.int .i64 (sAdd x y).2]
 e4:L 4->s 13=sval ((sAdd x y).1)
 e5:L 5->s 14=.int .i64 ((sAdd x y).2)
 al_u:L 6->∃g:Nat,s 7=.pointer (some ⟨g,0,none⟩)/\V.heap.size<=g/\g<w.heap.size/\(L 7=false->w.heap[g]?=some (cobj 31 [(0,0)]))/\(L 7=true->w.heap[g]?=some (cobj 31 [(sAdd x y).1]))
 e8:L 8->s 8=.int .i64 ((sAdd x y).2)
 b7_6:L 7->L 6
structure Soadd2 (V:World) (A:Nat) (e:Int) (x:(Int×Int)) (y:(Int×Int)) (b:Nat) (L:Nat->Bool) (s:Nat->Value) (w:World):Prop where
 mu:Mut [b+1+1,A] V w
 kt_r:L 4=false->w.heap[b+1+1]?=some (cobj 31 ([(0,0)]))
 kr_r:L 4->w.heap[b+1+1]?=some (cobj 31 ([(gt e (sAdd x y)).1]))
 kg_c_0:L 3=false->w.heap[A]?=some (iobj 62 e)
 kg_c_1:L 3->w.heap[A]?=some (iobj 62 ((gt e (sAdd x y)).2))
 e0:L 0->s 15=.pointer (some ⟨A,0,none⟩)
 e1:L 1->s 16=sval ((sAdd x y).1)
 e2:L 2->s 17=.int .i64 ((sAdd x y).2)
 e3:L 3->s 18=sval ((gt e (sAdd x y)).1)
theorem rf_add (A:Nat) (e:Int) (x y:Int×Int) (w:World) (h:w.heap[A]?=some (iobj 62 e)) :
  Calls Tryz.prog 48 #[.pointer (some ⟨A,0,none⟩),sval x,sval y] w fun r w'=>r=.returned (sval (gt e (sAdd x y)).1)/\w'.heap[A]?=some (iobj 62 ((gt e (sAdd x y)).2))/\Mut [A] w w':=by
 have HE0:=lh h
 clear h
 rw [show sval x=.agg #[.int .i64 x.1,.int .i64 x.2] from rfl]
 rw [show sval y=.agg #[.int .i64 y.1,.int .i64 y.2] from rfl]
 go_enter Tryz.func48,Tryz.ntmps48
 refine wsk fun K0 HK0=>?_
 go_wp2_with fail
 obtain ⟨b,hb⟩:∃b,w.heap.size=b:=⟨_,rfl⟩
 have HLT:=lh (show A<b from hb ▸ lt_of_block HE0.out)
 refine HK0.out _ _ ?_
 refine wp_world (fun V=>Mut [A] w V/\V.heap[A]?=some (iobj 62 e)/\V.heap[b]?=some (cobj 31 [x])/\V.heap[b+1]?=some (cobj 31 [y])/\V.heap[b+1+1]?=some (cobj 31 [(0,0)])) ?_
  (by
   rw [←hb]
   exact ⟨((((Mut.refl _ _).alloc _).alloc _).alloc _),heap_up _ (heap_up _ (heap_up _ (HE0.out))),heap_up _ (heap_up _ (heap_at (cobj 31 [x]) (by simp))),heap_up _ (heap_at (cobj 31 [y]) (by simp)),heap_at (cobj 31 [(0,0)]) (by simp)⟩)
 rintro V ⟨hm,hHE,hHX,hHY,hHR⟩
 rw [hb]
 have HM:=lh hm
 have HBW:=lh hb
 have HE:=lh hHE
 have HX:=lh hHX
 have HY:=lh hHY
 have HR:=lh hHR
 clear hm hHE hHX hHY hHR hb HK0 HE0
 refine wsk fun K1 HK1=>?_
 refine wc (nn::nn::nn::nn::nn::nn::nn::some 7::some 8::some 9::some 10::some 11::some 12::some 13::some 14::nn::nn::nn::nn::[]) (fun s w'=>Mut [] V w'/\(∃g:Nat,s 7=.pointer (some ⟨g,0,none⟩)/\V.heap.size<=g/\w'.heap[g]?=some (cobj 31 [(sAdd x y).1]))/\s 8=.int .i64 ((sAdd x y).2)) ?_ ?_
 ·intro Q2 hQ2
  refine wG (Soadd1 V x y) ?_ ?_ ?_
  ·exact ⟨Mut.start _ false _,nB,nB,nB,nB,nB,nB,nB,nB,nB⟩
  ·refine aC ?_ (aC ?_ (aC ?_ (aC ?_ (aC ?_ (aC ?_ (aC ?_ (aC ?_ (aC ?_ aN))))))))
   ·intro L s w2 h hk hd hn K hK
    have kb:=kZ h.mu HX
    exact rs_load rfl (hk 4) (sp_load (p:=0) kb (by simp)) (hK {h with e0:=rF})
   ·intro L s w2 h hk hd hn K hK
    have kb:=kZ h.mu HY
    exact rs_load rfl (hk 5) (sp_load (p:=0) kb (by simp)) (hK {h with e1:=rF})
   ·intro L s w2 h hk hd hn K hK
    have s10:=h.e0 hd.1
    have s11:=h.e1 hd.2.1
    go_simp
    refine (ref2_Add x y _).mono ?_
    rintro e w3 ⟨rfl,hb⟩
    exact .inl ⟨_,rfl,hK {h with mu:=h.mu.step hb,al_u:=fun a=>aS hb (h.al_u a),e2:=rF}⟩
   ·intro L s w2 h hk hd hn K hK
    exact rs_move rfl (h.e2 hd.1) (hK {h with e3:=rF})
   ·intro L s w2 h hk hd hn K hK
    exact rs_extract rfl (h.e3 hd.1) rfl (hK {h with e4:=rF})
   ·intro L s w2 h hk hd hn K hK
    exact rs_extract rfl (h.e3 hd.1) rfl (hK {h with e5:=rF})
   ·intro L s w2 h hk hd hn K hK
    go_simp
    exact hK {h with mu:=h.mu.alloc _,al_u:=fun _=>aW h.mu.size h.b7_6 hn,b7_6:=rF}
   ·intro L s w2 h hk hd hn K hK
    obtain ⟨g,hg0,hg1,hgl,hg2,hg3⟩:=h.al_u hd.1
    have kb:=hg2 hn
    exact rs_store rfl hg0 (h.e4 hd.2.1) (sp_store (p:=0) kb (by simp) _) (hK {h with mu:=h.mu.putNew hg1 _,al_u:=fun _=>aT hg0 hg1 hgl kb,b7_6:=fun _=>hd.1})
   ·intro L s w2 h hk hd hn K hK
    exact rs_assign rfl (h.e5 hd.1) (hK {h with e8:=rF})
  ·intro L s w2 h hk hl
   refine cA ?_ (hQ2 s w2 (⟨h.mu,aE (h.al_u (hl 6)) (hl 7),h.e8 (hl 8)⟩))
   exact fq hk
 rintro s1 V ⟨h1,⟨g0,k_u,g_u,c_u⟩,k8⟩
 simp only [mergeL]
 rw [k_u]
 rw [k8]
 replace HLT:=lh (show b<=g0/\A<g0/\b<g0/\b+1<g0/\b+1+1<g0/\A<b from by
  have hlt:=HLT.out
  have hbw:=HM.out.size
  have hbw2:=HBW.out
  have:=lt_of_block HE.out
  have:=lt_of_block HX.out
  have:=lt_of_block HY.out
  have:=lt_of_block HR.out
  omega)
 replace HE:=sm h1 HE
 replace HX:=sm h1 HX
 replace HY:=sm h1 HY
 replace HR:=sm h1 HR
 have HU:=lh c_u
 replace HM:=mE HM h1
 clear h1 k_u g_u c_u k8
 refine HK1.out _ _ ?_
 refine wsk fun K2 HK2=>?_
 refine wc (n8 (nn::nn::nn::nn::nn::nn::nn::some 15::some 16::some 17::some 18::[])) (fun _ w'=>Mut [b+1+1,A] V w'/\w'.heap[b+1+1]?=some (cobj 31 ([(gt e (sAdd x y)).1]))/\w'.heap[A]?=some (iobj 62 ((gt e (sAdd x y)).2))) ?_ ?_
 ·intro Q2 hQ2
  refine wG (Soadd2 V A e x y b) ?_ ?_ ?_
  ·exact ⟨Mut.start _ false _,fun _=>HR.out,nB,fun _=>HE.out,nB,nB,nB,nB,nB⟩
  ·refine aC ?_ (aC ?_ (aC ?_ (aC ?_ (aC ?_ aN))))
   ·intro L s w2 h hk hd hn K hK
    exact rs_move rfl (hk 0) (hK {h with e0:=rF})
   ·intro L s w2 h hk hd hn K hK
    have kb:=kX h.mu HU (by have:=HLT.out;have:=lt_of_block HE.out;omega) (by have:=HLT.out;have:=lt_of_block HE.out;omega)
    exact rs_load rfl (hk 7) (sp_load (p:=0) kb (by simp)) (hK {h with e1:=rF})
   ·intro L s w2 h hk hd hn K hK
    exact rs_move rfl (hk 8) (hK {h with e2:=rF})
   ·intro L s w2 h hk hd hn K hK
    have s15:=h.e0 hd.1
    have s16:=h.e1 hd.2.1
    have s17:=h.e2 hd.2.2.1
    have kb:=h.kg_c_0 hn
    go_simp
    refine (rf_got _ e (sAdd x y).1 (sAdd x y).2 _ kb).mono ?_
    rintro e w3 ⟨rfl,hkr,hb⟩
    exact .inl ⟨_,rfl,hK {h with mu:=mS h.mu hb (List.Mem.tail _ (List.Mem.head _)),kt_r:=fun a=>hS hb (by have:=HLT.out;have:=lt_of_block HE.out;omega) (h.kt_r a),kr_r:=fun a=>hS hb (by have:=HLT.out;have:=lt_of_block HE.out;omega) (h.kr_r a),kg_c_0:=nF,kg_c_1:=fun _=>hkr,e3:=rF}⟩
   ·intro L s w2 h hk hd hn K hK
    have kb:=h.kt_r hn
    exact rs_store rfl (hk 6) (h.e3 hd.1) (sp_store (p:=0) kb (by simp) _) (hK {h with mu:=h.mu.put (List.Mem.head _) _,kg_c_0:=fun a=>pO (by have:=HLT.out;have:=lt_of_block HE.out;omega) (h.kg_c_0 a),kg_c_1:=fun a=>pO (by have:=HLT.out;have:=lt_of_block HE.out;omega) (h.kg_c_1 a),kt_r:=nF,kr_r:=fun _=>pH kb})
  ·intro L s w2 h hk hl
   refine cA ?_ (hQ2 s w2 (⟨h.mu,h.kr_r (hl 4),h.kg_c_1 (hl 3)⟩))
   exact fq hk
 rintro s2 V ⟨h1,c_r,c_c⟩
 simp only [mergeL]
 replace HE:=lh c_c
 replace HX:=j2 h1 HX (by have:=HLT.out;omega) (by have:=HLT.out;omega)
 replace HY:=j2 h1 HY (by have:=HLT.out;omega) (by have:=HLT.out;omega)
 replace HR:=lh c_r
 replace HU:=j2 h1 HU (by have:=HLT.out;omega) (by have:=HLT.out;omega)
 replace HM:=lh (HM.out.stepM h1 (by have:=HBW.out;have:=HLT.out;intro x hx;simp only [List.mem_cons,List.not_mem_nil,or_false] at hx;rcases hx with rfl | rfl<;>first | exact .inl (List.mem_singleton.2 rfl) | (right;omega)))
 clear h1 c_r c_c
 refine HK2.out _ _ ?_
 refine wp_ret ?_
 exact bodyPost_ret (v:=sval (gt e (sAdd x y)).1) (res_span Tryz.results48 rfl (sp_loadVar HR.out)) rfl ⟨rfl,HE.out,HM.out⟩
structure Somul1 (V:World) (x:(Int×Int)) (y:(Int×Int)) (L:Nat->Bool) (s:Nat->Value) (w:World):Prop where
 mu:Mut [] V w
 e0:L 0->s 10=sval x
 e1:L 1->s 11=sval y
 e2:L 2->s 12=.tuple #[sval (sMul x y).1,.int .i64 (sMul x y).2]
 e3:L 3->s 9=.tuple #[sval (sMul x y).1,.int .i64 (sMul x y).2]
 e4:L 4->s 13=sval ((sMul x y).1)
 e5:L 5->s 14=.int .i64 ((sMul x y).2)
 al_u:L 6->∃g:Nat,s 7=.pointer (some ⟨g,0,none⟩)/\V.heap.size<=g/\g<w.heap.size/\(L 7=false->w.heap[g]?=some (cobj 31 [(0,0)]))/\(L 7=true->w.heap[g]?=some (cobj 31 [(sMul x y).1]))
 e8:L 8->s 8=.int .i64 ((sMul x y).2)
 b7_6:L 7->L 6
structure Somul2 (V:World) (A:Nat) (e:Int) (x:(Int×Int)) (y:(Int×Int)) (b:Nat) (L:Nat->Bool) (s:Nat->Value) (w:World):Prop where
 mu:Mut [b+1+1,A] V w
 kt_r:L 4=false->w.heap[b+1+1]?=some (cobj 31 ([(0,0)]))
 kr_r:L 4->w.heap[b+1+1]?=some (cobj 31 ([(gt e (sMul x y)).1]))
 kg_c_0:L 3=false->w.heap[A]?=some (iobj 62 e)
 kg_c_1:L 3->w.heap[A]?=some (iobj 62 ((gt e (sMul x y)).2))
 e0:L 0->s 15=.pointer (some ⟨A,0,none⟩)
 e1:L 1->s 16=sval ((sMul x y).1)
 e2:L 2->s 17=.int .i64 ((sMul x y).2)
 e3:L 3->s 18=sval ((gt e (sMul x y)).1)
theorem rf_mul (A:Nat) (e:Int) (x y:Int×Int) (w:World) (h:w.heap[A]?=some (iobj 62 e)) :
  Calls Tryz.prog 56 #[.pointer (some ⟨A,0,none⟩),sval x,sval y] w fun r w'=>r=.returned (sval (gt e (sMul x y)).1)/\w'.heap[A]?=some (iobj 62 ((gt e (sMul x y)).2))/\Mut [A] w w':=by
 have HE0:=lh h
 clear h
 rw [show sval x=.agg #[.int .i64 x.1,.int .i64 x.2] from rfl]
 rw [show sval y=.agg #[.int .i64 y.1,.int .i64 y.2] from rfl]
 go_enter Tryz.func56,Tryz.ntmps56
 refine wsk fun K0 HK0=>?_
 go_wp2_with fail
 obtain ⟨b,hb⟩:∃b,w.heap.size=b:=⟨_,rfl⟩
 have HLT:=lh (show A<b from hb ▸ lt_of_block HE0.out)
 refine HK0.out _ _ ?_
 refine wp_world (fun V=>Mut [A] w V/\V.heap[A]?=some (iobj 62 e)/\V.heap[b]?=some (cobj 31 [x])/\V.heap[b+1]?=some (cobj 31 [y])/\V.heap[b+1+1]?=some (cobj 31 [(0,0)])) ?_
  (by
   rw [←hb]
   exact ⟨((((Mut.refl _ _).alloc _).alloc _).alloc _),heap_up _ (heap_up _ (heap_up _ (HE0.out))),heap_up _ (heap_up _ (heap_at (cobj 31 [x]) (by simp))),heap_up _ (heap_at (cobj 31 [y]) (by simp)),heap_at (cobj 31 [(0,0)]) (by simp)⟩)
 rintro V ⟨hm,hHE,hHX,hHY,hHR⟩
 rw [hb]
 have HM:=lh hm
 have HBW:=lh hb
 have HE:=lh hHE
 have HX:=lh hHX
 have HY:=lh hHY
 have HR:=lh hHR
 clear hm hHE hHX hHY hHR hb HK0 HE0
 refine wsk fun K1 HK1=>?_
 refine wc (nn::nn::nn::nn::nn::nn::nn::some 7::some 8::some 9::some 10::some 11::some 12::some 13::some 14::nn::nn::nn::nn::[]) (fun s w'=>Mut [] V w'/\(∃g:Nat,s 7=.pointer (some ⟨g,0,none⟩)/\V.heap.size<=g/\w'.heap[g]?=some (cobj 31 [(sMul x y).1]))/\s 8=.int .i64 ((sMul x y).2)) ?_ ?_
 ·intro Q2 hQ2
  refine wG (Somul1 V x y) ?_ ?_ ?_
  ·exact ⟨Mut.start _ false _,nB,nB,nB,nB,nB,nB,nB,nB,nB⟩
  ·refine aC ?_ (aC ?_ (aC ?_ (aC ?_ (aC ?_ (aC ?_ (aC ?_ (aC ?_ (aC ?_ aN))))))))
   ·intro L s w2 h hk hd hn K hK
    have kb:=kZ h.mu HX
    exact rs_load rfl (hk 4) (sp_load (p:=0) kb (by simp)) (hK {h with e0:=rF})
   ·intro L s w2 h hk hd hn K hK
    have kb:=kZ h.mu HY
    exact rs_load rfl (hk 5) (sp_load (p:=0) kb (by simp)) (hK {h with e1:=rF})
   ·intro L s w2 h hk hd hn K hK
    have s10:=h.e0 hd.1
    have s11:=h.e1 hd.2.1
    go_simp
    refine (ref2_Mul x y _).mono ?_
    rintro e w3 ⟨rfl,hb⟩
    exact .inl ⟨_,rfl,hK {h with mu:=h.mu.step hb,al_u:=fun a=>aS hb (h.al_u a),e2:=rF}⟩
   ·intro L s w2 h hk hd hn K hK
    exact rs_move rfl (h.e2 hd.1) (hK {h with e3:=rF})
   ·intro L s w2 h hk hd hn K hK
    exact rs_extract rfl (h.e3 hd.1) rfl (hK {h with e4:=rF})
   ·intro L s w2 h hk hd hn K hK
    exact rs_extract rfl (h.e3 hd.1) rfl (hK {h with e5:=rF})
   ·intro L s w2 h hk hd hn K hK
    go_simp
    exact hK {h with mu:=h.mu.alloc _,al_u:=fun _=>aW h.mu.size h.b7_6 hn,b7_6:=rF}
   ·intro L s w2 h hk hd hn K hK
    obtain ⟨g,hg0,hg1,hgl,hg2,hg3⟩:=h.al_u hd.1
    have kb:=hg2 hn
    exact rs_store rfl hg0 (h.e4 hd.2.1) (sp_store (p:=0) kb (by simp) _) (hK {h with mu:=h.mu.putNew hg1 _,al_u:=fun _=>aT hg0 hg1 hgl kb,b7_6:=fun _=>hd.1})
   ·intro L s w2 h hk hd hn K hK
    exact rs_assign rfl (h.e5 hd.1) (hK {h with e8:=rF})
  ·intro L s w2 h hk hl
   refine cA ?_ (hQ2 s w2 (⟨h.mu,aE (h.al_u (hl 6)) (hl 7),h.e8 (hl 8)⟩))
   exact fq hk
 rintro s1 V ⟨h1,⟨g0,k_u,g_u,c_u⟩,k8⟩
 simp only [mergeL]
 rw [k_u]
 rw [k8]
 replace HLT:=lh (show b<=g0/\A<g0/\b<g0/\b+1<g0/\b+1+1<g0/\A<b from by
  have hlt:=HLT.out
  have hbw:=HM.out.size
  have hbw2:=HBW.out
  have:=lt_of_block HE.out
  have:=lt_of_block HX.out
  have:=lt_of_block HY.out
  have:=lt_of_block HR.out
  omega)
 replace HE:=sm h1 HE
 replace HX:=sm h1 HX
 replace HY:=sm h1 HY
 replace HR:=sm h1 HR
 have HU:=lh c_u
 replace HM:=mE HM h1
 clear h1 k_u g_u c_u k8
 refine HK1.out _ _ ?_
 refine wsk fun K2 HK2=>?_
 refine wc (n8 (nn::nn::nn::nn::nn::nn::nn::some 15::some 16::some 17::some 18::[])) (fun _ w'=>Mut [b+1+1,A] V w'/\w'.heap[b+1+1]?=some (cobj 31 ([(gt e (sMul x y)).1]))/\w'.heap[A]?=some (iobj 62 ((gt e (sMul x y)).2))) ?_ ?_
 ·intro Q2 hQ2
  refine wG (Somul2 V A e x y b) ?_ ?_ ?_
  ·exact ⟨Mut.start _ false _,fun _=>HR.out,nB,fun _=>HE.out,nB,nB,nB,nB,nB⟩
  ·refine aC ?_ (aC ?_ (aC ?_ (aC ?_ (aC ?_ aN))))
   ·intro L s w2 h hk hd hn K hK
    exact rs_move rfl (hk 0) (hK {h with e0:=rF})
   ·intro L s w2 h hk hd hn K hK
    have kb:=kX h.mu HU (by have:=HLT.out;have:=lt_of_block HE.out;omega) (by have:=HLT.out;have:=lt_of_block HE.out;omega)
    exact rs_load rfl (hk 7) (sp_load (p:=0) kb (by simp)) (hK {h with e1:=rF})
   ·intro L s w2 h hk hd hn K hK
    exact rs_move rfl (hk 8) (hK {h with e2:=rF})
   ·intro L s w2 h hk hd hn K hK
    have s15:=h.e0 hd.1
    have s16:=h.e1 hd.2.1
    have s17:=h.e2 hd.2.2.1
    have kb:=h.kg_c_0 hn
    go_simp
    refine (rf_got _ e (sMul x y).1 (sMul x y).2 _ kb).mono ?_
    rintro e w3 ⟨rfl,hkr,hb⟩
    exact .inl ⟨_,rfl,hK {h with mu:=mS h.mu hb (List.Mem.tail _ (List.Mem.head _)),kt_r:=fun a=>hS hb (by have:=HLT.out;have:=lt_of_block HE.out;omega) (h.kt_r a),kr_r:=fun a=>hS hb (by have:=HLT.out;have:=lt_of_block HE.out;omega) (h.kr_r a),kg_c_0:=nF,kg_c_1:=fun _=>hkr,e3:=rF}⟩
   ·intro L s w2 h hk hd hn K hK
    have kb:=h.kt_r hn
    exact rs_store rfl (hk 6) (h.e3 hd.1) (sp_store (p:=0) kb (by simp) _) (hK {h with mu:=h.mu.put (List.Mem.head _) _,kg_c_0:=fun a=>pO (by have:=HLT.out;have:=lt_of_block HE.out;omega) (h.kg_c_0 a),kg_c_1:=fun a=>pO (by have:=HLT.out;have:=lt_of_block HE.out;omega) (h.kg_c_1 a),kt_r:=nF,kr_r:=fun _=>pH kb})
  ·intro L s w2 h hk hl
   refine cA ?_ (hQ2 s w2 (⟨h.mu,h.kr_r (hl 4),h.kg_c_1 (hl 3)⟩))
   exact fq hk
 rintro s2 V ⟨h1,c_r,c_c⟩
 simp only [mergeL]
 replace HE:=lh c_c
 replace HX:=j2 h1 HX (by have:=HLT.out;omega) (by have:=HLT.out;omega)
 replace HY:=j2 h1 HY (by have:=HLT.out;omega) (by have:=HLT.out;omega)
 replace HR:=lh c_r
 replace HU:=j2 h1 HU (by have:=HLT.out;omega) (by have:=HLT.out;omega)
 replace HM:=lh (HM.out.stepM h1 (by have:=HBW.out;have:=HLT.out;intro x hx;simp only [List.mem_cons,List.not_mem_nil,or_false] at hx;rcases hx with rfl | rfl<;>first | exact .inl (List.mem_singleton.2 rfl) | (right;omega)))
 clear h1 c_r c_c
 refine HK2.out _ _ ?_
 refine wp_ret ?_
 exact bodyPost_ret (v:=sval (gt e (sMul x y)).1) (res_span Tryz.results56 rfl (sp_loadVar HR.out)) rfl ⟨rfl,HE.out,HM.out⟩
theorem place_inj:∀i j i0 j0:Fin 6,i.1+j.1<=5->i0.1+j0.1<=5->tPlace i.1 j.1=tPlace i0.1 j0.1->i.1=i0.1/\j.1=j0.1:=by decide +kernel
theorem place_le:∀i j:Fin 6,i.1+j.1<=5->tPlace i.1 j.1<=20:=by decide
theorem rf_exps (i0 j0:Nat) (h:i0+j0<=5) (w:World):Calls Tryz.prog 67 #[.int .i64 ((tPlace i0 j0:Nat):Int)] w fun e w'=>e=.returned (.tuple #[.int .i64 (i0:Int),.int .i64 (j0:Int)])/\Below w.heap.size w w':=by
 have H0:=lh h
 have HP:=lh (show ∀i j:Nat,i+j<=5->tPlace i j=tPlace i0 j0->i=i0/\j=j0 from fun i j hij e=>place_inj ⟨i,by omega⟩ ⟨j,by omega⟩ ⟨i0,by omega⟩ ⟨j0,by omega⟩ hij h e)
 obtain ⟨P,hP⟩:∃P:Int,((tPlace i0 j0:Nat):Int)=P:=⟨_,rfl⟩
 rw [hP]
 have HPP:=lh hP
 have p0:(0:Int)<=P:=by omega
 have p9:P<=20:=by have:=place_le ⟨i0,by omega⟩ ⟨j0,by omega⟩ h;dsimp only at this;omega
 clear h hP
 go_enter Tryz.func67,Tryz.ntmps67
 go_wp2_with fail
 go_loopw [4] (fun x wr=>∃s:Nat,s<=i0+j0/\x=.int .i64 s/\Hid (Below w.heap.size w wr)) (fun x _=>6-(intOf x).toNat)
 case atStart=>exact ⟨0,by omega,rfl,lh (Below.refl _ _)⟩
 case round =>
  obtain ⟨s,hs,rfl,HG⟩:=hrel
  have HS:=lh (show s<=i0+j0/\s<=5 from ⟨hs,by have:=H0.out;omega⟩)
  have s0:(0:Int)<=s:=by omega
  have s9:(s:Int)<=5:=by have:=HS.out.2;omega
  have t1:decide ((s:Int)<=5)=true:=by simp;omega
  clear hs
  go_wp2_with fail
  go_loopw [5] (fun x wr=>∃i:Nat,i<=s+1/\(s=i0+j0->i<=i0)/\x=.int .i64 i/\Hid (Below w.heap.size w wr)) (fun x _=>s+1-(intOf x).toNat)
  case atStart=>exact ⟨0,by omega,fun _=>by omega,rfl,HG⟩
  case round =>
   obtain ⟨i,hi,hi2,rfl,HG2⟩:=hrel
   have HI:=lh hi2
   have i0':(0:Int)<=i:=by omega
   have i9:(i:Int)<=6:=by omega
   rcases Nat.lt_or_ge s i with hk | hk
   ·have t2:decide (i<=s)=false:=by simp;omega
    have HN:=lh (show s<i0+j0 by
     have:=HS.out.1
     have:=HI.out
     omega)
    clear hk hi hi2
    go_wp2_with fail
    go_roundw
    case rel=>first | exact ⟨s+1,by have:=HN.out;omega,by go_num,HG2⟩ | ((repeat apply Exists.intro);exact ⟨⟨s+1,by have:=HN.out;omega,by go_num,HG2⟩,rfl⟩)
    case measure=>simp [intOf];have:=HS.out;omega
   ·have t2:decide (i<=s)=true:=by simp;omega
    obtain ⟨j,hj⟩:∃j,s-i=j:=⟨_,rfl⟩
    have es:(s:Int)-(i:Int)=(j:Int):=by omega
    have HJ:=lh (show s=i+j by omega)
    have j0':(0:Int)<=j:=by omega
    have j9:(j:Int)<=5:=by omega
    have wj:IntKind.i64.wrap (j:Int)=(j:Int):=by simp [IntKind.wrap,IntKind.bits,IntKind.signed];omega
    clear hk hi hi2 hj
    go_wp2_with fail
    refine (rf_place i j (by have:=HJ.out;have:=HS.out;omega) _).mono ?_
    rintro e w2 ⟨rfl,hb⟩
    have HB:=lh (below_step HG2.out hb)
    clear hb
    obtain ⟨Q,hQ⟩:∃Q:Int,((tPlace i j:Nat):Int)=Q:=⟨_,rfl⟩
    rw [hQ]
    have q0:(0:Int)<=Q:=by omega
    have q9:Q<=20:=by have:=place_le ⟨i,by have:=HJ.out;have:=HS.out;omega⟩ ⟨j,by have:=HJ.out;have:=HS.out;omega⟩ (by have:=HJ.out;have:=HS.out;dsimp only;omega);dsimp only at this;omega
    by_cases hq:Q=P
    ·have HF:=lh (HP.out i j (by have:=HJ.out;have:=HS.out;omega) (by have:=HPP.out;omega))
     have t3:(Q==P)=true:=by simp;omega
     clear hq hQ
     go_wp2_with fail
     exact bodyPost_ret (v:=.tuple #[.int .i64 (i:Int),.int .i64 (j:Int)]) (by simp [results,Tryz.results67,go_sem]) rfl ⟨by rw [HF.out.1,HF.out.2],HB.out⟩
    ·have t3:(Q==P)=false:=by simp;omega
     have HNE:=lh (show s=i0+j0->i<i0 from fun e=>by
      have h1:=HI.out e
      have h2:=HJ.out
      rcases Nat.lt_or_ge i i0 with h | h
      ·exact h
      ·have e1:i=i0:=by omega
       have e2:j=j0:=by omega
       exact absurd (by rw [←hQ,e1,e2];exact HPP.out) hq)
     clear hq hQ
     go_wp2_with fail
     go_roundw
     case rel=>first | exact ⟨i+1,by have:=HJ.out;omega,fun e=>by have:=HNE.out e;omega,by go_num,HB⟩ | ((repeat apply Exists.intro);exact ⟨⟨i+1,by have:=HJ.out;omega,fun e=>by have:=HNE.out e;omega,by go_num,HB⟩,rfl⟩)
     case measure=>simp [intOf];have:=HJ.out;omega
theorem rf_rang (i j:Nat) (hi:i<=10) (hj:j<=10) (w:World):Calls Tryz.prog 69 #[.int .i64 (i:Int),.int .i64 (j:Int)] w fun e w'=>e=.returned (sval (tReach i j))/\Below w.heap.size w w':=by
 have i0:(0:Int)<=i:=by omega
 have i9:(i:Int)<=10:=by omega
 have j0:(0:Int)<=j:=by omega
 have j9:(j:Int)<=10:=by omega
 have ei:(i:Int).tmod 2=((i % 2:Nat):Int):=by rw [Int.tmod_eq_emod_of_nonneg i0];rfl
 have ej:(j:Int).tmod 2=((j % 2:Nat):Int):=by rw [Int.tmod_eq_emod_of_nonneg j0];rfl
 by_cases h:i+j=0
 ·obtain rfl:i=0:=by omega
  obtain rfl:j=0:=by omega
  rw [show tReach 0 0=(4294967296,4294967296) from rfl]
  go_enter Tryz.func69,Tryz.ntmps69
  go_wp2_with fail
  refine (rf_point 4294967296 _).mono ?_
  rintro e w2 ⟨rfl,hb⟩
  have hr:w2.heap[w.heap.size]?=some (.cells #[.int .i64 0,.int .i64 0] 31 (0,0)):=(hb.block _ (by simp)).trans (heap_at _ rfl)
  have hf:∀o,w2.frozen? ⟨w.heap.size,o,none⟩=false:=fun o=>by simp [World.frozen?,hr]
  have hB:=below_step (below_alloc (Below.refl w.heap.size w) (.cells #[.int .i64 0,.int .i64 0] 31)) hb
  have g:(w2.setCell ⟨w.heap.size,0,none⟩ (.int .i64 4294967296)).heap[w.heap.size]?=some (.cells #[.int .i64 4294967296,.int .i64 0] 31 (0,0)):=by rw [setCell_put hr];exact World.putObj_heap_same (lt_of_block hr)
  have c0:=cell_two0 hr
  have c1:=cell_two1 g
  have hg:∀o,(w2.setCell ⟨w.heap.size,0,none⟩ (.int .i64 4294967296)).frozen? ⟨w.heap.size,o,none⟩=false:=fun o=>by simp [World.frozen?,g]
  have g2:((w2.setCell ⟨w.heap.size,0,none⟩ (.int .i64 4294967296)).setCell ⟨w.heap.size,1,none⟩ (.int .i64 4294967296)).heap[w.heap.size]?=some (.cells #[.int .i64 4294967296,.int .i64 4294967296] 31 (0,0)):=by rw [setCell_put g];exact World.putObj_heap_same (lt_of_block g)
  have d0:=cell_two0 g2
  have d1:=cell_two1 g2
  unfold sval
  go_wp2_with fail
  exact bodyPost_ret (v:=sval (4294967296,4294967296)) (by simp [results,Tryz.results69,go_sem,sval,d0,d1]) rfl ⟨rfl,(hB.setCell (Nat.le_refl _) _).setCell (Nat.le_refl _) _⟩
 ·by_cases k:i % 2=0/\j % 2=0
  ·rw [show tReach i j=(0,4294967296) by unfold tReach;rw [if_neg h,if_pos k]]
   have HH:=lh h
   obtain ⟨e1,e2⟩:=k
   clear h
   rw [e1] at ei
   rw [e2] at ej
   by_cases hi0:i=0
   ·subst hi0
    have t1:((j:Int)==0)=false:=by have:=HH.out;simp;omega
    clear e1 e2
    go_enter Tryz.func69,Tryz.ntmps69
    go_wp2_with fail
    exact bodyPost_ret (v:=sval (0,4294967296)) (by simp [results,Tryz.results69,go_sem,sval]) rfl ⟨rfl,below_alloc (Below.refl _ _) _⟩
   ·have t1:((i:Int)==0)=false:=by simp;omega
    clear e1 e2 hi0
    go_enter Tryz.func69,Tryz.ntmps69
    go_wp2_with fail
    exact bodyPost_ret (v:=sval (0,4294967296)) (by simp [results,Tryz.results69,go_sem,sval]) rfl ⟨rfl,below_alloc (Below.refl _ _) _⟩
  ·rw [show tReach i j=(-4294967296,4294967296) by unfold tReach;rw [if_neg h,if_neg k]]
   have HH:=lh h
   have HK:=lh k
   clear h k
   by_cases hi0:i=0
   ·subst hi0
    have t1:((j:Int)==0)=false:=by have:=HH.out;simp;omega
    rw [show j % 2=1 by have:=HK.out;omega] at ej
    go_enter Tryz.func69,Tryz.ntmps69
    go_wp2_with fail
    exact bodyPost_ret (v:=sval (-4294967296,4294967296)) (by simp [results,Tryz.results69,go_sem,sval]) rfl ⟨rfl,below_alloc (Below.refl _ _) _⟩
   ·have t1:((i:Int)==0)=false:=by simp;omega
    clear hi0
    by_cases e:i % 2=0
    ·rw [e] at ei
     rw [show j % 2=1 by have:=HK.out;omega] at ej
     clear e
     go_enter Tryz.func69,Tryz.ntmps69
     go_wp2_with fail
     exact bodyPost_ret (v:=sval (-4294967296,4294967296)) (by simp [results,Tryz.results69,go_sem,sval]) rfl ⟨rfl,below_alloc (Below.refl _ _) _⟩
    ·rw [show i % 2=1 by omega] at ei
     clear e
     go_enter Tryz.func69,Tryz.ntmps69
     go_wp2_with fail
     exact bodyPost_ret (v:=sval (-4294967296,4294967296)) (by simp [results,Tryz.results69,go_sem,sval]) rfl ⟨rfl,below_alloc (Below.refl _ _) _⟩
theorem pairs_at:∀p:Fin 21,∃i j:Fin 6,tPairs.drop p.1=(i.1,j.1)::tPairs.drop (p.1+1)/\i.1+j.1<=5/\tPlace i.1 j.1=p.1:=by decide +kernel
theorem pairs_at' {p:Nat} (hp:p<21):∃i j:Nat,tPairs.drop p=(i,j)::tPairs.drop (p+1)/\i+j<=5/\tPlace i j=p:=by
 obtain ⟨i,j,h⟩:=pairs_at ⟨p,hp⟩
 exact ⟨i.1,j.1,h⟩
theorem rf_expsP {i j p:Nat} (hp:tPlace i j=p) (h:i+j<=5) (w:World):Calls Tryz.prog 67 #[.int .i64 (p:Int)] w fun e w'=>e=.returned (.tuple #[.int .i64 (i:Int),.int .i64 (j:Int)])/\Below w.heap.size w w':=by
 subst hp
 exact rf_exps i j h w
structure Zw5 (V:World) (p:Nat) (i:Nat) (j:Nat) (L:Nat->Bool) (s:Nat->Value) (w:World):Prop where
 mu:Mut [] V w
 e0:L 0->s 14=.int .i64 ((p:Nat):Int)
 e1:L 1->s 15=.tuple #[.int .i64 ((i:Nat):Int),.int .i64 ((j:Nat):Int)]
 e2:L 2->s 13=.tuple #[.int .i64 ((i:Nat):Int),.int .i64 ((j:Nat):Int)]
 e3:L 3->s 16=.int .i64 ((i:Nat):Int)
 e4:L 4->s 17=.int .i64 ((j:Nat):Int)
 e5:L 5->s 7=.int .i64 ((i:Nat):Int)
 e6:L 6->s 8=.int .i64 ((j:Nat):Int)
structure Zw6 (V:World) (A:Nat) (a:List (Int×Int)) (b:Nat) (g0:Nat) (t:(Int×Int)) (ee:Int) (p:Nat) (i:Nat) (j:Nat) (L:Nat->Bool) (s:Nat->Value) (w:World):Prop where
 mu:Mut [g0,A] V w
 kt_s:L 12=false->w.heap[g0]?=some (cobj 31 ([t]))
 kr_s:L 12->w.heap[g0]?=some (cobj 31 ([(gt (gt ee (sMul (tAt a p) (tReach i j))).2 (sAdd t (gt ee (sMul (tAt a p) (tReach i j))).1)).1]))
 kg_c_0:L 10=false->w.heap[A]?=some (iobj 62 ee)
 kg_c_1:L 10->L 11=false->w.heap[A]?=some (iobj 62 ((gt ee (sMul (tAt a p) (tReach i j))).2))
 kg_c_2:L 11->w.heap[A]?=some (iobj 62 ((gt ((gt ee (sMul (tAt a p) (tReach i j))).2) (sAdd t ((gt ee (sMul (tAt a p) (tReach i j))).1))).2))
 e0:L 0->s 18=.pointer (some ⟨A,0,none⟩)
 e1:L 1->s 19=sval t
 e2:L 2->s 20=.pointer (some ⟨A,0,none⟩)
 e3:L 3->s 21=.int .i64 ((p:Nat):Int)
 e4:L 4->s 22=.pointer (some ⟨b,0,none⟩)
 e5:L 5->s 23=.pointer (some ⟨b,p*2,none⟩)
 e6:L 6->s 24=sval (tAt a p)
 e7:L 7->s 25=.int .i64 ((i:Nat):Int)
 e8:L 8->s 26=.int .i64 ((j:Nat):Int)
 e9:L 9->s 27=sval (tReach i j)
 e10:L 10->s 28=sval ((gt ee (sMul (tAt a p) (tReach i j))).1)
 e11:L 11->s 29=sval ((gt ((gt ee (sMul (tAt a p) (tReach i j))).2) (sAdd t ((gt ee (sMul (tAt a p) (tReach i j))).1))).1)
 b12_1:L 12->L 1
 b11_10:L 11->L 10
structure Zw7 (V:World) (b:Nat) (t:(Int×Int)) (L:Nat->Bool) (s:Nat->Value) (w:World):Prop where
 mu:Mut [b+1] V w
 kt_r:L 1=false->w.heap[b+1]?=some (cobj 31 ([(0,0)]))
 kr_r:L 1->w.heap[b+1]?=some (cobj 31 ([t]))
 e0:L 0->s 30=sval t
theorem rf_sweep (A:Nat) (e:Int) (a:List (Int×Int)) (ha:a.length=22) (w:World) (h:w.heap[A]?=some (iobj 62 e)) :
  Calls Tryz.prog 70 #[.pointer (some ⟨A,0,none⟩),mval a] w fun r w'=>r=.returned (sval (gt e (tSweep a)).1)/\w'.heap[A]?=some (iobj 62 ((gt e (tSweep a)).2))/\Mut [A] w w':=by
 have HE0:=lh h
 clear h
 have HL:=lh ha
 clear ha
 rw [←rSweep_eq]
 go_enter Tryz.func70,Tryz.ntmps70
 refine wsk fun K0 HK0=>?_
 go_wp2_with fail
 rename_i x1 cs1 hc1
 obtain rfl:(mc a).toArray=cs1:=Value.agg.inj hc1
 clear hc1
 obtain ⟨b,hb⟩:∃b,w.heap.size=b:=⟨_,rfl⟩
 have HLT:=lh (show A<b from hb ▸ lt_of_block HE0.out)
 refine HK0.out _ _ ?_
 refine wp_world (fun V=>Mut [A] w V/\V.heap[A]?=some (iobj 62 e)/\V.heap[b]?=some (cobj 34 a)/\V.heap[b+1]?=some (cobj 31 [(0,0)])) ?_
  (by
   rw [←hb]
   exact ⟨(((Mut.refl _ _).alloc _).alloc _),heap_up _ (heap_up _ (HE0.out)),heap_up _ (heap_at (cobj 34 a) (by simp)),heap_at (cobj 31 [(0,0)]) (by simp)⟩)
 rintro V ⟨hm,hHE,hHA,hHR⟩
 rw [hb]
 have HM:=lh hm
 have HBW:=lh hb
 have HE:=lh hHE
 have HA:=lh hHA
 have HR:=lh hHR
 clear hm hHE hHA hHR hb HK0 HE0
 refine wsk fun K1 HK1=>?_
 go_wp2_with fail
 refine HK1.out _ _ ?_
 obtain ⟨g0,hg⟩:∃g,V.heap.size=g:=⟨_,rfl⟩
 refine wp_world (fun V2=>Mut [A] w V2/\b<=g0/\V2.heap[A]?=some (iobj 62 e)/\V2.heap[b]?=some (cobj 34 a)/\V2.heap[b+1]?=some (cobj 31 ([(0,0)]))/\V2.heap[g0]?=some (cobj 31 ([(0,0)]))) ?_
  (by
   rw [←hg]
   exact ⟨HM.out.alloc _,by have:=HM.out.size;have:=HBW.out;omega,heap_up _ HE.out,heap_up _ HA.out,heap_up _ HR.out,heap_at (cobj 31 ([(0,0)])) (by simp)⟩)
 replace HLT:=lh (show b<=g0/\A<g0/\b<g0/\b+1<g0/\A<b from by
  have hlt:=HLT.out
  have hbw:=HM.out.size
  have hbw2:=HBW.out
  have:=lt_of_block HE.out
  have:=lt_of_block HA.out
  have:=lt_of_block HR.out
  omega)
 rintro V2 ⟨hm,-,qHE,qHA,qHR,hnew⟩
 rw [hg]
 replace HM:=lh hm
 replace HE:=lh qHE
 replace HA:=lh qHA
 replace HR:=lh qHR
 have HS:=lh hnew
 clear hm hnew hg qHE qHA qHR HK1
 clear V
 rename World=>V
 refine wsk fun KL HKL=>?_
 go_wp2_with fail
 go_loopw [6] (fun x wr=>∃p:Nat,p<=21/\x=.int .i64 p/\Hid (∃(t:Int×Int) (ee:Int),Mut [g0,A] V wr/\wr.heap[A]?=some (iobj 62 ee)/\wr.heap[g0]?=some (cobj 31 [t])/\rSweepFrom a (tPairs.drop p) p (t,ee)=rSweep a e)) (fun x _=>21-(intOf x).toNat)
 case atStart=>exact ⟨0,by omega,rfl,lh ⟨(0,0),e,Mut.refl _ _,HE.out,HS.out,rfl⟩⟩
 case round =>
  obtain ⟨p,hp,rfl,HG⟩:=hrel
  obtain ⟨t,ee,hmu,hE,hS,hq⟩:=HG.out
  have HQ:=lh hq
  clear hq HG
  have hm2:=HM.out.stepM hmu (by have:=HBW.out;have:=HLT.out;intro x hx;simp only [List.mem_cons,List.not_mem_nil,or_false] at hx;rcases hx with rfl | rfl<;>first | exact .inl (List.mem_singleton.2 rfl) | (right;omega))
  refine wp_world (fun U=>Mut [A] w U/\Mut [g0,A] V U/\U.heap[A]?=some (iobj 62 ee)/\U.heap[b]?=some (cobj 34 a)/\U.heap[b+1]?=some (cobj 31 ([(0,0)]))/\U.heap[g0]?=some (cobj 31 ([t]))) ?_ ⟨hm2,hmu,hE,((hmu.same _ (lt_of_block HA.out) (notin2 (by have:=HLT.out;omega) (by have:=HLT.out;omega))).trans HA.out),((hmu.same _ (lt_of_block HR.out) (notin2 (by have:=HLT.out;omega) (by have:=HLT.out;omega))).trans HR.out),hS⟩
  clear hm2 HM HE HA HR HS hmu hE hS
  rintro V ⟨q1,q2,qHE,qHA,qHR,qHS⟩
  have HM:=lh q1
  have HGM:=lh q2
  have HE:=lh qHE
  have HA:=lh qHA
  have HR:=lh qHR
  have HS:=lh qHS
  clear q1 q2 qHE qHA qHR qHS
  rcases Nat.lt_or_ge p 21 with hk | hk
  ·have t1:decide ((p:Int)<21)=true:=by simp;omega
   obtain ⟨i,j,hd1,hd2,hd3⟩:=pairs_at' hk
   rw [hd1] at HQ
   have HD2:=lh hd2
   have HD3:=lh hd3
   have HPL:=lh hk
   have p0:(0:Int)<=(p:Int):=by omega
   have p9:(p:Int)<21:=by omega
   clear hk hp hd1 hd2 hd3
   refine wsk fun K1 HK1=>?_
   go_wp2_with fail
   refine HK1.out _ _ ?_
   refine wsk fun K2 HK2=>?_
   refine wp_block ?_
   refine wsk fun K5 HK5=>?_
   refine wc (nn::nn::nn::nn::nn::nn::nn::some 7::some 8::nn::nn::nn::nn::some 13::some 14::some 15::some 16::some 17::n8 (nn::nn::nn::nn::nn::[])) (fun s w'=>Mut [] V w'/\s 7=.int .i64 ((i:Nat):Int)/\s 8=.int .i64 ((j:Nat):Int)) ?_ ?_
   ·intro Q2 hQ2
    refine wG (Zw5 V p i j) ?_ ?_ ?_
    ·exact ⟨Mut.start _ false _,nB,nB,nB,nB,nB,nB,nB⟩
    ·refine aC ?_ (aC ?_ (aC ?_ (aC ?_ (aC ?_ (aC ?_ (aC ?_ aN))))))
     ·intro L s w2 h hk hd hn K hK
      exact rs_move rfl (hk 6) (hK {h with e0:=rF})
     ·intro L s w2 h hk hd hn K hK
      have s14:=h.e0 hd.1
      go_simp
      refine (rf_expsP HD3.out HD2.out _).mono ?_
      rintro e w3 ⟨rfl,hb⟩
      exact .inl ⟨_,rfl,hK {h with mu:=h.mu.step hb,e1:=rF}⟩
     ·intro L s w2 h hk hd hn K hK
      exact rs_move rfl (h.e1 hd.1) (hK {h with e2:=rF})
     ·intro L s w2 h hk hd hn K hK
      exact rs_extract rfl (h.e2 hd.1) rfl (hK {h with e3:=rF})
     ·intro L s w2 h hk hd hn K hK
      exact rs_extract rfl (h.e2 hd.1) rfl (hK {h with e4:=rF})
     ·intro L s w2 h hk hd hn K hK
      exact rs_assign rfl (h.e3 hd.1) (hK {h with e5:=rF})
     ·intro L s w2 h hk hd hn K hK
      exact rs_assign rfl (h.e4 hd.1) (hK {h with e6:=rF})
    ·intro L s w2 h hk hl
     refine cA ?_ (hQ2 s w2 (⟨h.mu,h.e5 (hl 5),h.e6 (hl 6)⟩))
     exact fq hk
   rintro s5 V ⟨h1,k7,k8⟩
   simp only [mergeL]
   rw [k7]
   rw [k8]
   replace HE:=sm h1 HE
   replace HA:=sm h1 HA
   replace HR:=sm h1 HR
   replace HS:=sm h1 HS
   replace HM:=mE HM h1
   have HF5:=lh (HGM.out.trans (h1.up (by simp)))
   clear h1 k7 k8
   refine HK5.out _ _ ?_
   refine wc (n8 (n8 (nn::nn::some 18::some 19::some 20::some 21::some 22::some 23::some 24::some 25::some 26::some 27::some 28::some 29::nn::[]))) (fun _ w'=>Mut [g0,A] V w'/\w'.heap[g0]?=some (cobj 31 ([(gt (gt ee (sMul (tAt a p) (tReach i j))).2 (sAdd t (gt ee (sMul (tAt a p) (tReach i j))).1)).1]))/\w'.heap[A]?=some (iobj 62 ((gt ((gt ee (sMul (tAt a p) (tReach i j))).2) (sAdd t ((gt ee (sMul (tAt a p) (tReach i j))).1))).2))) ?_ ?_
   ·intro Q2 hQ2
    refine wG (Zw6 V A a b g0 t ee p i j) ?_ ?_ ?_
    ·exact ⟨Mut.start _ true _,fun _=>HS.out,nB,fun _=>HE.out,nB,nB,nB,nB,nB,nB,nB,nB,nB,nB,nB,nB,nB,nB,nB,nB⟩
    ·refine aC ?_ (aC ?_ (aC ?_ (aC ?_ (aC ?_ (aC ?_ (aC ?_ (aC ?_ (aC ?_ (aC ?_ (aC ?_ (aC ?_ (aC ?_ aN))))))))))))
     ·intro L s w2 h hk hd hn K hK
      exact rs_move rfl (hk 0) (hK {h with e0:=rF})
     ·intro L s w2 h hk hd hn K hK
      have kb:=(h.kt_s (bF h.b12_1 hn))
      exact rs_load rfl (hk 5) (sp_load (p:=0) kb (by simp)) (hK {h with e1:=rF,b12_1:=rF})
     ·intro L s w2 h hk hd hn K hK
      exact rs_move rfl (hk 0) (hK {h with e2:=rF})
     ·intro L s w2 h hk hd hn K hK
      exact rs_move rfl (hk 6) (hK {h with e3:=rF})
     ·intro L s w2 h hk hd hn K hK
      exact rs_field rfl (hk 3) (fl_model0 _ _) (hK {h with e4:=rF})
     ·intro L s w2 h hk hd hn K hK
      exact rs_index rfl (h.e4 hd.1) (h.e3 hd.2.1) (ix_model _ p HPL.out) (hK {h with e5:=rF})
     ·intro L s w2 h hk hd hn K hK
      have kb:=kX h.mu HA (by have:=HLT.out;have:=lt_of_block HE.out;omega) (by have:=HLT.out;have:=lt_of_block HE.out;omega)
      exact rs_load rfl (h.e5 hd.1) (sp_load (p:=p) kb (by have:=HL.out;have:=HPL.out;omega)) (hK {h with e6:=rF})
     ·intro L s w2 h hk hd hn K hK
      exact rs_move rfl (hk 7) (hK {h with e7:=rF})
     ·intro L s w2 h hk hd hn K hK
      exact rs_move rfl (hk 8) (hK {h with e8:=rF})
     ·intro L s w2 h hk hd hn K hK
      have s25:=h.e7 hd.1
      have s26:=h.e8 hd.2.1
      go_simp
      refine (rf_rang i j (by have:=HD2.out;omega) (by have:=HD2.out;omega) _).mono ?_
      rintro e w3 ⟨rfl,hb⟩
      exact .inl ⟨_,rfl,hK {h with mu:=h.mu.step hb,kt_s:=fun a=>bk hb (h.kt_s a),kr_s:=fun a=>bk hb (h.kr_s a),kg_c_0:=fun a=>bk hb (h.kg_c_0 a),kg_c_1:=fun a c=>bk hb (h.kg_c_1 a c),kg_c_2:=fun a=>bk hb (h.kg_c_2 a),e9:=rF}⟩
     ·intro L s w2 h hk hd hn K hK
      have s20:=h.e2 hd.1
      have s24:=h.e6 hd.2.1
      have s27:=h.e9 hd.2.2.1
      have kb:=h.kg_c_0 hn
      go_simp
      refine (rf_mul _ ee (tAt a p) (tReach i j) _ kb).mono ?_
      rintro e w3 ⟨rfl,hkr,hb⟩
      exact .inl ⟨_,rfl,hK {h with mu:=mS h.mu hb (List.Mem.tail _ (List.Mem.head _)),kt_s:=fun a=>hS hb (by have:=HLT.out;have:=lt_of_block HE.out;omega) (h.kt_s a),kr_s:=fun a=>hS hb (by have:=HLT.out;have:=lt_of_block HE.out;omega) (h.kr_s a),kg_c_0:=nF,kg_c_1:=fun _ _=>hkr,kg_c_2:=fun a=>aB (h.b11_10 a) hn,e10:=rF,b11_10:=rF}⟩
     ·intro L s w2 h hk hd hn K hK
      have s18:=h.e0 hd.1
      have s19:=h.e1 hd.2.1
      have s28:=h.e10 hd.2.2.1
      have kb:=h.kg_c_1 hd.2.2.1 hn
      go_simp
      refine (rf_add _ ((gt ee (sMul (tAt a p) (tReach i j))).2) t ((gt ee (sMul (tAt a p) (tReach i j))).1) _ kb).mono ?_
      rintro e w3 ⟨rfl,hkr,hb⟩
      exact .inl ⟨_,rfl,hK {h with mu:=mS h.mu hb (List.Mem.tail _ (List.Mem.head _)),kt_s:=fun a=>hS hb (by have:=HLT.out;have:=lt_of_block HE.out;omega) (h.kt_s a),kr_s:=fun a=>hS hb (by have:=HLT.out;have:=lt_of_block HE.out;omega) (h.kr_s a),kg_c_0:=fun a=>absurd (a.symm.trans hd.2.2.1) bft,kg_c_1:=fun a c=>absurd c.symm bft,kg_c_2:=fun _=>hkr,e11:=rF,b11_10:=fun _=>hd.2.2.1}⟩
     ·intro L s w2 h hk hd hn K hK
      have kb:=h.kt_s hn
      exact rs_store rfl (hk 5) (h.e11 hd.1) (sp_store (p:=0) kb (by simp) ((gt ((gt ee (sMul (tAt a p) (tReach i j))).2) (sAdd t ((gt ee (sMul (tAt a p) (tReach i j))).1))).1)) (hK {h with mu:=h.mu.put (List.Mem.head _) _,kg_c_0:=fun a=>pO (by have:=HLT.out;have:=lt_of_block HE.out;omega) (h.kg_c_0 a),kg_c_1:=fun a c=>pO (by have:=HLT.out;have:=lt_of_block HE.out;omega) (h.kg_c_1 a c),kg_c_2:=fun a=>pO (by have:=HLT.out;have:=lt_of_block HE.out;omega) (h.kg_c_2 a),kt_s:=nF,kr_s:=fun _=>pH kb,b12_1:=fun _=>hd.2.2.2.1})
    ·intro L s w2 h hk hl
     refine cA ?_ (hQ2 s w2 (⟨h.mu,h.kr_s (hl 12),h.kg_c_2 (hl 11)⟩))
     exact fq hk
   rintro s6 V ⟨h1,c_s,c_c⟩
   simp only [mergeL]
   replace HE:=lh c_c
   replace HA:=j2 h1 HA (by have:=HLT.out;omega) (by have:=HLT.out;omega)
   replace HR:=j2 h1 HR (by have:=HLT.out;omega) (by have:=HLT.out;omega)
   replace HS:=lh c_s
   replace HM:=lh (HM.out.stepM h1 (by have:=HBW.out;have:=HLT.out;intro x hx;simp only [List.mem_cons,List.not_mem_nil,or_false] at hx;rcases hx with rfl | rfl<;>first | exact .inl (List.mem_singleton.2 rfl) | (right;omega)))
   have HF6:=lh (HF5.out.trans h1)
   clear h1 c_s c_c
   go_wp2_with fail
   refine HK2.out _ _ ?_
   go_wp2_with fail
   go_roundw
   case rel=>first | exact ⟨p+1,by have:=HPL.out;omega,by go_num,lh ⟨_,_,HF6.out,HE.out,HS.out,HQ.out⟩⟩ | ((repeat apply Exists.intro);exact ⟨⟨p+1,by have:=HPL.out;omega,by go_num,lh ⟨_,_,HF6.out,HE.out,HS.out,HQ.out⟩⟩,rfl⟩)
   case measure=>simp [intOf];have:=HPL.out;omega
  ·obtain rfl:p=21:=by omega
   go_wp2_with fail
   refine HKL.out _ _ ?_
   clear hk hp
   refine wsk fun K7 HK7=>?_
   refine wc (n8 (n8 (n8 (nn::nn::nn::nn::nn::nn::some 30::[])))) (fun _ w'=>Mut [b+1] V w'/\w'.heap[b+1]?=some (cobj 31 ([t]))) ?_ ?_
   ·intro Q2 hQ2
    refine wG (Zw7 V b t) ?_ ?_ ?_
    ·exact ⟨Mut.start _ false _,fun _=>HR.out,nB,nB⟩
    ·refine aC ?_ (aC ?_ aN)
     ·intro L s w2 h hk hd hn K hK
      have kb:=kY h.mu HS (by have:=HLT.out;have:=lt_of_block HE.out;omega)
      exact rs_load rfl (hk 5) (sp_load (p:=0) kb (by simp)) (hK {h with e0:=rF})
     ·intro L s w2 h hk hd hn K hK
      have kb:=h.kt_r hn
      exact rs_store rfl (hk 4) (h.e0 hd.1) (sp_store (p:=0) kb (by simp) t) (hK {h with mu:=h.mu.put (List.Mem.head _) _,kt_r:=nF,kr_r:=fun _=>pH kb})
    ·intro L s w2 h hk hl
     refine cA ?_ (hQ2 s w2 (⟨h.mu,h.kr_r (hl 1)⟩))
     exact fq hk
   rintro s7 V ⟨h1,c_r⟩
   simp only [mergeL]
   replace HE:=j1 h1 HE (by have:=HLT.out;omega)
   replace HA:=j1 h1 HA (by have:=HLT.out;omega)
   replace HR:=lh c_r
   replace HS:=j1 h1 HS (by have:=HLT.out;omega)
   replace HM:=lh (HM.out.stepM h1 (by have:=HBW.out;have:=HLT.out;intro x hx;rw [List.mem_singleton.1 hx];first | exact .inl (List.mem_singleton.2 rfl) | (right;omega)))
   clear h1 c_r
   refine HK7.out _ _ ?_
   refine wp_ret ?_
   rw [←show (t,ee)=rSweep a e from HQ.out]
   exact bodyPost_ret (v:=sval t) (res_span Tryz.results70 rfl (sp_loadVar HR.out)) rfl ⟨rfl,HE.out,HM.out⟩
end Go.Proofs.YthhkcfpljgdnhaaGreat
