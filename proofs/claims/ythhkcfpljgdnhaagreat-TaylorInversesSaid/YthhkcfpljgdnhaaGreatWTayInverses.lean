/- The reference of layer 21: the walk of TaylorInverses. Printed by wip/genSU.py. -/
import Derived.Test.YthhkcfpljgdnhaaGreatLawYX
import Derived.Test.YthhkcfpljgdnhaaGreatLawYP
import Derived.Test.YthhkcfpljgdnhaaGreatRefTP
import Derived.Test.YthhkcfpljgdnhaaGreatTayM
namespace Go.Proofs.YthhkcfpljgdnhaaGreat
open Go.RowKit Mnc
attribute [local go_sem] RunSP_value RunSP_skip RunSP_enter evS_tmp evS_const evS_global evS_func
theorem bd_m4P {a b c d A4:List (Int×Int)} (h:a++b++c++d=A4) (ha:a.length=22) (hb:b.length=22) (hc:c.length=22) (hd:d.length=22) (W:World):(Instr.build 47 #[(0,mval a),(1,mval b),(2,mval c),(3,mval d)]).run Tryz.prog W=.ok (mval A4) W:=by
 subst h
 exact bd_m4 ha hb hc hd W
theorem rInverse_x {a:List (Int×Int)} (ha:a.length=22):rInverse a (tRight a).2=xInverse a:=by
 unfold xInverse
 by_cases h:∀s∈a,okS s
 ·have e:(tRight a).2=0:=if_pos h
  rw [e,thenE_ok e,rInverse_0 ha h]
  rfl
 ·have n:¬(tRight a).2=0:=by
   rw [show (tRight a).2=210 from if_neg h]
   decide
  rw [thenE_bad n,rInverse_er a n,orZ_1 (r:=(([]:List (Int×Int)),(tRight a).2)) n]
theorem rInverse_len (a:List (Int×Int)) (e:Int):(rInverse a e).1.length=22:=by
 unfold rInverse
 split
 ·rfl
 ·split
  ·rfl
  ·exact rTold_len (rInvR_len _ _ _)
theorem xLenQ {a:List (Int×Int)} (ha:a.length=22):(xInverse a).1.length=22:=by
 rw [←rInverse_x ha]
 exact rInverse_len _ _
theorem pTay {a:List (Int×Int)} (ha:a.length=22) {Y:List (Int×Int)×Int} (h:xInverse a=Y) (w:World):Calls Tryz.prog 16 #[mval a] w fun e w'=>e=.returned (.tuple #[mval Y.1,.int .i64 Y.2])/\Below w.heap.size w w':=by
 subst h
 exact taw_Inverse a ha w
theorem qTay {a:List (Int×Int)} (ha:a.length=22) {Y:List (Int×Int)×Int} (h:xInverse a=Y) (w:World):Calls Tryz.prog 17 #[mval a] w fun e w'=>e=.returned (.tuple #[mval Y.1,.int .i64 Y.2])/\Below w.heap.size w w':=by
 subst h
 rw [←rInverse_x ha]
 exact rf_Inverse a ha w
structure Wi1 (V:World) (L:Nat->Bool) (s:Nat->Value) (w:World):Prop where
 mu:Mut [] V w
 e0:L 0->s 11=.bool true
 e1:L 1->s 12=.bool false
structure Wi3 (V:World) (c:Int) (r:Int) (ts:List Tm) (ao:Option Addr) (cap:Nat) (p:Int) (lo:Int) (hi:Int) (M1:List (Int×Int)) (N1:List (Int×Int)) (BN:List (Int×Int)) (B1:List (Int×Int)) (AA:List (Int×Int)) (L:Nat->Bool) (s:Nat->Value) (w:World):Prop where
 mu:Mut [] V w
 e0:L 0->s 13=.agg #[.int .i16 c,.slice ao ts.length cap,.int .u16 r]
 e1:L 1->s 14=mval M1
 e2:L 2->s 15=.agg #[.int .i16 c,.slice ao ts.length cap,.int .u16 r]
 e3:L 3->s 16=mval N1
 e4:L 4->s 17=.agg #[.int .u8 p,.int .i64 lo,.int .i64 hi]
 e5:L 5->s 18=.agg #[.int .i16 c,.slice ao ts.length cap,.int .u16 r]
 e6:L 6->s 19=mval N1
 e7:L 7->s 20=mval BN
 e8:L 8->s 21=.agg #[.int .u8 p,.int .i64 lo,.int .i64 hi]
 e9:L 9->s 22=.agg #[.int .i16 c,.slice ao ts.length cap,.int .u16 r]
 e10:L 10->s 23=mval M1
 e11:L 11->s 24=mval B1
 e12:L 12->s 25=mval AA
 e13:L 13->s 26=.int .i64 ((0:Nat):Int)
structure Wi5 (V:World) (X1:List (Int×Int)) (L:Nat->Bool) (s:Nat->Value) (w:World):Prop where
 mu:Mut [] V w
 e0:L 0->s 28=mval X1
 al_x:L 1->∃g:Nat,s 6=.pointer (some ⟨g,0,none⟩)/\V.heap.size<=g/\g<w.heap.size/\(L 2=false->w.heap[g]?=some (cobj 34 zeroM))/\(L 2=true->w.heap[g]?=some (cobj 34 X1))
 b2_1:L 2->L 1
structure Wi6 (V:World) (X1:List (Int×Int)) (Y:List (Int×Int)×Int) (L:Nat->Bool) (s:Nat->Value) (w:World):Prop where
 mu:Mut [] V w
 e0:L 0->s 30=mval X1
 e1:L 1->s 31=.tuple #[mval Y.1,.int .i64 Y.2]
 e2:L 2->s 29=.tuple #[mval Y.1,.int .i64 Y.2]
 e3:L 3->s 32=mval Y.1
 e4:L 4->s 33=.int .i64 Y.2
 al_a:L 5->∃g:Nat,s 7=.pointer (some ⟨g,0,none⟩)/\V.heap.size<=g/\g<w.heap.size/\(L 6=false->w.heap[g]?=some (cobj 34 zeroM))/\(L 6=true->w.heap[g]?=some (cobj 34 Y.1))
 e7:L 7->s 8=.int .i64 Y.2
 b6_5:L 6->L 5
structure Wi7 (V:World) (X1:List (Int×Int)) (Y:List (Int×Int)×Int) (L:Nat->Bool) (s:Nat->Value) (w:World):Prop where
 mu:Mut [] V w
 e0:L 0->s 35=mval X1
 e1:L 1->s 36=.tuple #[mval Y.1,.int .i64 Y.2]
 e2:L 2->s 34=.tuple #[mval Y.1,.int .i64 Y.2]
 e3:L 3->s 37=mval Y.1
 e4:L 4->s 38=.int .i64 Y.2
 al_cc:L 5->∃g:Nat,s 9=.pointer (some ⟨g,0,none⟩)/\V.heap.size<=g/\g<w.heap.size/\(L 6=false->w.heap[g]?=some (cobj 34 zeroM))/\(L 6=true->w.heap[g]?=some (cobj 34 Y.1))
 e7:L 7->s 10=.int .i64 Y.2
 b6_5:L 6->L 5
structure Wi8 (V:World) (Y:List (Int×Int)×Int) (L:Nat->Bool) (s:Nat->Value) (w:World):Prop where
 mu:Mut [] V w
 e0:L 0->s 39=mval Y.1
 e1:L 1->s 40=.int .i64 Y.2
 e2:L 2->s 41=mval Y.1
 e3:L 3->s 42=.int .i64 Y.2
 e4:L 4->s 43=.bool true
 e5:L 5->s 44=.bool false
set_option maxRecDepth 100000 in
set_option maxHeartbeats 8000000 in
theorem taylorInverses_walk (c r:Int) (ts:List Tm) (ao:Option Addr) (cap:Nat) (p lo hi:Int) (hy:(-32768<=c/\c<=32767)/\(0<=r/\r<=65535)/\0<=p/\p<=255) (w:World) (ht:TmSl w ao cap ts) :
  Calls Tryz.prog 4 #[.agg #[.int .i16 c,.slice ao ts.length cap,.int .u16 r],.agg #[.int .u8 p,.int .i64 lo,.int .i64 hi]] w fun e w'=>e=.returned (.bool true)/\Below w.heap.size w w':=by
 have HY:=lh hy
 have HT:=lh ht
 clear hy ht
 obtain ⟨M1,hM1⟩:∃x,dModel c ts r=x:=⟨_,rfl⟩
 have HLM1:=lh (show M1.length=22 by rw [←hM1];exact dModel_len _ _ _)
 have HEM1:=lh hM1
 obtain ⟨N1,hN1⟩:∃x,dNear c ts r=x:=⟨_,rfl⟩
 have HLN1:=lh (show N1.length=22 by rw [←hN1];exact dNear_len _ _ _)
 have HEN1:=lh hN1
 obtain ⟨BN,hBN⟩:∃x,bendOf p (lo,hi) (dNear c ts r)=x:=⟨_,rfl⟩
 have HLBN:=lh (show BN.length=22 by rw [←hBN];exact (bendOf_len p (lo,hi) (dNear c ts r)).trans (dNear_len _ _ _))
 have HEBN:=lh hBN
 obtain ⟨B1,hB1⟩:∃x,bendOf p (lo,hi) (dModel c ts r)=x:=⟨_,rfl⟩
 have HLB1:=lh (show B1.length=22 by rw [←hB1];exact (bendOf_len p (lo,hi) (dModel c ts r)).trans (dModel_len _ _ _))
 have HEB1:=lh hB1
 clear hM1 hN1 hBN hB1
 obtain ⟨AA,hAA⟩:∃AA,M1++N1++BN++B1=AA:=⟨_,rfl⟩
 have HAA:=lh hAA
 clear hAA
 go_enter Tryz.func4,Tryz.ntmps4
 refine wsk fun K0 HK0=>?_
 go_wp2_with fail
 obtain ⟨b,hb⟩:∃b,w.heap.size=b:=⟨_,rfl⟩
 refine HK0.out _ _ ?_
 refine wp_world (fun V=>Mut [] w V/\V.heap[b]?=some (.cells #[.int .i16 c,.slice ao ts.length cap,.int .u16 r] 26 (0,0))/\V.heap[b+1]?=some (.cells #[.int .u8 p,.int .i64 lo,.int .i64 hi] 28 (0,0))) ?_
  (by
   rw [←hb]
   exact ⟨(((Mut.refl _ _).alloc _).alloc _),heap_up _ (heap_at (.cells #[.int .i16 c,.slice ao ts.length cap,.int .u16 r] 26 (0,0)) (by simp)),heap_at (.cells #[.int .u8 p,.int .i64 lo,.int .i64 hi] 28 (0,0)) (by simp)⟩)
 rintro V ⟨hm,hHD,hHQ⟩
 rw [hb]
 have HM:=lh hm
 have HBW:=lh hb
 have HLT:=lh trivial
 have HD:=lh hHD
 have HQ:=lh hHQ
 clear hm hHD hHQ hb HK0
 refine wsk fun KA HKA=>?_
 refine wsk fun K1 HK1=>?_
 refine wc (n8 (nn::nn::nn::some 11::some 12::n8 (n8 (n8 (n8 (nn::[])))))) (fun s w'=>Mut [] V w'/\s 12=.bool false) ?_ ?_
 ·intro Q2 hQ2
  refine wG (Wi1 V) ?_ ?_ ?_
  ·exact ⟨Mut.start _ false _,nB,nB⟩
  ·refine aC ?_ (aC ?_ aN)
   ·intro L s w2 h hk hd hn K hK
    go_simp
    refine (law21_works _).mono ?_
    rintro e w3 ⟨rfl,hb⟩
    exact .inl ⟨_,rfl,hK {h with mu:=h.mu.step hb,e0:=rF}⟩
   ·intro L s w2 h hk hd hn K hK
    have s11:=h.e0 hd.1
    go_simp
    exact hK {h with e1:=rF}
  ·intro L s w2 h hk hl
   refine cA ?_ (hQ2 s w2 (⟨h.mu,h.e1 (hl 1)⟩))
   exact fq hk
 rintro s1 V ⟨h1,k12⟩
 simp only [mergeL]
 rw [k12]
 replace HD:=sm h1 HD
 replace HQ:=sm h1 HQ
 replace HM:=mE HM h1
 clear h1 k12
 refine HK1.out _ _ ?_
 go_wp2_with fail
 refine HKA.out _ _ ?_
 refine wsk fun KB HKB=>?_
 refine wsk fun K3 HK3=>?_
 refine wc (n8 (nn::nn::nn::nn::nn::some 13::some 14::some 15::some 16::some 17::some 18::some 19::some 20::some 21::some 22::some 23::some 24::some 25::some 26::n8 (n8 (nn::nn::nn::[])))) (fun s w'=>Mut [] V w'/\s 25=mval AA/\s 26=.int .i64 ((0:Nat):Int)) ?_ ?_
 ·intro Q2 hQ2
  refine wG (Wi3 V c r ts ao cap p lo hi M1 N1 BN B1 AA) ?_ ?_ ?_
  ·exact ⟨Mut.start _ true _,nB,nB,nB,nB,nB,nB,nB,nB,nB,nB,nB,nB,nB,nB⟩
  ·refine aC ?_ (aC ?_ (aC ?_ (aC ?_ (aC ?_ (aC ?_ (aC ?_ (aC ?_ (aC ?_ (aC ?_ (aC ?_ (aC ?_ (aC ?_ (aC ?_ aN)))))))))))))
   ·intro L s w2 h hk hd hn K hK
    have s2:s 2=_:=hk 2
    have kqka:=(h.mu.same _ (lt_of_block HD.out) (by simp)).trans HD.out
    have ka:w2.cell? ⟨b,0,none⟩=some (.int .i16 c):=by rw [cell_of_row w2 (b) 0 _ _ _ kqka];rfl
    have kqkb:=(h.mu.same _ (lt_of_block HD.out) (by simp)).trans HD.out
    have kb:w2.cell? ⟨b,1,none⟩=some (.slice ao ts.length cap):=by rw [cell_of_row w2 (b) 1 _ _ _ kqkb];rfl
    have kqkc:=(h.mu.same _ (lt_of_block HD.out) (by simp)).trans HD.out
    have kc:w2.cell? ⟨b,2,none⟩=some (.int .u16 r):=by rw [cell_of_row w2 (b) 2 _ _ _ kqkc];rfl
    go_simp
    exact hK {h with e0:=rF}
   ·intro L s w2 h hk hd hn K hK
    have s13:=h.e0 hd.1
    go_simp
    refine (calls_as HEM1.out (dr_Model c r ts ao cap HY.out.1 HY.out.2.1 _ (HT.out.on (HM.out.trans h.mu).to0))).mono ?_
    rintro e w3 ⟨rfl,hb⟩
    exact .inl ⟨_,rfl,hK {h with mu:=h.mu.step hb,e1:=rF}⟩
   ·intro L s w2 h hk hd hn K hK
    have s2:s 2=_:=hk 2
    have kqka:=(h.mu.same _ (lt_of_block HD.out) (by simp)).trans HD.out
    have ka:w2.cell? ⟨b,0,none⟩=some (.int .i16 c):=by rw [cell_of_row w2 (b) 0 _ _ _ kqka];rfl
    have kqkb:=(h.mu.same _ (lt_of_block HD.out) (by simp)).trans HD.out
    have kb:w2.cell? ⟨b,1,none⟩=some (.slice ao ts.length cap):=by rw [cell_of_row w2 (b) 1 _ _ _ kqkb];rfl
    have kqkc:=(h.mu.same _ (lt_of_block HD.out) (by simp)).trans HD.out
    have kc:w2.cell? ⟨b,2,none⟩=some (.int .u16 r):=by rw [cell_of_row w2 (b) 2 _ _ _ kqkc];rfl
    go_simp
    exact hK {h with e2:=rF}
   ·intro L s w2 h hk hd hn K hK
    have s15:=h.e2 hd.1
    go_simp
    refine (calls_as HEN1.out (dr_Near c r ts ao cap HY.out.1 HY.out.2.1 _ (HT.out.on (HM.out.trans h.mu).to0))).mono ?_
    rintro e w3 ⟨rfl,hb⟩
    exact .inl ⟨_,rfl,hK {h with mu:=h.mu.step hb,e3:=rF}⟩
   ·intro L s w2 h hk hd hn K hK
    have s3:s 3=_:=hk 3
    have kqka:=(h.mu.same _ (lt_of_block HQ.out) (by simp)).trans HQ.out
    have ka:w2.cell? ⟨b+1,0,none⟩=some (.int .u8 p):=by rw [cell_of_row w2 (b+1) 0 _ _ _ kqka];rfl
    have kqkb:=(h.mu.same _ (lt_of_block HQ.out) (by simp)).trans HQ.out
    have kb:w2.cell? ⟨b+1,1,none⟩=some (.int .i64 lo):=by rw [cell_of_row w2 (b+1) 1 _ _ _ kqkb];rfl
    have kqkc:=(h.mu.same _ (lt_of_block HQ.out) (by simp)).trans HQ.out
    have kc:w2.cell? ⟨b+1,2,none⟩=some (.int .i64 hi):=by rw [cell_of_row w2 (b+1) 2 _ _ _ kqkc];rfl
    go_simp
    exact hK {h with e4:=rF}
   ·intro L s w2 h hk hd hn K hK
    have s2:s 2=_:=hk 2
    have kqka:=(h.mu.same _ (lt_of_block HD.out) (by simp)).trans HD.out
    have ka:w2.cell? ⟨b,0,none⟩=some (.int .i16 c):=by rw [cell_of_row w2 (b) 0 _ _ _ kqka];rfl
    have kqkb:=(h.mu.same _ (lt_of_block HD.out) (by simp)).trans HD.out
    have kb:w2.cell? ⟨b,1,none⟩=some (.slice ao ts.length cap):=by rw [cell_of_row w2 (b) 1 _ _ _ kqkb];rfl
    have kqkc:=(h.mu.same _ (lt_of_block HD.out) (by simp)).trans HD.out
    have kc:w2.cell? ⟨b,2,none⟩=some (.int .u16 r):=by rw [cell_of_row w2 (b) 2 _ _ _ kqkc];rfl
    go_simp
    exact hK {h with e5:=rF}
   ·intro L s w2 h hk hd hn K hK
    have s18:=h.e5 hd.1
    go_simp
    refine (calls_as HEN1.out (dr_Near c r ts ao cap HY.out.1 HY.out.2.1 _ (HT.out.on (HM.out.trans h.mu).to0))).mono ?_
    rintro e w3 ⟨rfl,hb⟩
    exact .inl ⟨_,rfl,hK {h with mu:=h.mu.step hb,e6:=rF}⟩
   ·intro L s w2 h hk hd hn K hK
    have s17:=h.e4 hd.1
    have s19:=h.e6 hd.2.1
    go_simp
    refine (calls_as (HEN1.out ▸ HEBN.out) (dr_Of p lo hi N1 HY.out.2.2 HLN1.out _)).mono ?_
    rintro e w3 ⟨rfl,hb⟩
    exact .inl ⟨_,rfl,hK {h with mu:=h.mu.step hb,e7:=rF}⟩
   ·intro L s w2 h hk hd hn K hK
    have s3:s 3=_:=hk 3
    have kqka:=(h.mu.same _ (lt_of_block HQ.out) (by simp)).trans HQ.out
    have ka:w2.cell? ⟨b+1,0,none⟩=some (.int .u8 p):=by rw [cell_of_row w2 (b+1) 0 _ _ _ kqka];rfl
    have kqkb:=(h.mu.same _ (lt_of_block HQ.out) (by simp)).trans HQ.out
    have kb:w2.cell? ⟨b+1,1,none⟩=some (.int .i64 lo):=by rw [cell_of_row w2 (b+1) 1 _ _ _ kqkb];rfl
    have kqkc:=(h.mu.same _ (lt_of_block HQ.out) (by simp)).trans HQ.out
    have kc:w2.cell? ⟨b+1,2,none⟩=some (.int .i64 hi):=by rw [cell_of_row w2 (b+1) 2 _ _ _ kqkc];rfl
    go_simp
    exact hK {h with e8:=rF}
   ·intro L s w2 h hk hd hn K hK
    have s2:s 2=_:=hk 2
    have kqka:=(h.mu.same _ (lt_of_block HD.out) (by simp)).trans HD.out
    have ka:w2.cell? ⟨b,0,none⟩=some (.int .i16 c):=by rw [cell_of_row w2 (b) 0 _ _ _ kqka];rfl
    have kqkb:=(h.mu.same _ (lt_of_block HD.out) (by simp)).trans HD.out
    have kb:w2.cell? ⟨b,1,none⟩=some (.slice ao ts.length cap):=by rw [cell_of_row w2 (b) 1 _ _ _ kqkb];rfl
    have kqkc:=(h.mu.same _ (lt_of_block HD.out) (by simp)).trans HD.out
    have kc:w2.cell? ⟨b,2,none⟩=some (.int .u16 r):=by rw [cell_of_row w2 (b) 2 _ _ _ kqkc];rfl
    go_simp
    exact hK {h with e9:=rF}
   ·intro L s w2 h hk hd hn K hK
    have s22:=h.e9 hd.1
    go_simp
    refine (calls_as HEM1.out (dr_Model c r ts ao cap HY.out.1 HY.out.2.1 _ (HT.out.on (HM.out.trans h.mu).to0))).mono ?_
    rintro e w3 ⟨rfl,hb⟩
    exact .inl ⟨_,rfl,hK {h with mu:=h.mu.step hb,e10:=rF}⟩
   ·intro L s w2 h hk hd hn K hK
    have s21:=h.e8 hd.1
    have s23:=h.e10 hd.2.1
    go_simp
    refine (calls_as (HEM1.out ▸ HEB1.out) (dr_Of p lo hi M1 HY.out.2.2 HLM1.out _)).mono ?_
    rintro e w3 ⟨rfl,hb⟩
    exact .inl ⟨_,rfl,hK {h with mu:=h.mu.step hb,e11:=rF}⟩
   ·intro L s w2 h hk hd hn K hK
    exact rs_bld rfl (by simp [evS_tmp,(h.e1 hd.1),(h.e3 hd.2.1),(h.e7 hd.2.2.1),(h.e11 hd.2.2.2.1)]) (bd_m4P HAA.out HLM1.out HLN1.out HLBN.out HLB1.out _) (hK {h with e12:=rF})
   ·intro L s w2 h hk hd hn K hK
    exact rs_move rfl rfl (hK {h with e13:=rF})
  ·intro L s w2 h hk hl
   refine cA ?_ (hQ2 s w2 (⟨h.mu,h.e12 (hl 12),h.e13 (hl 13)⟩))
   exact fq hk
 rintro s3 V ⟨h1,k25,k26⟩
 simp only [mergeL]
 rw [k25]
 rw [k26]
 replace HD:=sm h1 HD
 replace HQ:=sm h1 HQ
 replace HM:=mE HM h1
 clear h1 k25 k26
 refine HK3.out _ _ ?_
 go_wp2_with fail
 go_loopw [26] (fun x wr=>∃k:Nat,k<=4/\x=.int .i64 k/\Hid (Mut [] V wr)) (fun x _=>4-(intOf x).toNat)
 case atStart=>exact ⟨0,by omega,rfl,lh (Mut.refl _ _)⟩
 case round =>
  obtain ⟨k,hk,rfl,HG⟩:=hrel
  replace HD:=lh ((HG.out.same _ (lt_of_block HD.out) (by simp)).trans HD.out)
  replace HQ:=lh ((HG.out.same _ (lt_of_block HQ.out) (by simp)).trans HQ.out)
  have HM0:=HM
  have hm2:=HM.out.trans HG.out
  refine wp_world (fun U=>Mut [] w U/\Mut [] V U/\U.heap[b]?=some (.cells #[.int .i16 c,.slice ao ts.length cap,.int .u16 r] 26 (0,0))/\U.heap[b+1]?=some (.cells #[.int .u8 p,.int .i64 lo,.int .i64 hi] 28 (0,0))) ?_ ⟨hm2,HG.out,HD.out,HQ.out⟩
  clear hm2 HM0 HM HG HD HQ
  rintro V ⟨q1,q2,qHD,qHQ⟩
  have HM:=lh q1
  have HGM:=lh q2
  have HD:=lh qHD
  have HQ:=lh qHQ
  clear q1 q2 qHD qHQ
  rcases Nat.lt_or_ge k 4 with hk' | hk'
  ·obtain ⟨X1,hx1,hix⟩:∃X1:List (Int×Int),X1.length=22/\∀W,(Instr.index 47 (mval AA) (.int .i64 (k:Int))).run Tryz.prog W=.ok (mval X1) W:=by
    rw [←HAA.out]
    obtain rfl | rfl | rfl | rfl:k=0∨k=1∨k=2∨k=3:=by omega
    ·exact ⟨M1,HLM1.out,fun W=>ix_m40 HLM1.out HLN1.out HLBN.out HLB1.out W⟩
    ·exact ⟨N1,HLN1.out,fun W=>ix_m41 HLM1.out HLN1.out HLBN.out HLB1.out W⟩
    ·exact ⟨BN,HLBN.out,fun W=>ix_m42 HLM1.out HLN1.out HLBN.out HLB1.out W⟩
    ·exact ⟨B1,HLB1.out,fun W=>ix_m43 HLM1.out HLN1.out HLBN.out HLB1.out W⟩
   have HX1:=lh hx1
   have HIX:=lh hix
   have HKK:=lh hk'
   have t1:decide ((k:Int)<4)=true:=by simp;omega
   have k0:(0:Int)<=(k:Int):=by omega
   have k1:(k:Int)<4:=by omega
   clear hx1 hix hk hk'
   obtain ⟨Y,hY⟩:∃Y,xInverse X1=Y:=⟨_,rfl⟩
   have HLY:=lh (show Y.1.length=22 by rw [←hY];exact xLenQ HX1.out)
   have HEY:=lh hY
   clear hY
   refine wsk fun K1 HK1=>?_
   go_wp2_with fail
   refine HK1.out _ _ ?_
   refine wsk fun K2 HK2=>?_
   go_wp2_with fail
   refine HK2.out _ _ ?_
   refine wsk fun K3 HK3=>?_
   refine wp_block ?_
   refine wsk fun K5 HK5=>?_
   refine wc (nn::nn::nn::nn::nn::nn::some 6::n8 (n8 (nn::nn::nn::nn::nn::some 28::n8 (n8 (nn::[]))))) (fun s w'=>Mut [] V w'/\(∃g:Nat,s 6=.pointer (some ⟨g,0,none⟩)/\V.heap.size<=g/\w'.heap[g]?=some (cobj 34 X1))) ?_ ?_
   ·intro Q2 hQ2
    refine wG (Wi5 V X1) ?_ ?_ ?_
    ·exact ⟨Mut.start _ false _,nB,nB,nB⟩
    ·refine aC ?_ (aC ?_ (aC ?_ aN))
     ·intro L s w2 h hk hd hn K hK
      exact rs_idx rfl (hk 25) (hk 26) (HIX.out _) (hK {h with e0:=rF})
     ·intro L s w2 h hk hd hn K hK
      go_simp
      exact hK {h with mu:=h.mu.alloc _,al_x:=fun _=>aW h.mu.size h.b2_1 hn,b2_1:=rF}
     ·intro L s w2 h hk hd hn K hK
      obtain ⟨g,hg0,hg1,hgl,hg2,hg3⟩:=h.al_x hd.1
      have kb:=hg2 hn
      exact rs_store rfl hg0 (h.e0 hd.2.1) (md_store kb rfl _ HX1.out) (hK {h with mu:=h.mu.putNew hg1 _,al_x:=fun _=>aT hg0 hg1 hgl kb,b2_1:=fun _=>hd.1})
    ·intro L s w2 h hk hl
     refine cA ?_ (hQ2 s w2 (⟨h.mu,aE (h.al_x (hl 1)) (hl 2)⟩))
     exact fq hk
   rintro s5 V ⟨h1,⟨g0,k_x,g_x,c_x⟩⟩
   simp only [mergeL]
   rw [k_x]
   replace HD:=sm h1 HD
   replace HQ:=sm h1 HQ
   have HXB:=lh c_x
   replace HM:=mE HM h1
   have HF5:=lh (HGM.out.trans h1)
   clear h1 k_x g_x c_x
   refine HK5.out _ _ ?_
   refine wsk fun K6 HK6=>?_
   refine wc (nn::nn::nn::nn::nn::nn::nn::some 7::some 8::n8 (n8 (nn::nn::nn::nn::some 29::some 30::some 31::some 32::some 33::n8 (nn::nn::nn::nn::[])))) (fun s w'=>Mut [] V w'/\(∃g:Nat,s 7=.pointer (some ⟨g,0,none⟩)/\V.heap.size<=g/\w'.heap[g]?=some (cobj 34 Y.1))/\s 8=.int .i64 Y.2) ?_ ?_
   ·intro Q2 hQ2
    refine wG (Wi6 V X1 Y) ?_ ?_ ?_
    ·exact ⟨Mut.start _ false _,nB,nB,nB,nB,nB,nB,nB,nB⟩
    ·refine aC ?_ (aC ?_ (aC ?_ (aC ?_ (aC ?_ (aC ?_ (aC ?_ (aC ?_ aN)))))))
     ·intro L s w2 h hk hd hn K hK
      have kb:=kZ h.mu HXB
      exact rs_load rfl (hk 6) (md_load kb HX1.out) (hK {h with e0:=rF})
     ·intro L s w2 h hk hd hn K hK
      have s30:=h.e0 hd.1
      go_simp
      refine (pTay HX1.out HEY.out _).mono ?_
      rintro e w3 ⟨rfl,hb⟩
      exact .inl ⟨_,rfl,hK {h with mu:=h.mu.step hb,al_a:=fun a=>aS hb (h.al_a a),e1:=rF}⟩
     ·intro L s w2 h hk hd hn K hK
      exact rs_move rfl (h.e1 hd.1) (hK {h with e2:=rF})
     ·intro L s w2 h hk hd hn K hK
      exact rs_extract rfl (h.e2 hd.1) rfl (hK {h with e3:=rF})
     ·intro L s w2 h hk hd hn K hK
      exact rs_extract rfl (h.e2 hd.1) rfl (hK {h with e4:=rF})
     ·intro L s w2 h hk hd hn K hK
      go_simp
      exact hK {h with mu:=h.mu.alloc _,al_a:=fun _=>aW h.mu.size h.b6_5 hn,b6_5:=rF}
     ·intro L s w2 h hk hd hn K hK
      obtain ⟨g,hg0,hg1,hgl,hg2,hg3⟩:=h.al_a hd.1
      have kb:=hg2 hn
      exact rs_store rfl hg0 (h.e3 hd.2.1) (md_store kb rfl _ HLY.out) (hK {h with mu:=h.mu.putNew hg1 _,al_a:=fun _=>aT hg0 hg1 hgl kb,b6_5:=fun _=>hd.1})
     ·intro L s w2 h hk hd hn K hK
      exact rs_assign rfl (h.e4 hd.1) (hK {h with e7:=rF})
    ·intro L s w2 h hk hl
     refine cA ?_ (hQ2 s w2 (⟨h.mu,aE (h.al_a (hl 5)) (hl 6),h.e7 (hl 7)⟩))
     exact fq hk
   rintro s6 V ⟨h1,⟨g1,k_a,g_a,c_a⟩,k8⟩
   simp only [mergeL]
   rw [k_a]
   rw [k8]
   replace HD:=sm h1 HD
   replace HQ:=sm h1 HQ
   replace HXB:=sm h1 HXB
   have HRA:=lh c_a
   replace HM:=mE HM h1
   have HF6:=lh (HF5.out.trans h1)
   clear h1 k_a g_a c_a k8
   refine HK6.out _ _ ?_
   refine wsk fun K7 HK7=>?_
   refine wc (n8 (nn::some 9::some 10::n8 (n8 (nn::nn::nn::nn::nn::nn::nn::some 34::some 35::some 36::some 37::some 38::nn::nn::nn::nn::nn::nn::nn::[])))) (fun s w'=>Mut [] V w'/\(∃g:Nat,s 9=.pointer (some ⟨g,0,none⟩)/\V.heap.size<=g/\w'.heap[g]?=some (cobj 34 Y.1))/\s 10=.int .i64 Y.2) ?_ ?_
   ·intro Q2 hQ2
    refine wG (Wi7 V X1 Y) ?_ ?_ ?_
    ·exact ⟨Mut.start _ false _,nB,nB,nB,nB,nB,nB,nB,nB⟩
    ·refine aC ?_ (aC ?_ (aC ?_ (aC ?_ (aC ?_ (aC ?_ (aC ?_ (aC ?_ aN)))))))
     ·intro L s w2 h hk hd hn K hK
      have kb:=kZ h.mu HXB
      exact rs_load rfl (hk 6) (md_load kb HX1.out) (hK {h with e0:=rF})
     ·intro L s w2 h hk hd hn K hK
      have s35:=h.e0 hd.1
      go_simp
      refine (qTay HX1.out HEY.out _).mono ?_
      rintro e w3 ⟨rfl,hb⟩
      exact .inl ⟨_,rfl,hK {h with mu:=h.mu.step hb,al_cc:=fun a=>aS hb (h.al_cc a),e1:=rF}⟩
     ·intro L s w2 h hk hd hn K hK
      exact rs_move rfl (h.e1 hd.1) (hK {h with e2:=rF})
     ·intro L s w2 h hk hd hn K hK
      exact rs_extract rfl (h.e2 hd.1) rfl (hK {h with e3:=rF})
     ·intro L s w2 h hk hd hn K hK
      exact rs_extract rfl (h.e2 hd.1) rfl (hK {h with e4:=rF})
     ·intro L s w2 h hk hd hn K hK
      go_simp
      exact hK {h with mu:=h.mu.alloc _,al_cc:=fun _=>aW h.mu.size h.b6_5 hn,b6_5:=rF}
     ·intro L s w2 h hk hd hn K hK
      obtain ⟨g,hg0,hg1,hgl,hg2,hg3⟩:=h.al_cc hd.1
      have kb:=hg2 hn
      exact rs_store rfl hg0 (h.e3 hd.2.1) (md_store kb rfl _ HLY.out) (hK {h with mu:=h.mu.putNew hg1 _,al_cc:=fun _=>aT hg0 hg1 hgl kb,b6_5:=fun _=>hd.1})
     ·intro L s w2 h hk hd hn K hK
      exact rs_assign rfl (h.e4 hd.1) (hK {h with e7:=rF})
    ·intro L s w2 h hk hl
     refine cA ?_ (hQ2 s w2 (⟨h.mu,aE (h.al_cc (hl 5)) (hl 6),h.e7 (hl 7)⟩))
     exact fq hk
   rintro s7 V ⟨h1,⟨g2,k_cc,g_cc,c_cc⟩,k10⟩
   simp only [mergeL]
   rw [k_cc]
   rw [k10]
   replace HD:=sm h1 HD
   replace HQ:=sm h1 HQ
   replace HXB:=sm h1 HXB
   replace HRA:=sm h1 HRA
   have HRC:=lh c_cc
   replace HM:=mE HM h1
   have HF7:=lh (HF6.out.trans h1)
   clear h1 k_cc g_cc c_cc k10
   refine HK7.out _ _ ?_
   refine wsk fun K8 HK8=>?_
   refine wc (n8 (n8 (n8 (n8 (nn::nn::nn::nn::nn::nn::nn::some 39::some 40::some 41::some 42::some 43::some 44::nn::[]))))) (fun s w'=>Mut [] V w'/\s 44=.bool false) ?_ ?_
   ·intro Q2 hQ2
    refine wG (Wi8 V Y) ?_ ?_ ?_
    ·exact ⟨Mut.start _ false _,nB,nB,nB,nB,nB,nB⟩
    ·refine aC ?_ (aC ?_ (aC ?_ (aC ?_ (aC ?_ (aC ?_ aN)))))
     ·intro L s w2 h hk hd hn K hK
      have kb:=kZ h.mu HRA
      exact rs_load rfl (hk 7) (md_load kb HLY.out) (hK {h with e0:=rF})
     ·intro L s w2 h hk hd hn K hK
      exact rs_move rfl (hk 8) (hK {h with e1:=rF})
     ·intro L s w2 h hk hd hn K hK
      have kb:=kZ h.mu HRC
      exact rs_load rfl (hk 9) (md_load kb HLY.out) (hK {h with e2:=rF})
     ·intro L s w2 h hk hd hn K hK
      exact rs_move rfl (hk 10) (hK {h with e3:=rF})
     ·intro L s w2 h hk hd hn K hK
      have s39:=h.e0 hd.1
      have s40:=h.e1 hd.2.1
      have s41:=h.e2 hd.2.2.1
      have s42:=h.e3 hd.2.2.2.1
      go_simp
      refine (law21_same Y.1 Y.2 HLY.out _).mono ?_
      rintro e w3 ⟨rfl,hb⟩
      exact .inl ⟨_,rfl,hK {h with mu:=h.mu.step hb,e4:=rF}⟩
     ·intro L s w2 h hk hd hn K hK
      have s43:=h.e4 hd.1
      go_simp
      exact hK {h with e5:=rF}
    ·intro L s w2 h hk hl
     refine cA ?_ (hQ2 s w2 (⟨h.mu,h.e5 (hl 5)⟩))
     exact fq hk
   rintro s8 V ⟨h1,k44⟩
   simp only [mergeL]
   rw [k44]
   replace HD:=sm h1 HD
   replace HQ:=sm h1 HQ
   replace HXB:=sm h1 HXB
   replace HRA:=sm h1 HRA
   replace HRC:=sm h1 HRC
   replace HM:=mE HM h1
   have HF10:=lh (HF7.out.trans h1)
   clear h1 k44
   refine HK8.out _ _ ?_
   go_wp2_with fail
   refine HK3.out _ _ ?_
   go_wp2_with fail
   go_roundw
   case rel=>first | exact ⟨k+1,by have:=HKK.out;omega,by go_num,HF10⟩ | ((repeat apply Exists.intro);exact ⟨⟨k+1,by have:=HKK.out;omega,by go_num,HF10⟩,rfl⟩)
   case measure=>simp [intOf];have:=HKK.out;omega
  ·obtain rfl:k=4:=by omega
   clear hk hk' HGM
   go_wp2_with fail
   refine HKB.out _ _ ?_
   go_wp2_with fail
   exact bodyPost_ret (v:=.bool true) (by simp [results,Tryz.results4,go_sem]) rfl ⟨rfl,by rw [←HBW.out];exact HM.out.to0⟩
end Go.Proofs.YthhkcfpljgdnhaaGreat
