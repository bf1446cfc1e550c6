/- The reference of layer 21: product. Printed by wip/genSU.py. -/
import Derived.Test.YthhkcfpljgdnhaaGreatRefTE
namespace Go.Proofs.YthhkcfpljgdnhaaGreat
open Go.RowKit Mnc
attribute [local go_sem] RunSP_value RunSP_skip RunSP_enter evS_tmp evS_const evS_global evS_func
structure Zp8 (V:World) (p:Nat) (i:Nat) (j:Nat) (L:Nat->Bool) (s:Nat->Value) (w:World):Prop where
 mu:Mut [] V w
 e0:L 0->s 25=.int .i64 ((p:Nat):Int)
 e1:L 1->s 26=.tuple #[.int .i64 ((i:Nat):Int),.int .i64 ((j:Nat):Int)]
 e2:L 2->s 24=.tuple #[.int .i64 ((i:Nat):Int),.int .i64 ((j:Nat):Int)]
 e3:L 3->s 27=.int .i64 ((i:Nat):Int)
 e4:L 4->s 28=.int .i64 ((j:Nat):Int)
 e5:L 5->s 10=.int .i64 ((i:Nat):Int)
 e6:L 6->s 11=.int .i64 ((j:Nat):Int)
structure Zp9 (V:World) (q:Nat) (k:Nat) (l:Nat) (L:Nat->Bool) (s:Nat->Value) (w:World):Prop where
 mu:Mut [] V w
 e0:L 0->s 30=.int .i64 ((q:Nat):Int)
 e1:L 1->s 31=.tuple #[.int .i64 ((k:Nat):Int),.int .i64 ((l:Nat):Int)]
 e2:L 2->s 29=.tuple #[.int .i64 ((k:Nat):Int),.int .i64 ((l:Nat):Int)]
 e3:L 3->s 32=.int .i64 ((k:Nat):Int)
 e4:L 4->s 33=.int .i64 ((l:Nat):Int)
 e5:L 5->s 12=.int .i64 ((k:Nat):Int)
 e6:L 6->s 13=.int .i64 ((l:Nat):Int)
structure Zp10 (V:World) (A:Nat) (a:List (Int×Int)) (d:List (Int×Int)) (b:Nat) (ee:Int) (p:Nat) (q:Nat) (L:Nat->Bool) (s:Nat->Value) (w:World):Prop where
 mu:Mut [A] V w
 kg_c_0:L 9=false->w.heap[A]?=some (iobj 62 ee)
 kg_c_1:L 9->w.heap[A]?=some (iobj 62 ((gt ee (sMul (tAt a p) (tAt d q))).2))
 e0:L 0->s 34=.pointer (some ⟨A,0,none⟩)
 e1:L 1->s 35=.int .i64 ((p:Nat):Int)
 e2:L 2->s 36=.pointer (some ⟨b,0,none⟩)
 e3:L 3->s 37=.pointer (some ⟨b,p*2,none⟩)
 e4:L 4->s 38=sval (tAt a p)
 e5:L 5->s 39=.int .i64 ((q:Nat):Int)
 e6:L 6->s 40=.pointer (some ⟨b+1,0,none⟩)
 e7:L 7->s 41=.pointer (some ⟨b+1,q*2,none⟩)
 e8:L 8->s 42=sval (tAt d q)
 e9:L 9->s 43=sval ((gt ee (sMul (tAt a p) (tAt d q))).1)
 al_w:L 10->∃g:Nat,s 14=.pointer (some ⟨g,0,none⟩)/\V.heap.size<=g/\g<w.heap.size/\(L 11=false->w.heap[g]?=some (cobj 31 [(0,0)]))/\(L 11=true->w.heap[g]?=some (cobj 31 [(gt ee (sMul (tAt a p) (tAt d q))).1]))
 b11_10:L 11->L 10
structure Zp11 (V:World) (i:Nat) (j:Nat) (k:Nat) (l:Nat) (L:Nat->Bool) (s:Nat->Value) (w:World):Prop where
 mu:Mut [] V w
 e0:L 0->s 44=.int .i64 ((i:Nat):Int)
 e1:L 1->s 45=.int .i64 ((j:Nat):Int)
 e2:L 2->s 46=.int .i64 ((i+j:Nat):Int)
 e3:L 3->s 47=.int .i64 ((k:Nat):Int)
 e4:L 4->s 48=.int .i64 ((i+j+k:Nat):Int)
 e5:L 5->s 49=.int .i64 ((l:Nat):Int)
 e6:L 6->s 50=.int .i64 ((i+j+k+l:Nat):Int)
 e7:L 7->s 51=.bool true
structure Zp12 (V:World) (i:Nat) (j:Nat) (k:Nat) (l:Nat) (L:Nat->Bool) (s:Nat->Value) (w:World):Prop where
 mu:Mut [] V w
 e0:L 0->s 52=.int .i64 ((i:Nat):Int)
 e1:L 1->s 53=.int .i64 ((k:Nat):Int)
 e2:L 2->s 54=.int .i64 ((i+k:Nat):Int)
 e3:L 3->s 55=.int .i64 ((j:Nat):Int)
 e4:L 4->s 56=.int .i64 ((l:Nat):Int)
 e5:L 5->s 57=.int .i64 ((j+l:Nat):Int)
 e6:L 6->s 58=.int .i64 ((tPlace (i+k) (j+l):Nat):Int)
 e7:L 7->s 15=.int .i64 ((tPlace (i+k) (j+l):Nat):Int)
structure Zp13 (V:World) (A:Nat) (a:List (Int×Int)) (d:List (Int×Int)) (g0:Nat) (S:List (Int×Int)) (ee:Int) (p:Nat) (q:Nat) (n:Nat) (L:Nat->Bool) (s:Nat->Value) (w:World):Prop where
 mu:Mut [g0,A] V w
 kt_o:L 10=false->w.heap[g0]?=some (cobj 34 S)
 kr_o:L 10->w.heap[g0]?=some (cobj 34 (S.set n (gt (gt ee (sMul (tAt a p) (tAt d q))).2 (sAdd (tAt S n) (gt ee (sMul (tAt a p) (tAt d q))).1)).1))
 kg_c_0:L 7=false->w.heap[A]?=some (iobj 62 ((gt ee (sMul (tAt a p) (tAt d q))).2))
 kg_c_1:L 7->w.heap[A]?=some (iobj 62 ((gt ((gt ee (sMul (tAt a p) (tAt d q))).2) (sAdd (tAt S n) ((gt ee (sMul (tAt a p) (tAt d q))).1))).2))
 e0:L 0->s 59=.int .i64 ((n:Nat):Int)
 e1:L 1->s 60=.pointer (some ⟨A,0,none⟩)
 e2:L 2->s 61=.int .i64 ((n:Nat):Int)
 e3:L 3->s 62=.pointer (some ⟨g0,0,none⟩)
 e4:L 4->s 63=.pointer (some ⟨g0,n*2,none⟩)
 e5:L 5->s 64=sval (tAt S n)
 e6:L 6->s 65=sval ((gt ee (sMul (tAt a p) (tAt d q))).1)
 e7:L 7->s 66=sval ((gt ((gt ee (sMul (tAt a p) (tAt d q))).2) (sAdd (tAt S n) ((gt ee (sMul (tAt a p) (tAt d q))).1))).1)
 e8:L 8->s 67=.pointer (some ⟨g0,0,none⟩)
 e9:L 9->s 68=.pointer (some ⟨g0,n*2,none⟩)
 b10_5:L 10->L 5
structure Zq11 (V:World) (i:Nat) (j:Nat) (k:Nat) (l:Nat) (L:Nat->Bool) (s:Nat->Value) (w:World):Prop where
 mu:Mut [] V w
 e0:L 0->s 44=.int .i64 ((i:Nat):Int)
 e1:L 1->s 45=.int .i64 ((j:Nat):Int)
 e2:L 2->s 46=.int .i64 ((i+j:Nat):Int)
 e3:L 3->s 47=.int .i64 ((k:Nat):Int)
 e4:L 4->s 48=.int .i64 ((i+j+k:Nat):Int)
 e5:L 5->s 49=.int .i64 ((l:Nat):Int)
 e6:L 6->s 50=.int .i64 ((i+j+k+l:Nat):Int)
 e7:L 7->s 51=.bool false
structure Zq14 (V:World) (A:Nat) (a:List (Int×Int)) (d:List (Int×Int)) (g0:Nat) (S:List (Int×Int)) (ee:Int) (p:Nat) (q:Nat) (i:Nat) (j:Nat) (k:Nat) (l:Nat) (L:Nat->Bool) (s:Nat->Value) (w:World):Prop where
 mu:Mut [g0,A] V w
 kt_o:L 15=false->w.heap[g0]?=some (cobj 34 S)
 kr_o:L 15->w.heap[g0]?=some (cobj 34 (S.set 21 (gt (gt (gt ee (sMul (tAt a p) (tAt d q))).2 (sMul (gt ee (sMul (tAt a p) (tAt d q))).1 (tReach (i+k) (j+l)))).2 (sAdd (tAt S 21) (gt (gt ee (sMul (tAt a p) (tAt d q))).2 (sMul (gt ee (sMul (tAt a p) (tAt d q))).1 (tReach (i+k) (j+l)))).1)).1))
 kg_c_0:L 12=false->w.heap[A]?=some (iobj 62 ((gt ee (sMul (tAt a p) (tAt d q))).2))
 kg_c_1:L 12->L 13=false->w.heap[A]?=some (iobj 62 ((gt ((gt ee (sMul (tAt a p) (tAt d q))).2) (sMul ((gt ee (sMul (tAt a p) (tAt d q))).1) (tReach (i+k) (j+l)))).2))
 kg_c_2:L 13->w.heap[A]?=some (iobj 62 ((gt ((gt ((gt ee (sMul (tAt a p) (tAt d q))).2) (sMul ((gt ee (sMul (tAt a p) (tAt d q))).1) (tReach (i+k) (j+l)))).2) (sAdd (tAt S 21) ((gt ((gt ee (sMul (tAt a p) (tAt d q))).2) (sMul ((gt ee (sMul (tAt a p) (tAt d q))).1) (tReach (i+k) (j+l)))).1))).2))
 e0:L 0->s 69=.pointer (some ⟨A,0,none⟩)
 e1:L 1->s 70=.pointer (some ⟨g0,21*2,none⟩)
 e2:L 2->s 71=sval (tAt S 21)
 e3:L 3->s 72=.pointer (some ⟨A,0,none⟩)
 e4:L 4->s 73=sval ((gt ee (sMul (tAt a p) (tAt d q))).1)
 e5:L 5->s 74=.int .i64 ((i:Nat):Int)
 e6:L 6->s 75=.int .i64 ((k:Nat):Int)
 e7:L 7->s 76=.int .i64 ((i+k:Nat):Int)
 e8:L 8->s 77=.int .i64 ((j:Nat):Int)
 e9:L 9->s 78=.int .i64 ((l:Nat):Int)
 e10:L 10->s 79=.int .i64 ((j+l:Nat):Int)
 e11:L 11->s 80=sval (tReach (i+k) (j+l))
 e12:L 12->s 81=sval ((gt ((gt ee (sMul (tAt a p) (tAt d q))).2) (sMul ((gt ee (sMul (tAt a p) (tAt d q))).1) (tReach (i+k) (j+l)))).1)
 e13:L 13->s 82=sval ((gt ((gt ((gt ee (sMul (tAt a p) (tAt d q))).2) (sMul ((gt ee (sMul (tAt a p) (tAt d q))).1) (tReach (i+k) (j+l)))).2) (sAdd (tAt S 21) ((gt ((gt ee (sMul (tAt a p) (tAt d q))).2) (sMul ((gt ee (sMul (tAt a p) (tAt d q))).1) (tReach (i+k) (j+l)))).1))).1)
 e14:L 14->s 83=.pointer (some ⟨g0,21*2,none⟩)
 b15_2:L 15->L 2
 b13_12:L 13->L 12
structure Zp15 (V:World) (A:Nat) (a:List (Int×Int)) (d:List (Int×Int)) (b:Nat) (g0:Nat) (S:List (Int×Int)) (ee:Int) (L:Nat->Bool) (s:Nat->Value) (w:World):Prop where
 mu:Mut [g0,A] V w
 kt_o:L 12=false->w.heap[g0]?=some (cobj 34 S)
 kr_o:L 12->w.heap[g0]?=some (cobj 34 (S.set 21 (gt (gt (gt ee (tSweep a)).2 (sMul (gt ee (tSweep a)).1 (tAt d 21))).2 (sAdd (tAt S 21) (gt (gt ee (tSweep a)).2 (sMul (gt ee (tSweep a)).1 (tAt d 21))).1)).1))
 kg_c_0:L 6=false->w.heap[A]?=some (iobj 62 ee)
 kg_c_1:L 6->L 9=false->w.heap[A]?=some (iobj 62 ((gt ee (tSweep a)).2))
 kg_c_2:L 9->L 10=false->w.heap[A]?=some (iobj 62 ((gt ((gt ee (tSweep a)).2) (sMul ((gt ee (tSweep a)).1) (tAt d 21))).2))
 kg_c_3:L 10->w.heap[A]?=some (iobj 62 ((gt ((gt ((gt ee (tSweep a)).2) (sMul ((gt ee (tSweep a)).1) (tAt d 21))).2) (sAdd (tAt S 21) ((gt ((gt ee (tSweep a)).2) (sMul ((gt ee (tSweep a)).1) (tAt d 21))).1))).2))
 e0:L 0->s 84=.pointer (some ⟨A,0,none⟩)
 e1:L 1->s 85=.pointer (some ⟨g0,21*2,none⟩)
 e2:L 2->s 86=sval (tAt S 21)
 e3:L 3->s 87=.pointer (some ⟨A,0,none⟩)
 e4:L 4->s 88=.pointer (some ⟨A,0,none⟩)
 e5:L 5->s 89=mval a
 e6:L 6->s 90=sval ((gt ee (tSweep a)).1)
 e7:L 7->s 91=.pointer (some ⟨b+1,21*2,none⟩)
 e8:L 8->s 92=sval (tAt d 21)
 e9:L 9->s 93=sval ((gt ((gt ee (tSweep a)).2) (sMul ((gt ee (tSweep a)).1) (tAt d 21))).1)
 e10:L 10->s 94=sval ((gt ((gt ((gt ee (tSweep a)).2) (sMul ((gt ee (tSweep a)).1) (tAt d 21))).2) (sAdd (tAt S 21) ((gt ((gt ee (tSweep a)).2) (sMul ((gt ee (tSweep a)).1) (tAt d 21))).1))).1)
 e11:L 11->s 95=.pointer (some ⟨g0,21*2,none⟩)
 b12_2:L 12->L 2
 b9_6:L 9->L 6
 b10_9:L 10->L 9
structure Zp16 (V:World) (A:Nat) (a:List (Int×Int)) (d:List (Int×Int)) (b:Nat) (g0:Nat) (S1:RS) (L:Nat->Bool) (s:Nat->Value) (w:World):Prop where
 mu:Mut [g0,A] V w
 kt_o:L 12=false->w.heap[g0]?=some (cobj 34 S1.1)
 kr_o:L 12->w.heap[g0]?=some (cobj 34 (S1.1.set 21 (gt (gt (gt S1.2 (tSweep d)).2 (sMul (tAt a 21) (gt S1.2 (tSweep d)).1)).2 (sAdd (tAt S1.1 21) (gt (gt S1.2 (tSweep d)).2 (sMul (tAt a 21) (gt S1.2 (tSweep d)).1)).1)).1))
 kg_c_0:L 8=false->w.heap[A]?=some (iobj 62 S1.2)
 kg_c_1:L 8->L 9=false->w.heap[A]?=some (iobj 62 ((gt S1.2 (tSweep d)).2))
 kg_c_2:L 9->L 10=false->w.heap[A]?=some (iobj 62 ((gt ((gt S1.2 (tSweep d)).2) (sMul (tAt a 21) ((gt S1.2 (tSweep d)).1))).2))
 kg_c_3:L 10->w.heap[A]?=some (iobj 62 ((gt ((gt ((gt S1.2 (tSweep d)).2) (sMul (tAt a 21) ((gt S1.2 (tSweep d)).1))).2) (sAdd (tAt S1.1 21) ((gt ((gt S1.2 (tSweep d)).2) (sMul (tAt a 21) ((gt S1.2 (tSweep d)).1))).1))).2))
 e0:L 0->s 96=.pointer (some ⟨A,0,none⟩)
 e1:L 1->s 97=.pointer (some ⟨g0,21*2,none⟩)
 e2:L 2->s 98=sval (tAt S1.1 21)
 e3:L 3->s 99=.pointer (some ⟨A,0,none⟩)
 e4:L 4->s 100=.pointer (some ⟨b,21*2,none⟩)
 e5:L 5->s 101=sval (tAt a 21)
 e6:L 6->s 102=.pointer (some ⟨A,0,none⟩)
 e7:L 7->s 103=mval d
 e8:L 8->s 104=sval ((gt S1.2 (tSweep d)).1)
 e9:L 9->s 105=sval ((gt ((gt S1.2 (tSweep d)).2) (sMul (tAt a 21) ((gt S1.2 (tSweep d)).1))).1)
 e10:L 10->s 106=sval ((gt ((gt ((gt S1.2 (tSweep d)).2) (sMul (tAt a 21) ((gt S1.2 (tSweep d)).1))).2) (sAdd (tAt S1.1 21) ((gt ((gt S1.2 (tSweep d)).2) (sMul (tAt a 21) ((gt S1.2 (tSweep d)).1))).1))).1)
 e11:L 11->s 107=.pointer (some ⟨g0,21*2,none⟩)
 b12_2:L 12->L 2
 b9_8:L 9->L 8
 b10_9:L 10->L 9
structure Zp17 (V:World) (A:Nat) (a:List (Int×Int)) (d:List (Int×Int)) (b:Nat) (g0:Nat) (S2:RS) (L:Nat->Bool) (s:Nat->Value) (w:World):Prop where
 mu:Mut [g0,A] V w
 kt_o:L 11=false->w.heap[g0]?=some (cobj 34 S2.1)
 kr_o:L 11->w.heap[g0]?=some (cobj 34 (S2.1.set 21 (gt (gt S2.2 (sMul (tAt a 21) (tAt d 21))).2 (sAdd (tAt S2.1 21) (gt S2.2 (sMul (tAt a 21) (tAt d 21))).1)).1))
 kg_c_0:L 8=false->w.heap[A]?=some (iobj 62 S2.2)
 kg_c_1:L 8->L 9=false->w.heap[A]?=some (iobj 62 ((gt S2.2 (sMul (tAt a 21) (tAt d 21))).2))
 kg_c_2:L 9->w.heap[A]?=some (iobj 62 ((gt ((gt S2.2 (sMul (tAt a 21) (tAt d 21))).2) (sAdd (tAt S2.1 21) ((gt S2.2 (sMul (tAt a 21) (tAt d 21))).1))).2))
 e0:L 0->s 108=.pointer (some ⟨A,0,none⟩)
 e1:L 1->s 109=.pointer (some ⟨g0,21*2,none⟩)
 e2:L 2->s 110=sval (tAt S2.1 21)
 e3:L 3->s 111=.pointer (some ⟨A,0,none⟩)
 e4:L 4->s 112=.pointer (some ⟨b,21*2,none⟩)
 e5:L 5->s 113=sval (tAt a 21)
 e6:L 6->s 114=.pointer (some ⟨b+1,21*2,none⟩)
 e7:L 7->s 115=sval (tAt d 21)
 e8:L 8->s 116=sval ((gt S2.2 (sMul (tAt a 21) (tAt d 21))).1)
 e9:L 9->s 117=sval ((gt ((gt S2.2 (sMul (tAt a 21) (tAt d 21))).2) (sAdd (tAt S2.1 21) ((gt S2.2 (sMul (tAt a 21) (tAt d 21))).1))).1)
 e10:L 10->s 118=.pointer (some ⟨g0,21*2,none⟩)
 b11_2:L 11->L 2
 b9_8:L 9->L 8
structure Zp18 (V:World) (e:Int) (a:List (Int×Int)) (d:List (Int×Int)) (b:Nat) (L:Nat->Bool) (s:Nat->Value) (w:World):Prop where
 mu:Mut [b+1+1] V w
 kt_r:L 1=false->w.heap[b+1+1]?=some (cobj 34 zeroM)
 kr_r:L 1->w.heap[b+1+1]?=some (cobj 34 ((rProduct a d e).1))
 e0:L 0->s 119=mval ((rProduct a d e).1)
set_option maxRecDepth 100000 in
set_option maxHeartbeats 4000000 in
theorem rf_product (A:Nat) (e:Int) (a d:List (Int×Int)) (ha:a.length=22) (hd:d.length=22) (w:World) (h:w.heap[A]?=some (iobj 62 e)) :
  Calls Tryz.prog 31 #[.pointer (some ⟨A,0,none⟩),mval a,mval d] w fun r w'=>r=.returned (mval (rProduct a d e).1)/\w'.heap[A]?=some (iobj 62 ((rProduct a d e).2))/\Mut [A] w w':=by
 have HE0:=lh h
 clear h
 have HL:=lh ha
 have HLD:=lh hd
 clear ha hd
 go_enter Tryz.func31,Tryz.ntmps31
 refine wsk fun K0 HK0=>?_
 go_wp2_with fail
 rename_i x1 cs1 hc1 x2 cs2 hc2
 obtain rfl:(mc a).toArray=cs1:=Value.agg.inj hc1
 obtain rfl:(mc d).toArray=cs2:=Value.agg.inj hc2
 clear hc1 hc2
 obtain ⟨b,hb⟩:∃b,w.heap.size=b:=⟨_,rfl⟩
 have HLT:=lh (show A<b from hb ▸ lt_of_block HE0.out)
 refine HK0.out _ _ ?_
 refine wp_world (fun V=>Mut [A] w V/\V.heap[A]?=some (iobj 62 e)/\V.heap[b]?=some (cobj 34 a)/\V.heap[b+1]?=some (cobj 34 d)/\V.heap[b+1+1]?=some (cobj 34 zeroM)) ?_
  (by
   rw [←hb]
   exact ⟨((((Mut.refl _ _).alloc _).alloc _).alloc _),heap_up _ (heap_up _ (heap_up _ (HE0.out))),heap_up _ (heap_up _ (heap_at (cobj 34 a) (by simp))),heap_up _ (heap_at (cobj 34 d) (by simp)),heap_at (cobj 34 zeroM) (by simp)⟩)
 rintro V ⟨hm,hHE,hHA,hHD,hHR⟩
 rw [hb]
 have HM:=lh hm
 have HBW:=lh hb
 have HE:=lh hHE
 have HA:=lh hHA
 have HD:=lh hHD
 have HR:=lh hHR
 clear hm hHE hHA hHD hHR hb HK0 HE0
 refine wsk fun K1 HK1=>?_
 go_wp2_with fail
 refine HK1.out _ _ ?_
 obtain ⟨g0,hg⟩:∃g,V.heap.size=g:=⟨_,rfl⟩
 refine wp_world (fun V2=>Mut [A] w V2/\b<=g0/\V2.heap[A]?=some (iobj 62 e)/\V2.heap[b]?=some (cobj 34 a)/\V2.heap[b+1]?=some (cobj 34 d)/\V2.heap[b+1+1]?=some (cobj 34 zeroM)/\V2.heap[g0]?=some (cobj 34 zeroM)) ?_
  (by
   rw [←hg]
   exact ⟨HM.out.alloc _,by have:=HM.out.size;have:=HBW.out;omega,heap_up _ HE.out,heap_up _ HA.out,heap_up _ HD.out,heap_up _ HR.out,heap_at (cobj 34 zeroM) (by simp)⟩)
 replace HLT:=lh (show b<=g0/\A<g0/\b<g0/\b+1<g0/\b+1+1<g0/\A<b from by
  have hlt:=HLT.out
  have hbw:=HM.out.size
  have hbw2:=HBW.out
  have:=lt_of_block HE.out
  have:=lt_of_block HA.out
  have:=lt_of_block HD.out
  have:=lt_of_block HR.out
  omega)
 rintro V2 ⟨hm,-,qHE,qHA,qHD,qHR,hnew⟩
 rw [hg]
 replace HM:=lh hm
 replace HE:=lh qHE
 replace HA:=lh qHA
 replace HD:=lh qHD
 replace HR:=lh qHR
 have HO:=lh hnew
 clear hm hnew hg qHE qHA qHD qHR HK1
 clear V
 rename World=>V
 refine wsk fun KL HKL=>?_
 go_wp2_with fail
 obtain ⟨R,hR⟩:∃R,rOuter a d tPairs 0 (zeroM,e)=R:=⟨_,rfl⟩
 have HRR:=lh hR
 clear hR
 go_loopw [8] (fun x wr=>∃p:Nat,p<=21/\x=.int .i64 p/\Hid (∃(S:List (Int×Int)) (ee:Int),Mut [g0,A] V wr/\wr.heap[A]?=some (iobj 62 ee)/\wr.heap[g0]?=some (cobj 34 S)/\S.length=22/\rOuter a d (tPairs.drop p) p (S,ee)=R)) (fun x _=>21-(intOf x).toNat)
 case atStart=>exact ⟨0,by omega,rfl,lh ⟨zeroM,e,Mut.refl _ _,HE.out,HO.out,rfl,HRR.out⟩⟩
 case round =>
  obtain ⟨p,hp,rfl,HG⟩:=hrel
  obtain ⟨S,ee,hmu,hE,hO,hls,hq⟩:=HG.out
  have HQ:=lh hq
  have HLS:=lh hls
  clear hq HG hls
  have hm2:=HM.out.stepM hmu (by have:=HBW.out;have:=HLT.out;intro x hx;simp only [List.mem_cons,List.not_mem_nil,or_false] at hx;rcases hx with rfl | rfl<;>first | exact .inl (List.mem_singleton.2 rfl) | (right;omega))
  refine wp_world (fun U=>Mut [A] w U/\Mut [g0,A] V U/\U.heap[A]?=some (iobj 62 ee)/\U.heap[b]?=some (cobj 34 a)/\U.heap[b+1]?=some (cobj 34 d)/\U.heap[b+1+1]?=some (cobj 34 zeroM)/\U.heap[g0]?=some (cobj 34 S)) ?_ ⟨hm2,hmu,hE,((hmu.same _ (lt_of_block HA.out) (notin2 (by have:=HLT.out;omega) (by have:=HLT.out;omega))).trans HA.out),((hmu.same _ (lt_of_block HD.out) (notin2 (by have:=HLT.out;omega) (by have:=HLT.out;omega))).trans HD.out),((hmu.same _ (lt_of_block HR.out) (notin2 (by have:=HLT.out;omega) (by have:=HLT.out;omega))).trans HR.out),hO⟩
  clear hm2 HM HE HA HD HR HO hmu hE hO
  rintro V ⟨q1,q2,qHE,qHA,qHD,qHR,qHO⟩
  have HM:=lh q1
  have HGM:=lh q2
  have HE:=lh qHE
  have HA:=lh qHA
  have HD:=lh qHD
  have HR:=lh qHR
  have HO:=lh qHO
  clear q1 q2 qHE qHA qHD qHR qHO
  have HGO:=HGM
  clear HGM
  rcases Nat.lt_or_ge p 21 with hk | hk
  ·have t1:decide ((p:Int)<21)=true:=by simp;omega
   obtain ⟨i,j,hd1,hd2,hd3⟩:=pairs_at' hk
   rw [hd1] at HQ
   have HD2:=lh hd2
   have HD3:=lh hd3
   have HPL:=lh hk
   have p0:(0:Int)<=(p:Int):=by omega
   have p9:(p:Int)<21:=by omega
   obtain ⟨Ri,hRi⟩:∃Ri,rInner a d i j p tPairs 0 (S,ee)=Ri:=⟨_,rfl⟩
   have HRI:=lh hRi
   replace HQ:=lh (show rOuter a d (tPairs.drop (p+1)) (p+1) Ri=R by rw [←HQ.out,←hRi];rfl)
   clear hk hp hd1 hd2 hd3 hRi
   refine wsk fun KP HKP=>?_
   go_wp2_with fail
   refine HKP.out _ _ ?_
   refine wsk fun KQ HKQ=>?_
   refine wp_block ?_
   refine wsk fun KR HKR=>?_
   go_wp2_with fail
   refine HKR.out _ _ ?_
   refine wp_block ?_
   go_loopw [9] (fun x wr=>∃q:Nat,q<=21/\x=.int .i64 q/\Hid (∃(S:List (Int×Int)) (ee:Int),Mut [g0,A] V wr/\wr.heap[A]?=some (iobj 62 ee)/\wr.heap[g0]?=some (cobj 34 S)/\S.length=22/\rInner a d i j p (tPairs.drop q) q (S,ee)=Ri)) (fun x _=>21-(intOf x).toNat)
   case atStart=>exact ⟨0,by omega,rfl,lh ⟨S,ee,Mut.refl _ _,HE.out,HO.out,HLS.out,HRI.out⟩⟩
   case round =>
    clear HE HO HLS HRI
    obtain ⟨q,hq0,rfl,HG⟩:=hrel
    obtain ⟨S,ee,hmu,hE,hO,hls,hq⟩:=HG.out
    have HQ2:=lh hq
    have HLS:=lh hls
    clear hq HG hls
    have hm2:=HM.out.stepM hmu (by have:=HBW.out;have:=HLT.out;intro x hx;simp only [List.mem_cons,List.not_mem_nil,or_false] at hx;rcases hx with rfl | rfl<;>first | exact .inl (List.mem_singleton.2 rfl) | (right;omega))
    refine wp_world (fun U=>Mut [A] w U/\Mut [g0,A] V U/\U.heap[A]?=some (iobj 62 ee)/\U.heap[b]?=some (cobj 34 a)/\U.heap[b+1]?=some (cobj 34 d)/\U.heap[b+1+1]?=some (cobj 34 zeroM)/\U.heap[g0]?=some (cobj 34 S)) ?_ ⟨hm2,hmu,hE,((hmu.same _ (lt_of_block HA.out) (notin2 (by have:=HLT.out;omega) (by have:=HLT.out;omega))).trans HA.out),((hmu.same _ (lt_of_block HD.out) (notin2 (by have:=HLT.out;omega) (by have:=HLT.out;omega))).trans HD.out),((hmu.same _ (lt_of_block HR.out) (notin2 (by have:=HLT.out;omega) (by have:=HLT.out;omega))).trans HR.out),hO⟩
    clear hm2 HM HA HD HR hmu hE hO
    rintro V ⟨q1,q2,qHE,qHA,qHD,qHR,qHO⟩
    have HM:=lh q1
    have HGM:=lh q2
    have HE:=lh qHE
    have HA:=lh qHA
    have HD:=lh qHD
    have HR:=lh qHR
    have HO:=lh qHO
    clear q1 q2 qHE qHA qHD qHR qHO
    rcases Nat.lt_or_ge q 21 with hk | hk
    ·have t1:decide ((q:Int)<21)=true:=by simp;omega
     obtain ⟨k,l,hd1,hd2,hd3⟩:=pairs_at' hk
     rw [hd1] at HQ2
     have HD4:=lh hd2
     have HD5:=lh hd3
     have HQL:=lh hk
     have q0:(0:Int)<=(q:Int):=by omega
     have q9:(q:Int)<21:=by omega
     have hij:=HD2.out
     have hkl:=HD4.out
     clear hk hq0 hd1 hd2 hd3
     refine wsk fun KS HKS=>?_
     go_wp2_with fail
     refine HKS.out _ _ ?_
     refine wsk fun KT HKT=>?_
     refine wp_block ?_
     refine wsk fun K8 HK8=>?_
     refine wc (n8 (nn::nn::some 10::some 11::n8 (nn::nn::nn::nn::some 24::some 25::some 26::some 27::some 28::n8 (n8 (n8 (n8 (n8 (n8 (n8 (n8 (n8 (n8 (n8 (nn::nn::nn::[])))))))))))))) (fun s w'=>Mut [] V w'/\s 10=.int .i64 ((i:Nat):Int)/\s 11=.int .i64 ((j:Nat):Int)) ?_ ?_
     ·intro Q2 hQ2
      refine wG (Zp8 V p i j) ?_ ?_ ?_
      ·exact ⟨Mut.start _ false _,nB,nB,nB,nB,nB,nB,nB⟩
      ·refine aC ?_ (aC ?_ (aC ?_ (aC ?_ (aC ?_ (aC ?_ (aC ?_ aN))))))
       ·intro L s w2 h hk hd hn K hK
        exact rs_move rfl (hk 8) (hK {h with e0:=rF})
       ·intro L s w2 h hk hd hn K hK
        have s25:=h.e0 hd.1
        go_simp
        refine (rf_expsP HD3.out HD2.out _).mono ?_
        rintro e w3 ⟨rfl,hb⟩
        exact .inl ⟨_,rfl,hK {h with mu:=h.mu.step hb,e1:=rF}⟩
       ·intro L s w2 h hk hd hn K hK
        exact rs_move rfl (h.e1 hd.1) (hK {h with e2:=rF})
       ·intro L s w2 h hk hd hn K hK
        exact rs_extract rfl (h.e2 hd.1) rfl (hK {h with e3:=rF})
       ·intro L s w2 h hk hd hn K hK
        exact rs_extract rfl (h.e2 hd.1) rfl (hK {h with e4:=rF})
       ·intro L s w2 h hk hd hn K hK
        exact rs_assign rfl (h.e3 hd.1) (hK {h with e5:=rF})
       ·intro L s w2 h hk hd hn K hK
        exact rs_assign rfl (h.e4 hd.1) (hK {h with e6:=rF})
      ·intro L s w2 h hk hl
       refine cA ?_ (hQ2 s w2 (⟨h.mu,h.e5 (hl 5),h.e6 (hl 6)⟩))
       exact fq hk
     rintro s8 V ⟨h1,k10,k11⟩
     simp only [mergeL]
     rw [k10]
     rw [k11]
     replace HE:=sm h1 HE
     replace HA:=sm h1 HA
     replace HD:=sm h1 HD
     replace HR:=sm h1 HR
     replace HO:=sm h1 HO
     replace HM:=mE HM h1
     have HF8:=lh (HGM.out.trans (h1.up (by simp)))
     clear h1 k10 k11
     refine HK8.out _ _ ?_
     refine wsk fun K9 HK9=>?_
     refine wc (n8 (nn::nn::nn::nn::some 12::some 13::n8 (nn::nn::nn::nn::nn::nn::nn::some 29::some 30::some 31::some 32::some 33::n8 (n8 (n8 (n8 (n8 (n8 (n8 (n8 (n8 (n8 (nn::nn::nn::nn::nn::nn::[]))))))))))))) (fun s w'=>Mut [] V w'/\s 12=.int .i64 ((k:Nat):Int)/\s 13=.int .i64 ((l:Nat):Int)) ?_ ?_
     ·intro Q2 hQ2
      refine wG (Zp9 V q k l) ?_ ?_ ?_
      ·exact ⟨Mut.start _ false _,nB,nB,nB,nB,nB,nB,nB⟩
      ·refine aC ?_ (aC ?_ (aC ?_ (aC ?_ (aC ?_ (aC ?_ (aC ?_ aN))))))
       ·intro L s w2 h hk hd hn K hK
        exact rs_move rfl (hk 9) (hK {h with e0:=rF})
       ·intro L s w2 h hk hd hn K hK
        have s30:=h.e0 hd.1
        go_simp
        refine (rf_expsP HD5.out HD4.out _).mono ?_
        rintro e w3 ⟨rfl,hb⟩
        exact .inl ⟨_,rfl,hK {h with mu:=h.mu.step hb,e1:=rF}⟩
       ·intro L s w2 h hk hd hn K hK
        exact rs_move rfl (h.e1 hd.1) (hK {h with e2:=rF})
       ·intro L s w2 h hk hd hn K hK
        exact rs_extract rfl (h.e2 hd.1) rfl (hK {h with e3:=rF})
       ·intro L s w2 h hk hd hn K hK
        exact rs_extract rfl (h.e2 hd.1) rfl (hK {h with e4:=rF})
       ·intro L s w2 h hk hd hn K hK
        exact rs_assign rfl (h.e3 hd.1) (hK {h with e5:=rF})
       ·intro L s w2 h hk hd hn K hK
        exact rs_assign rfl (h.e4 hd.1) (hK {h with e6:=rF})
      ·intro L s w2 h hk hl
       refine cA ?_ (hQ2 s w2 (⟨h.mu,h.e5 (hl 5),h.e6 (hl 6)⟩))
       exact fq hk
     rintro s9 V ⟨h1,k12,k13⟩
     simp only [mergeL]
     rw [k12]
     rw [k13]
     replace HE:=sm h1 HE
     replace HA:=sm h1 HA
     replace HD:=sm h1 HD
     replace HR:=sm h1 HR
     replace HO:=sm h1 HO
     replace HM:=mE HM h1
     have HF9:=lh (HF8.out.trans (h1.up (by simp)))
     clear h1 k12 k13
     refine HK9.out _ _ ?_
     refine wsk fun K10 HK10=>?_
     refine wc (n8 (nn::nn::nn::nn::nn::nn::some 14::n8 (n8 (nn::nn::nn::some 34::some 35::some 36::some 37::some 38::some 39::some 40::some 41::some 42::some 43::n8 (n8 (n8 (n8 (n8 (n8 (n8 (n8 (n8 (nn::nn::nn::nn::[]))))))))))))) (fun s w'=>Mut [A] V w'/\w'.heap[A]?=some (iobj 62 ((gt ee (sMul (tAt a p) (tAt d q))).2))/\(∃g:Nat,s 14=.pointer (some ⟨g,0,none⟩)/\V.heap.size<=g/\w'.heap[g]?=some (cobj 31 [(gt ee (sMul (tAt a p) (tAt d q))).1]))) ?_ ?_
     ·intro Q2 hQ2
      refine wG (Zp10 V A a d b ee p q) ?_ ?_ ?_
      ·exact ⟨Mut.start _ true _,fun _=>HE.out,nB,nB,nB,nB,nB,nB,nB,nB,nB,nB,nB,nB,nB⟩
      ·refine aC ?_ (aC ?_ (aC ?_ (aC ?_ (aC ?_ (aC ?_ (aC ?_ (aC ?_ (aC ?_ (aC ?_ (aC ?_ (aC ?_ aN)))))))))))
       ·intro L s w2 h hk hd hn K hK
        exact rs_move rfl (hk 0) (hK {h with e0:=rF})
       ·intro L s w2 h hk hd hn K hK
        exact rs_move rfl (hk 8) (hK {h with e1:=rF})
       ·intro L s w2 h hk hd hn K hK
        exact rs_field rfl (hk 4) (fl_model0 _ _) (hK {h with e2:=rF})
       ·intro L s w2 h hk hd hn K hK
        exact rs_index rfl (h.e2 hd.1) (h.e1 hd.2.1) (ix_model _ p HPL.out) (hK {h with e3:=rF})
       ·intro L s w2 h hk hd hn K hK
        have kb:=kY h.mu HA (by have:=HLT.out;have:=lt_of_block HE.out;omega)
        exact rs_load rfl (h.e3 hd.1) (sp_load (p:=p) kb (by have:=HL.out;have:=HPL.out;omega)) (hK {h with e4:=rF})
       ·intro L s w2 h hk hd hn K hK
        exact rs_move rfl (hk 9) (hK {h with e5:=rF})
       ·intro L s w2 h hk hd hn K hK
        exact rs_field rfl (hk 5) (fl_model0 _ _) (hK {h with e6:=rF})
       ·intro L s w2 h hk hd hn K hK
        exact rs_index rfl (h.e6 hd.1) (h.e5 hd.2.1) (ix_model _ q HQL.out) (hK {h with e7:=rF})
       ·intro L s w2 h hk hd hn K hK
        have kb:=kY h.mu HD (by have:=HLT.out;have:=lt_of_block HE.out;omega)
        exact rs_load rfl (h.e7 hd.1) (sp_load (p:=q) kb (by have:=HLD.out;have:=HQL.out;omega)) (hK {h with e8:=rF})
       ·intro L s w2 h hk hd hn K hK
        have s34:=h.e0 hd.1
        have s38:=h.e4 hd.2.1
        have s42:=h.e8 hd.2.2.1
        have kb:=h.kg_c_0 hn
        go_simp
        refine (rf_mul _ ee (tAt a p) (tAt d q) _ kb).mono ?_
        rintro e w3 ⟨rfl,hkr,hb⟩
        exact .inl ⟨_,rfl,hK {h with mu:=mS h.mu hb (List.Mem.head _),al_w:=fun a=>aM hb HE.out (h.al_w a),kg_c_0:=nF,kg_c_1:=fun _=>hkr,e9:=rF}⟩
       ·intro L s w2 h hk hd hn K hK
        go_simp
        exact hK {h with mu:=h.mu.alloc _,kg_c_0:=fun a=>(heap_up _ (h.kg_c_0 a)),kg_c_1:=fun a=>(heap_up _ (h.kg_c_1 a)),al_w:=fun _=>aW h.mu.size h.b11_10 hn,b11_10:=rF}
       ·intro L s w2 h hk hd hn K hK
        obtain ⟨g,hg0,hg1,hgl,hg2,hg3⟩:=h.al_w hd.1
        have kb:=hg2 hn
        exact rs_store rfl hg0 (h.e9 hd.2.1) (sp_store (p:=0) kb (by simp) _) (hK {h with mu:=h.mu.putNew hg1 _,kg_c_0:=fun a=>pO (by have:=h.mu.size;have:=hg1;have:=HLT.out;have:=lt_of_block HE.out;omega) (h.kg_c_0 a),kg_c_1:=fun a=>pO (by have:=h.mu.size;have:=hg1;have:=HLT.out;have:=lt_of_block HE.out;omega) (h.kg_c_1 a),al_w:=fun _=>aT hg0 hg1 hgl kb,b11_10:=fun _=>hd.1})
      ·intro L s w2 h hk hl
       refine cA ?_ (hQ2 s w2 (⟨h.mu,h.kg_c_1 (hl 9),aE (h.al_w (hl 10)) (hl 11)⟩))
       exact fq hk
     rintro s10 V ⟨h1,c_c,⟨gw,k_w,g_w,c_w⟩⟩
     simp only [mergeL]
     rw [k_w]
     replace HLT:=lh (show b<=gw/\A<gw/\b<gw/\b+1<gw/\b+1+1<gw/\g0<gw/\b<=g0/\A<g0/\b<g0/\b+1<g0/\b+1+1<g0/\A<b from by
      have hlt:=HLT.out
      have hbw:=HM.out.size
      have hbw2:=HBW.out
      have:=lt_of_block HE.out
      have:=lt_of_block HA.out
      have:=lt_of_block HD.out
      have:=lt_of_block HR.out
      have:=lt_of_block HO.out
      omega)
     replace HE:=lh c_c
     replace HA:=j1 h1 HA (by have:=HLT.out;omega)
     replace HD:=j1 h1 HD (by have:=HLT.out;omega)
     replace HR:=j1 h1 HR (by have:=HLT.out;omega)
     replace HO:=j1 h1 HO (by have:=HLT.out;omega)
     have HW:=lh c_w
     replace HM:=lh (HM.out.stepM h1 (by have:=HBW.out;have:=HLT.out;intro x hx;rw [List.mem_singleton.1 hx];first | exact .inl (List.mem_singleton.2 rfl) | (right;omega)))
     have HF10:=lh (HF9.out.trans (h1.up (by simp)))
     clear h1 c_c k_w g_w c_w
     refine HK10.out _ _ ?_
     rcases Nat.lt_or_ge 5 (i+j+k+l) with h5 | h5
     ·skip
      refine wsk fun K11 HK11=>?_
      refine wc (n8 (n8 (n8 (n8 (n8 (nn::nn::nn::nn::some 44::some 45::some 46::some 47::some 48::some 49::some 50::some 51::n8 (n8 (n8 (n8 (n8 (n8 (n8 (n8 (nn::nn::nn::nn::[])))))))))))))) (fun s w'=>Mut [] V w'/\s 51=.bool false) ?_ ?_
      ·intro Q2 hQ2
       refine wG (Zq11 V i j k l) ?_ ?_ ?_
       ·exact ⟨Mut.start _ false _,nB,nB,nB,nB,nB,nB,nB,nB⟩
       ·refine aC ?_ (aC ?_ (aC ?_ (aC ?_ (aC ?_ (aC ?_ (aC ?_ (aC ?_ aN)))))))
        ·intro L s w2 h hk hd hn K hK
         exact rs_move rfl (hk 10) (hK {h with e0:=rF})
        ·intro L s w2 h hk hd hn K hK
         exact rs_move rfl (hk 11) (hK {h with e1:=rF})
        ·intro L s w2 h hk hd hn K hK
         have s44:=h.e0 hd.1
         have s45:=h.e1 hd.2.1
         go_simp
         exact hK {h with e2:=fun _=>congrArg (Value.int .i64) (wrap_nat (i) (j) (by omega))}
        ·intro L s w2 h hk hd hn K hK
         exact rs_move rfl (hk 12) (hK {h with e3:=rF})
        ·intro L s w2 h hk hd hn K hK
         have s46:=h.e2 hd.1
         have s47:=h.e3 hd.2.1
         go_simp
         exact hK {h with e4:=fun _=>congrArg (Value.int .i64) (wrap_nat (i+j) (k) (by omega))}
        ·intro L s w2 h hk hd hn K hK
         exact rs_move rfl (hk 13) (hK {h with e5:=rF})
        ·intro L s w2 h hk hd hn K hK
         have s48:=h.e4 hd.1
         have s49:=h.e5 hd.2.1
         go_simp
         exact hK {h with e6:=fun _=>congrArg (Value.int .i64) (wrap_nat (i+j+k) (l) (by omega))}
        ·intro L s w2 h hk hd hn K hK
         have s50:=h.e6 hd.1
         go_simp
         exact hK {h with e7:=fun _=>congrArg Value.bool (by simp;omega)}
       ·intro L s w2 h hk hl
        refine cA ?_ (hQ2 s w2 (⟨h.mu,h.e7 (hl 7)⟩))
        exact fq hk
      rintro s11 V ⟨h1,k51⟩
      simp only [mergeL]
      rw [k51]
      replace HE:=sm h1 HE
      replace HA:=sm h1 HA
      replace HD:=sm h1 HD
      replace HR:=sm h1 HR
      replace HO:=sm h1 HO
      replace HW:=sm h1 HW
      replace HM:=mE HM h1
      have HF11:=lh (HF10.out.trans (h1.up (by simp)))
      clear h1 k51
      refine HK11.out _ _ ?_
      refine wp_cond_false (by rfl) ?_
      refine wc (n8 (n8 (n8 (n8 (n8 (n8 (n8 (n8 (nn::nn::nn::nn::nn::some 69::some 70::some 71::some 72::some 73::some 74::some 75::some 76::some 77::some 78::some 79::some 80::some 81::some 82::some 83::n8 (n8 (n8 (n8 (nn::nn::nn::nn::[]))))))))))))) (fun _ w'=>Mut [g0,A] V w'/\w'.heap[g0]?=some (cobj 34 (S.set 21 (gt (gt (gt ee (sMul (tAt a p) (tAt d q))).2 (sMul (gt ee (sMul (tAt a p) (tAt d q))).1 (tReach (i+k) (j+l)))).2 (sAdd (tAt S 21) (gt (gt ee (sMul (tAt a p) (tAt d q))).2 (sMul (gt ee (sMul (tAt a p) (tAt d q))).1 (tReach (i+k) (j+l)))).1)).1))/\w'.heap[A]?=some (iobj 62 ((gt ((gt ((gt ee (sMul (tAt a p) (tAt d q))).2) (sMul ((gt ee (sMul (tAt a p) (tAt d q))).1) (tReach (i+k) (j+l)))).2) (sAdd (tAt S 21) ((gt ((gt ee (sMul (tAt a p) (tAt d q))).2) (sMul ((gt ee (sMul (tAt a p) (tAt d q))).1) (tReach (i+k) (j+l)))).1))).2))) ?_ ?_
      ·intro Q2 hQ2
       refine wG (Zq14 V A a d g0 S ee p q i j k l) ?_ ?_ ?_
       ·exact ⟨Mut.start _ true _,fun _=>HO.out,nB,fun _=>HE.out,nB,nB,nB,nB,nB,nB,nB,nB,nB,nB,nB,nB,nB,nB,nB,nB,nB,nB,nB⟩
       ·refine aC ?_ (aC ?_ (aC ?_ (aC ?_ (aC ?_ (aC ?_ (aC ?_ (aC ?_ (aC ?_ (aC ?_ (aC ?_ (aC ?_ (aC ?_ (aC ?_ (aC ?_ (aC ?_ aN)))))))))))))))
        ·intro L s w2 h hk hd hn K hK
         exact rs_move rfl (hk 0) (hK {h with e0:=rF})
        ·intro L s w2 h hk hd hn K hK
         exact rs_field rfl (hk 7) (fl_model1 _ _) (hK {h with e1:=rF})
        ·intro L s w2 h hk hd hn K hK
         have kb:=(h.kt_o (bF h.b15_2 hn))
         exact rs_load rfl (h.e1 hd.1) (sp_load (p:=21) kb (by have:=HLS.out;omega)) (hK {h with e2:=rF,b15_2:=rF})
        ·intro L s w2 h hk hd hn K hK
         exact rs_move rfl (hk 0) (hK {h with e3:=rF})
        ·intro L s w2 h hk hd hn K hK
         have kb:=kX h.mu HW (by have:=HLT.out;have:=lt_of_block HE.out;omega) (by have:=HLT.out;have:=lt_of_block HE.out;omega)
         exact rs_load rfl (hk 14) (sp_load (p:=0) kb (by simp)) (hK {h with e4:=rF})
        ·intro L s w2 h hk hd hn K hK
         exact rs_move rfl (hk 10) (hK {h with e5:=rF})
        ·intro L s w2 h hk hd hn K hK
         exact rs_move rfl (hk 12) (hK {h with e6:=rF})
        ·intro L s w2 h hk hd hn K hK
         have s74:=h.e5 hd.1
         have s75:=h.e6 hd.2.1
         go_simp
         exact hK {h with e7:=fun _=>congrArg (Value.int .i64) (wrap_nat (i) (k) (by omega))}
        ·intro L s w2 h hk hd hn K hK
         exact rs_move rfl (hk 11) (hK {h with e8:=rF})
        ·intro L s w2 h hk hd hn K hK
         exact rs_move rfl (hk 13) (hK {h with e9:=rF})
        ·intro L s w2 h hk hd hn K hK
         have s77:=h.e8 hd.1
         have s78:=h.e9 hd.2.1
         go_simp
         exact hK {h with e10:=fun _=>congrArg (Value.int .i64) (wrap_nat (j) (l) (by omega))}
        ·intro L s w2 h hk hd hn K hK
         have s76:=h.e7 hd.1
         have s79:=h.e10 hd.2.1
         go_simp
         refine (rf_rang (i+k) (j+l) (by omega) (by omega) _).mono ?_
         rintro e w3 ⟨rfl,hb⟩
         exact .inl ⟨_,rfl,hK {h with mu:=h.mu.step hb,kt_o:=fun a=>bk hb (h.kt_o a),kr_o:=fun a=>bk hb (h.kr_o a),kg_c_0:=fun a=>bk hb (h.kg_c_0 a),kg_c_1:=fun a c=>bk hb (h.kg_c_1 a c),kg_c_2:=fun a=>bk hb (h.kg_c_2 a),e11:=rF}⟩
        ·intro L s w2 h hk hd hn K hK
         have s72:=h.e3 hd.1
         have s73:=h.e4 hd.2.1
         have s80:=h.e11 hd.2.2.1
         have kb:=h.kg_c_0 hn
         go_simp
         refine (rf_mul _ ((gt ee (sMul (tAt a p) (tAt d q))).2) ((gt ee (sMul (tAt a p) (tAt d q))).1) (tReach (i+k) (j+l)) _ kb).mono ?_
         rintro e w3 ⟨rfl,hkr,hb⟩
         exact .inl ⟨_,rfl,hK {h with mu:=mS h.mu hb (List.Mem.tail _ (List.Mem.head _)),kt_o:=fun a=>hS hb (by have:=HLT.out;have:=lt_of_block HE.out;omega) (h.kt_o a),kr_o:=fun a=>hS hb (by have:=HLT.out;have:=lt_of_block HE.out;omega) (h.kr_o a),kg_c_0:=nF,kg_c_1:=fun _ _=>hkr,kg_c_2:=fun a=>aB (h.b13_12 a) hn,e12:=rF,b13_12:=rF}⟩
        ·intro L s w2 h hk hd hn K hK
         have s69:=h.e0 hd.1
         have s71:=h.e2 hd.2.1
         have s81:=h.e12 hd.2.2.1
         have kb:=h.kg_c_1 hd.2.2.1 hn
         go_simp
         refine (rf_add _ ((gt ((gt ee (sMul (tAt a p) (tAt d q))).2) (sMul ((gt ee (sMul (tAt a p) (tAt d q))).1) (tReach (i+k) (j+l)))).2) (tAt S 21) ((gt ((gt ee (sMul (tAt a p) (tAt d q))).2) (sMul ((gt ee (sMul (tAt a p) (tAt d q))).1) (tReach (i+k) (j+l)))).1) _ kb).mono ?_
         rintro e w3 ⟨rfl,hkr,hb⟩
         exact .inl ⟨_,rfl,hK {h with mu:=mS h.mu hb (List.Mem.tail _ (List.Mem.head _)),kt_o:=fun a=>hS hb (by have:=HLT.out;have:=lt_of_block HE.out;omega) (h.kt_o a),kr_o:=fun a=>hS hb (by have:=HLT.out;have:=lt_of_block HE.out;omega) (h.kr_o a),kg_c_0:=fun a=>absurd (a.symm.trans hd.2.2.1) bft,kg_c_1:=fun a c=>absurd c.symm bft,kg_c_2:=fun _=>hkr,e13:=rF,b13_12:=fun _=>hd.2.2.1}⟩
        ·intro L s w2 h hk hd hn K hK
         exact rs_field rfl (hk 7) (fl_model1 _ _) (hK {h with e14:=rF})
        ·intro L s w2 h hk hd hn K hK
         have kb:=h.kt_o hn
         exact rs_store rfl (h.e14 hd.1) (h.e13 hd.2.1) (sp_store (p:=21) kb (by have:=HLS.out;omega) ((gt ((gt ((gt ee (sMul (tAt a p) (tAt d q))).2) (sMul ((gt ee (sMul (tAt a p) (tAt d q))).1) (tReach (i+k) (j+l)))).2) (sAdd (tAt S 21) ((gt ((gt ee (sMul (tAt a p) (tAt d q))).2) (sMul ((gt ee (sMul (tAt a p) (tAt d q))).1) (tReach (i+k) (j+l)))).1))).1)) (hK {h with mu:=h.mu.put (List.Mem.head _) _,kg_c_0:=fun a=>pO (by have:=HLT.out;have:=lt_of_block HE.out;omega) (h.kg_c_0 a),kg_c_1:=fun a c=>pO (by have:=HLT.out;have:=lt_of_block HE.out;omega) (h.kg_c_1 a c),kg_c_2:=fun a=>pO (by have:=HLT.out;have:=lt_of_block HE.out;omega) (h.kg_c_2 a),kt_o:=nF,kr_o:=fun _=>pH kb,b15_2:=fun _=>hd.2.2.2.2.2.1})
       ·intro L s w2 h hk hl
        refine cA ?_ (hQ2 s w2 (⟨h.mu,h.kr_o (hl 15),h.kg_c_2 (hl 13)⟩))
        exact fq hk
      rintro s14 V ⟨h1,c_o,c_c⟩
      simp only [mergeL]
      replace HE:=lh c_c
      replace HA:=j2 h1 HA (by have:=HLT.out;omega) (by have:=HLT.out;omega)
      replace HD:=j2 h1 HD (by have:=HLT.out;omega) (by have:=HLT.out;omega)
      replace HR:=j2 h1 HR (by have:=HLT.out;omega) (by have:=HLT.out;omega)
      replace HO:=lh c_o
      replace HW:=j2 h1 HW (by have:=HLT.out;omega) (by have:=HLT.out;omega)
      replace HM:=lh (HM.out.stepM h1 (by have:=HBW.out;have:=HLT.out;intro x hx;simp only [List.mem_cons,List.not_mem_nil,or_false] at hx;rcases hx with rfl | rfl<;>first | exact .inl (List.mem_singleton.2 rfl) | (right;omega)))
      have HFX:=lh (HF11.out.trans h1)
      clear h1 c_o c_c
      have HQN:=lh (show rInner a d i j p (tPairs.drop (q+1)) (q+1) (S.set 21 (gt (gt (gt ee (sMul (tAt a p) (tAt d q))).2 (sMul (gt ee (sMul (tAt a p) (tAt d q))).1 (tReach (i+k) (j+l)))).2 (sAdd (tAt S 21) (gt (gt ee (sMul (tAt a p) (tAt d q))).2 (sMul (gt ee (sMul (tAt a p) (tAt d q))).1 (tReach (i+k) (j+l)))).1)).1,(gt (gt (gt ee (sMul (tAt a p) (tAt d q))).2 (sMul (gt ee (sMul (tAt a p) (tAt d q))).1 (tReach (i+k) (j+l)))).2 (sAdd (tAt S 21) (gt (gt ee (sMul (tAt a p) (tAt d q))).2 (sMul (gt ee (sMul (tAt a p) (tAt d q))).1 (tReach (i+k) (j+l)))).1)).2)=Ri by
       rw [←HQ2.out,rInner]
       unfold rStep
       rw [if_pos (by omega)]
       rfl)
      go_wp2_with fail
      refine HKT.out _ _ ?_
      go_wp2_with fail
      go_roundw
      case rel=>first | exact ⟨q+1,by have:=HQL.out;omega,by go_num,lh ⟨_,_,HFX.out,HE.out,HO.out,by rw [List.length_set];exact HLS.out,HQN.out⟩⟩ | ((repeat apply Exists.intro);exact ⟨⟨q+1,by have:=HQL.out;omega,by go_num,lh ⟨_,_,HFX.out,HE.out,HO.out,by rw [List.length_set];exact HLS.out,HQN.out⟩⟩,rfl⟩)
      case measure=>simp [intOf];have:=HQL.out;omega
     ·skip
      refine wsk fun K11 HK11=>?_
      refine wc (n8 (n8 (n8 (n8 (n8 (nn::nn::nn::nn::some 44::some 45::some 46::some 47::some 48::some 49::some 50::some 51::n8 (n8 (n8 (n8 (n8 (n8 (n8 (n8 (nn::nn::nn::nn::[])))))))))))))) (fun s w'=>Mut [] V w'/\s 51=.bool true) ?_ ?_
      ·intro Q2 hQ2
       refine wG (Zp11 V i j k l) ?_ ?_ ?_
       ·exact ⟨Mut.start _ false _,nB,nB,nB,nB,nB,nB,nB,nB⟩
       ·refine aC ?_ (aC ?_ (aC ?_ (aC ?_ (aC ?_ (aC ?_ (aC ?_ (aC ?_ aN)))))))
        ·intro L s w2 h hk hd hn K hK
         exact rs_move rfl (hk 10) (hK {h with e0:=rF})
        ·intro L s w2 h hk hd hn K hK
         exact rs_move rfl (hk 11) (hK {h with e1:=rF})
        ·intro L s w2 h hk hd hn K hK
         have s44:=h.e0 hd.1
         have s45:=h.e1 hd.2.1
         go_simp
         exact hK {h with e2:=fun _=>congrArg (Value.int .i64) (wrap_nat (i) (j) (by omega))}
        ·intro L s w2 h hk hd hn K hK
         exact rs_move rfl (hk 12) (hK {h with e3:=rF})
        ·intro L s w2 h hk hd hn K hK
         have s46:=h.e2 hd.1
         have s47:=h.e3 hd.2.1
         go_simp
         exact hK {h with e4:=fun _=>congrArg (Value.int .i64) (wrap_nat (i+j) (k) (by omega))}
        ·intro L s w2 h hk hd hn K hK
         exact rs_move rfl (hk 13) (hK {h with e5:=rF})
        ·intro L s w2 h hk hd hn K hK
         have s48:=h.e4 hd.1
         have s49:=h.e5 hd.2.1
         go_simp
         exact hK {h with e6:=fun _=>congrArg (Value.int .i64) (wrap_nat (i+j+k) (l) (by omega))}
        ·intro L s w2 h hk hd hn K hK
         have s50:=h.e6 hd.1
         go_simp
         exact hK {h with e7:=fun _=>congrArg Value.bool (by simp;omega)}
       ·intro L s w2 h hk hl
        refine cA ?_ (hQ2 s w2 (⟨h.mu,h.e7 (hl 7)⟩))
        exact fq hk
      rintro s11 V ⟨h1,k51⟩
      simp only [mergeL]
      rw [k51]
      replace HE:=sm h1 HE
      replace HA:=sm h1 HA
      replace HD:=sm h1 HD
      replace HR:=sm h1 HR
      replace HO:=sm h1 HO
      replace HW:=sm h1 HW
      replace HM:=mE HM h1
      have HF11:=lh (HF10.out.trans (h1.up (by simp)))
      clear h1 k51
      refine HK11.out _ _ ?_
      refine wp_cond_true (by rfl) ?_
      refine wsk fun K12 HK12=>?_
      refine wc (n8 (nn::nn::nn::nn::nn::nn::nn::some 15::n8 (n8 (n8 (n8 (nn::nn::nn::nn::some 52::some 53::some 54::some 55::some 56::some 57::some 58::n8 (n8 (n8 (n8 (n8 (n8 (n8 (nn::nn::nn::nn::nn::[]))))))))))))) (fun s w'=>Mut [] V w'/\s 15=.int .i64 ((tPlace (i+k) (j+l):Nat):Int)) ?_ ?_
      ·intro Q2 hQ2
       refine wG (Zp12 V i j k l) ?_ ?_ ?_
       ·exact ⟨Mut.start _ false _,nB,nB,nB,nB,nB,nB,nB,nB⟩
       ·refine aC ?_ (aC ?_ (aC ?_ (aC ?_ (aC ?_ (aC ?_ (aC ?_ (aC ?_ aN)))))))
        ·intro L s w2 h hk hd hn K hK
         exact rs_move rfl (hk 10) (hK {h with e0:=rF})
        ·intro L s w2 h hk hd hn K hK
         exact rs_move rfl (hk 12) (hK {h with e1:=rF})
        ·intro L s w2 h hk hd hn K hK
         have s52:=h.e0 hd.1
         have s53:=h.e1 hd.2.1
         go_simp
         exact hK {h with e2:=fun _=>congrArg (Value.int .i64) (wrap_nat (i) (k) (by omega))}
        ·intro L s w2 h hk hd hn K hK
         exact rs_move rfl (hk 11) (hK {h with e3:=rF})
        ·intro L s w2 h hk hd hn K hK
         exact rs_move rfl (hk 13) (hK {h with e4:=rF})
        ·intro L s w2 h hk hd hn K hK
         have s55:=h.e3 hd.1
         have s56:=h.e4 hd.2.1
         go_simp
         exact hK {h with e5:=fun _=>congrArg (Value.int .i64) (wrap_nat (j) (l) (by omega))}
        ·intro L s w2 h hk hd hn K hK
         have s54:=h.e2 hd.1
         have s57:=h.e5 hd.2.1
         go_simp
         refine (rf_place (i+k) (j+l) (by omega) _).mono ?_
         rintro e w3 ⟨rfl,hb⟩
         exact .inl ⟨_,rfl,hK {h with mu:=h.mu.step hb,e6:=rF}⟩
        ·intro L s w2 h hk hd hn K hK
         exact rs_assign rfl (h.e6 hd.1) (hK {h with e7:=rF})
       ·intro L s w2 h hk hl
        refine cA ?_ (hQ2 s w2 (⟨h.mu,h.e7 (hl 7)⟩))
        exact fq hk
      rintro s12 V ⟨h1,k15⟩
      simp only [mergeL]
      rw [k15]
      replace HE:=sm h1 HE
      replace HA:=sm h1 HA
      replace HD:=sm h1 HD
      replace HR:=sm h1 HR
      replace HO:=sm h1 HO
      replace HW:=sm h1 HW
      replace HM:=mE HM h1
      have HF12:=lh (HF11.out.trans (h1.up (by simp)))
      clear h1 k15
      refine HK12.out _ _ ?_
      obtain ⟨n,hn⟩:∃n,tPlace (i+k) (j+l)=n:=⟨_,rfl⟩
      rw [hn]
      have HNN:=lh hn
      have HNL:=lh (show n<21 by rw [←hn];exact tPlace_lt ⟨i+k,by omega⟩ ⟨j+l,by omega⟩ (by dsimp only;omega))
      have n0:(0:Int)<=(n:Int):=by omega
      have n9:(n:Int)<21:=by have:=HNL.out;omega
      clear hn
      refine wc (n8 (n8 (n8 (n8 (n8 (n8 (n8 (nn::nn::nn::some 59::some 60::some 61::some 62::some 63::some 64::some 65::some 66::some 67::some 68::n8 (n8 (n8 (n8 (n8 (n8 (nn::nn::nn::[])))))))))))))) (fun _ w'=>Mut [g0,A] V w'/\w'.heap[g0]?=some (cobj 34 (S.set n (gt (gt ee (sMul (tAt a p) (tAt d q))).2 (sAdd (tAt S n) (gt ee (sMul (tAt a p) (tAt d q))).1)).1))/\w'.heap[A]?=some (iobj 62 ((gt ((gt ee (sMul (tAt a p) (tAt d q))).2) (sAdd (tAt S n) ((gt ee (sMul (tAt a p) (tAt d q))).1))).2))) ?_ ?_
      ·intro Q2 hQ2
       refine wG (Zp13 V A a d g0 S ee p q n) ?_ ?_ ?_
       ·exact ⟨Mut.start _ true _,fun _=>HO.out,nB,fun _=>HE.out,nB,nB,nB,nB,nB,nB,nB,nB,nB,nB,nB,nB⟩
       ·refine aC ?_ (aC ?_ (aC ?_ (aC ?_ (aC ?_ (aC ?_ (aC ?_ (aC ?_ (aC ?_ (aC ?_ (aC ?_ aN))))))))))
        ·intro L s w2 h hk hd hn K hK
         exact rs_move rfl (hk 15) (hK {h with e0:=rF})
        ·intro L s w2 h hk hd hn K hK
         exact rs_move rfl (hk 0) (hK {h with e1:=rF})
        ·intro L s w2 h hk hd hn K hK
         exact rs_move rfl (hk 15) (hK {h with e2:=rF})
        ·intro L s w2 h hk hd hn K hK
         exact rs_field rfl (hk 7) (fl_model0 _ _) (hK {h with e3:=rF})
        ·intro L s w2 h hk hd hn K hK
         exact rs_index rfl (h.e3 hd.1) (h.e2 hd.2.1) (ix_model _ n HNL.out) (hK {h with e4:=rF})
        ·intro L s w2 h hk hd hn K hK
         have kb:=(h.kt_o (bF h.b10_5 hn))
         exact rs_load rfl (h.e4 hd.1) (sp_load (p:=n) kb (by have:=HLS.out;have:=HNL.out;omega)) (hK {h with e5:=rF,b10_5:=rF})
        ·intro L s w2 h hk hd hn K hK
         have kb:=kX h.mu HW (by have:=HLT.out;have:=lt_of_block HE.out;omega) (by have:=HLT.out;have:=lt_of_block HE.out;omega)
         exact rs_load rfl (hk 14) (sp_load (p:=0) kb (by simp)) (hK {h with e6:=rF})
        ·intro L s w2 h hk hd hn K hK
         have s60:=h.e1 hd.1
         have s64:=h.e5 hd.2.1
         have s65:=h.e6 hd.2.2.1
         have kb:=h.kg_c_0 hn
         go_simp
         refine (rf_add _ ((gt ee (sMul (tAt a p) (tAt d q))).2) (tAt S n) ((gt ee (sMul (tAt a p) (tAt d q))).1) _ kb).mono ?_
         rintro e w3 ⟨rfl,hkr,hb⟩
         exact .inl ⟨_,rfl,hK {h with mu:=mS h.mu hb (List.Mem.tail _ (List.Mem.head _)),kt_o:=fun a=>hS hb (by have:=HLT.out;have:=lt_of_block HE.out;omega) (h.kt_o a),kr_o:=fun a=>hS hb (by have:=HLT.out;have:=lt_of_block HE.out;omega) (h.kr_o a),kg_c_0:=nF,kg_c_1:=fun _=>hkr,e7:=rF}⟩
        ·intro L s w2 h hk hd hn K hK
         exact rs_field rfl (hk 7) (fl_model0 _ _) (hK {h with e8:=rF})
        ·intro L s w2 h hk hd hn K hK
         exact rs_index rfl (h.e8 hd.1) (h.e0 hd.2.1) (ix_model _ n HNL.out) (hK {h with e9:=rF})
        ·intro L s w2 h hk hd hn K hK
         have kb:=h.kt_o hn
         exact rs_store rfl (h.e9 hd.1) (h.e7 hd.2.1) (sp_store (p:=n) kb (by have:=HLS.out;have:=HNL.out;omega) ((gt ((gt ee (sMul (tAt a p) (tAt d q))).2) (sAdd (tAt S n) ((gt ee (sMul (tAt a p) (tAt d q))).1))).1)) (hK {h with mu:=h.mu.put (List.Mem.head _) _,kg_c_0:=fun a=>pO (by have:=HLT.out;have:=lt_of_block HE.out;omega) (h.kg_c_0 a),kg_c_1:=fun a=>pO (by have:=HLT.out;have:=lt_of_block HE.out;omega) (h.kg_c_1 a),kt_o:=nF,kr_o:=fun _=>pH kb,b10_5:=fun _=>hd.2.2.2.2.2.2.2.2.1})
       ·intro L s w2 h hk hl
        refine cA ?_ (hQ2 s w2 (⟨h.mu,h.kr_o (hl 10),h.kg_c_1 (hl 7)⟩))
        exact fq hk
      rintro s13 V ⟨h1,c_o,c_c⟩
      simp only [mergeL]
      replace HE:=lh c_c
      replace HA:=j2 h1 HA (by have:=HLT.out;omega) (by have:=HLT.out;omega)
      replace HD:=j2 h1 HD (by have:=HLT.out;omega) (by have:=HLT.out;omega)
      replace HR:=j2 h1 HR (by have:=HLT.out;omega) (by have:=HLT.out;omega)
      replace HO:=lh c_o
      replace HW:=j2 h1 HW (by have:=HLT.out;omega) (by have:=HLT.out;omega)
      replace HM:=lh (HM.out.stepM h1 (by have:=HBW.out;have:=HLT.out;intro x hx;simp only [List.mem_cons,List.not_mem_nil,or_false] at hx;rcases hx with rfl | rfl<;>first | exact .inl (List.mem_singleton.2 rfl) | (right;omega)))
      have HFX:=lh (HF12.out.trans h1)
      clear h1 c_o c_c
      have HQN:=lh (show rInner a d i j p (tPairs.drop (q+1)) (q+1) (S.set n (gt (gt ee (sMul (tAt a p) (tAt d q))).2 (sAdd (tAt S n) (gt ee (sMul (tAt a p) (tAt d q))).1)).1,(gt (gt ee (sMul (tAt a p) (tAt d q))).2 (sAdd (tAt S n) (gt ee (sMul (tAt a p) (tAt d q))).1)).2)=Ri by
       rw [←HQ2.out,rInner]
       unfold rStep
       rw [if_neg (by omega),HNN.out]
       rfl)
      go_wp2_with fail
      refine HKT.out _ _ ?_
      go_wp2_with fail
      go_roundw
      case rel=>first | exact ⟨q+1,by have:=HQL.out;omega,by go_num,lh ⟨_,_,HFX.out,HE.out,HO.out,by rw [List.length_set];exact HLS.out,HQN.out⟩⟩ | ((repeat apply Exists.intro);exact ⟨⟨q+1,by have:=HQL.out;omega,by go_num,lh ⟨_,_,HFX.out,HE.out,HO.out,by rw [List.length_set];exact HLS.out,HQN.out⟩⟩,rfl⟩)
      case measure=>simp [intOf];have:=HQL.out;omega
    ·obtain rfl:q=21:=by omega
     have HGN:=lh (HGO.out.trans HGM.out)
     go_wp2_with fail
     refine HKQ.out _ _ ?_
     clear hk hq0
     go_wp2_with fail
     go_roundw
     case rel=>first | exact ⟨p+1,by have:=HPL.out;omega,by go_num,lh ⟨S,ee,HGN.out,HE.out,HO.out,HLS.out,by rw [show (S,ee)=Ri from HQ2.out];exact HQ.out⟩⟩ | ((repeat apply Exists.intro);exact ⟨⟨p+1,by have:=HPL.out;omega,by go_num,lh ⟨S,ee,HGN.out,HE.out,HO.out,HLS.out,by rw [show (S,ee)=Ri from HQ2.out];exact HQ.out⟩⟩,rfl⟩)
     case measure=>simp [intOf];have:=HPL.out;omega
  ·obtain rfl:p=21:=by omega
   go_wp2_with fail
   refine HKL.out _ _ ?_
   clear hk hp
   replace HQ:=lh (show rProduct a d e=rRest a d (S,ee) by unfold rProduct;rw [HRR.out,←show (S,ee)=R from HQ.out])
   refine wsk fun K15 HK15=>?_
   refine wc (n8 (n8 (n8 (n8 (n8 (n8 (n8 (n8 (n8 (n8 (nn::nn::nn::nn::some 84::some 85::some 86::some 87::some 88::some 89::some 90::some 91::some 92::some 93::some 94::some 95::n8 (n8 (n8 ([])))))))))))))) (fun _ w'=>Mut [g0,A] V w'/\w'.heap[g0]?=some (cobj 34 (S.set 21 (gt (gt (gt ee (tSweep a)).2 (sMul (gt ee (tSweep a)).1 (tAt d 21))).2 (sAdd (tAt S 21) (gt (gt ee (tSweep a)).2 (sMul (gt ee (tSweep a)).1 (tAt d 21))).1)).1))/\w'.heap[A]?=some (iobj 62 ((gt ((gt ((gt ee (tSweep a)).2) (sMul ((gt ee (tSweep a)).1) (tAt d 21))).2) (sAdd (tAt S 21) ((gt ((gt ee (tSweep a)).2) (sMul ((gt ee (tSweep a)).1) (tAt d 21))).1))).2))) ?_ ?_
   ·intro Q2 hQ2
    refine wG (Zp15 V A a d b g0 S ee) ?_ ?_ ?_
    ·exact ⟨Mut.start _ true _,fun _=>HO.out,nB,fun _=>HE.out,nB,nB,nB,nB,nB,nB,nB,nB,nB,nB,nB,nB,nB,nB,nB,nB,nB,nB⟩
    ·refine aC ?_ (aC ?_ (aC ?_ (aC ?_ (aC ?_ (aC ?_ (aC ?_ (aC ?_ (aC ?_ (aC ?_ (aC ?_ (aC ?_ (aC ?_ aN))))))))))))
     ·intro L s w2 h hk hd hn K hK
      exact rs_move rfl (hk 0) (hK {h with e0:=rF})
     ·intro L s w2 h hk hd hn K hK
      exact rs_field rfl (hk 7) (fl_model1 _ _) (hK {h with e1:=rF})
     ·intro L s w2 h hk hd hn K hK
      have kb:=(h.kt_o (bF h.b12_2 hn))
      exact rs_load rfl (h.e1 hd.1) (sp_load (p:=21) kb (by have:=HLS.out;omega)) (hK {h with e2:=rF,b12_2:=rF})
     ·intro L s w2 h hk hd hn K hK
      exact rs_move rfl (hk 0) (hK {h with e3:=rF})
     ·intro L s w2 h hk hd hn K hK
      exact rs_move rfl (hk 0) (hK {h with e4:=rF})
     ·intro L s w2 h hk hd hn K hK
      have kb:=kX h.mu HA (by have:=HLT.out;have:=lt_of_block HE.out;omega) (by have:=HLT.out;have:=lt_of_block HE.out;omega)
      exact rs_load rfl (hk 4) (md_load kb HL.out) (hK {h with e5:=rF})
     ·intro L s w2 h hk hd hn K hK
      have s88:=h.e4 hd.1
      have s89:=h.e5 hd.2.1
      have kb:=h.kg_c_0 hn
      go_simp
      refine (rf_sweep _ ee a HL.out _ kb).mono ?_
      rintro e w3 ⟨rfl,hkr,hb⟩
      exact .inl ⟨_,rfl,hK {h with mu:=mS h.mu hb (List.Mem.tail _ (List.Mem.head _)),kt_o:=fun a=>hS hb (by have:=HLT.out;have:=lt_of_block HE.out;omega) (h.kt_o a),kr_o:=fun a=>hS hb (by have:=HLT.out;have:=lt_of_block HE.out;omega) (h.kr_o a),kg_c_0:=nF,kg_c_1:=fun _ _=>hkr,kg_c_2:=fun a _=>aB (h.b9_6 a) hn,kg_c_3:=fun a=>absurd (h.b9_6 (h.b10_9 a)) (by rw [hn];exact bft),e6:=rF,b9_6:=rF}⟩
     ·intro L s w2 h hk hd hn K hK
      exact rs_field rfl (hk 5) (fl_model1 _ _) (hK {h with e7:=rF})
     ·intro L s w2 h hk hd hn K hK
      have kb:=kX h.mu HD (by have:=HLT.out;have:=lt_of_block HE.out;omega) (by have:=HLT.out;have:=lt_of_block HE.out;omega)
      exact rs_load rfl (h.e7 hd.1) (sp_load (p:=21) kb (by have:=HLD.out;omega)) (hK {h with e8:=rF})
     ·intro L s w2 h hk hd hn K hK
      have s87:=h.e3 hd.1
      have s90:=h.e6 hd.2.1
      have s92:=h.e8 hd.2.2.1
      have kb:=h.kg_c_1 hd.2.1 hn
      go_simp
      refine (rf_mul _ ((gt ee (tSweep a)).2) ((gt ee (tSweep a)).1) (tAt d 21) _ kb).mono ?_
      rintro e w3 ⟨rfl,hkr,hb⟩
      exact .inl ⟨_,rfl,hK {h with mu:=mS h.mu hb (List.Mem.tail _ (List.Mem.head _)),kt_o:=fun a=>hS hb (by have:=HLT.out;have:=lt_of_block HE.out;omega) (h.kt_o a),kr_o:=fun a=>hS hb (by have:=HLT.out;have:=lt_of_block HE.out;omega) (h.kr_o a),kg_c_0:=fun a=>absurd (a.symm.trans hd.2.1) bft,kg_c_1:=fun a c=>absurd c.symm bft,kg_c_2:=fun _ _=>hkr,kg_c_3:=fun a=>aB (h.b10_9 a) hn,e9:=rF,b9_6:=fun _=>hd.2.1,b10_9:=rF}⟩
     ·intro L s w2 h hk hd hn K hK
      have s84:=h.e0 hd.1
      have s86:=h.e2 hd.2.1
      have s93:=h.e9 hd.2.2.1
      have kb:=h.kg_c_2 hd.2.2.1 hn
      go_simp
      refine (rf_add _ ((gt ((gt ee (tSweep a)).2) (sMul ((gt ee (tSweep a)).1) (tAt d 21))).2) (tAt S 21) ((gt ((gt ee (tSweep a)).2) (sMul ((gt ee (tSweep a)).1) (tAt d 21))).1) _ kb).mono ?_
      rintro e w3 ⟨rfl,hkr,hb⟩
      exact .inl ⟨_,rfl,hK {h with mu:=mS h.mu hb (List.Mem.tail _ (List.Mem.head _)),kt_o:=fun a=>hS hb (by have:=HLT.out;have:=lt_of_block HE.out;omega) (h.kt_o a),kr_o:=fun a=>hS hb (by have:=HLT.out;have:=lt_of_block HE.out;omega) (h.kr_o a),kg_c_0:=fun a=>absurd (a.symm.trans (h.b9_6 hd.2.2.1)) bft,kg_c_1:=fun a c=>absurd (c.symm.trans hd.2.2.1) bft,kg_c_2:=fun a c=>absurd c.symm bft,kg_c_3:=fun _=>hkr,e10:=rF,b10_9:=fun _=>hd.2.2.1}⟩
     ·intro L s w2 h hk hd hn K hK
      exact rs_field rfl (hk 7) (fl_model1 _ _) (hK {h with e11:=rF})
     ·intro L s w2 h hk hd hn K hK
      have kb:=h.kt_o hn
      exact rs_store rfl (h.e11 hd.1) (h.e10 hd.2.1) (sp_store (p:=21) kb (by have:=HLS.out;omega) ((gt ((gt ((gt ee (tSweep a)).2) (sMul ((gt ee (tSweep a)).1) (tAt d 21))).2) (sAdd (tAt S 21) ((gt ((gt ee (tSweep a)).2) (sMul ((gt ee (tSweep a)).1) (tAt d 21))).1))).1)) (hK {h with mu:=h.mu.put (List.Mem.head _) _,kg_c_0:=fun a=>pO (by have:=HLT.out;have:=lt_of_block HE.out;omega) (h.kg_c_0 a),kg_c_1:=fun a c=>pO (by have:=HLT.out;have:=lt_of_block HE.out;omega) (h.kg_c_1 a c),kg_c_2:=fun a c=>pO (by have:=HLT.out;have:=lt_of_block HE.out;omega) (h.kg_c_2 a c),kg_c_3:=fun a=>pO (by have:=HLT.out;have:=lt_of_block HE.out;omega) (h.kg_c_3 a),kt_o:=nF,kr_o:=fun _=>pH kb,b12_2:=fun _=>hd.2.2.2.2.2.1})
    ·intro L s w2 h hk hl
     refine cA ?_ (hQ2 s w2 (⟨h.mu,h.kr_o (hl 12),h.kg_c_3 (hl 10)⟩))
     exact fq hk
   rintro s15 V ⟨h1,c_o,c_c⟩
   simp only [mergeL]
   replace HE:=lh c_c
   replace HA:=j2 h1 HA (by have:=HLT.out;omega) (by have:=HLT.out;omega)
   replace HD:=j2 h1 HD (by have:=HLT.out;omega) (by have:=HLT.out;omega)
   replace HR:=j2 h1 HR (by have:=HLT.out;omega) (by have:=HLT.out;omega)
   replace HO:=lh c_o
   replace HM:=lh (HM.out.stepM h1 (by have:=HBW.out;have:=HLT.out;intro x hx;simp only [List.mem_cons,List.not_mem_nil,or_false] at hx;rcases hx with rfl | rfl<;>first | exact .inl (List.mem_singleton.2 rfl) | (right;omega)))
   clear h1 c_o c_c
   refine HK15.out _ _ ?_
   obtain ⟨S1,hS1⟩:∃x,rGrow (S,(gt ee (tSweep a)).2) (gt ee (tSweep a)).1 (tAt d 21)=x:=⟨_,rfl⟩
   replace HO:=lh (show V.heap[g0]?=some (cobj 34 S1.1) by rw [←hS1];exact HO.out)
   replace HE:=lh (show V.heap[A]?=some (iobj 62 S1.2) by rw [←hS1];exact HE.out)
   replace HLS:=lh (show S1.1.length=22 by rw [←hS1,rGrow_len];exact HLS.out)
   replace HQ:=lh (show rProduct a d e=rGrow (rGrow (S1.1,(rSweep d S1.2).2) (tAt a 21) (rSweep d S1.2).1) (tAt a 21) (tAt d 21) by rw [HQ.out];unfold rRest;simp only [rSweep_eq] at hS1 ⊢;rw [hS1])
   clear hS1
   refine wsk fun K16 HK16=>?_
   refine wc (n8 (n8 (n8 (n8 (n8 (n8 (n8 (n8 (n8 (n8 (n8 (n8 (some 96::some 97::some 98::some 99::some 100::some 101::some 102::some 103::some 104::some 105::some 106::some 107::n8 (nn::nn::nn::nn::[])))))))))))))) (fun _ w'=>Mut [g0,A] V w'/\w'.heap[g0]?=some (cobj 34 (S1.1.set 21 (gt (gt (gt S1.2 (tSweep d)).2 (sMul (tAt a 21) (gt S1.2 (tSweep d)).1)).2 (sAdd (tAt S1.1 21) (gt (gt S1.2 (tSweep d)).2 (sMul (tAt a 21) (gt S1.2 (tSweep d)).1)).1)).1))/\w'.heap[A]?=some (iobj 62 ((gt ((gt ((gt S1.2 (tSweep d)).2) (sMul (tAt a 21) ((gt S1.2 (tSweep d)).1))).2) (sAdd (tAt S1.1 21) ((gt ((gt S1.2 (tSweep d)).2) (sMul (tAt a 21) ((gt S1.2 (tSweep d)).1))).1))).2))) ?_ ?_
   ·intro Q2 hQ2
    refine wG (Zp16 V A a d b g0 S1) ?_ ?_ ?_
    ·exact ⟨Mut.start _ true _,fun _=>HO.out,nB,fun _=>HE.out,nB,nB,nB,nB,nB,nB,nB,nB,nB,nB,nB,nB,nB,nB,nB,nB,nB,nB⟩
    ·refine aC ?_ (aC ?_ (aC ?_ (aC ?_ (aC ?_ (aC ?_ (aC ?_ (aC ?_ (aC ?_ (aC ?_ (aC ?_ (aC ?_ (aC ?_ aN))))))))))))
     ·intro L s w2 h hk hd hn K hK
      exact rs_move rfl (hk 0) (hK {h with e0:=rF})
     ·intro L s w2 h hk hd hn K hK
      exact rs_field rfl (hk 7) (fl_model1 _ _) (hK {h with e1:=rF})
     ·intro L s w2 h hk hd hn K hK
      have kb:=(h.kt_o (bF h.b12_2 hn))
      exact rs_load rfl (h.e1 hd.1) (sp_load (p:=21) kb (by have:=HLS.out;omega)) (hK {h with e2:=rF,b12_2:=rF})
     ·intro L s w2 h hk hd hn K hK
      exact rs_move rfl (hk 0) (hK {h with e3:=rF})
     ·intro L s w2 h hk hd hn K hK
      exact rs_field rfl (hk 4) (fl_model1 _ _) (hK {h with e4:=rF})
     ·intro L s w2 h hk hd hn K hK
      have kb:=kX h.mu HA (by have:=HLT.out;have:=lt_of_block HE.out;omega) (by have:=HLT.out;have:=lt_of_block HE.out;omega)
      exact rs_load rfl (h.e4 hd.1) (sp_load (p:=21) kb (by have:=HL.out;omega)) (hK {h with e5:=rF})
     ·intro L s w2 h hk hd hn K hK
      exact rs_move rfl (hk 0) (hK {h with e6:=rF})
     ·intro L s w2 h hk hd hn K hK
      have kb:=kX h.mu HD (by have:=HLT.out;have:=lt_of_block HE.out;omega) (by have:=HLT.out;have:=lt_of_block HE.out;omega)
      exact rs_load rfl (hk 5) (md_load kb HLD.out) (hK {h with e7:=rF})
     ·intro L s w2 h hk hd hn K hK
      have s102:=h.e6 hd.1
      have s103:=h.e7 hd.2.1
      have kb:=h.kg_c_0 hn
      go_simp
      refine (rf_sweep _ S1.2 d HLD.out _ kb).mono ?_
      rintro e w3 ⟨rfl,hkr,hb⟩
      exact .inl ⟨_,rfl,hK {h with mu:=mS h.mu hb (List.Mem.tail _ (List.Mem.head _)),kt_o:=fun a=>hS hb (by have:=HLT.out;have:=lt_of_block HE.out;omega) (h.kt_o a),kr_o:=fun a=>hS hb (by have:=HLT.out;have:=lt_of_block HE.out;omega) (h.kr_o a),kg_c_0:=nF,kg_c_1:=fun _ _=>hkr,kg_c_2:=fun a _=>aB (h.b9_8 a) hn,kg_c_3:=fun a=>absurd (h.b9_8 (h.b10_9 a)) (by rw [hn];exact bft),e8:=rF,b9_8:=rF}⟩
     ·intro L s w2 h hk hd hn K hK
      have s99:=h.e3 hd.1
      have s101:=h.e5 hd.2.1
      have s104:=h.e8 hd.2.2.1
      have kb:=h.kg_c_1 hd.2.2.1 hn
      go_simp
      refine (rf_mul _ ((gt S1.2 (tSweep d)).2) (tAt a 21) ((gt S1.2 (tSweep d)).1) _ kb).mono ?_
      rintro e w3 ⟨rfl,hkr,hb⟩
      exact .inl ⟨_,rfl,hK {h with mu:=mS h.mu hb (List.Mem.tail _ (List.Mem.head _)),kt_o:=fun a=>hS hb (by have:=HLT.out;have:=lt_of_block HE.out;omega) (h.kt_o a),kr_o:=fun a=>hS hb (by have:=HLT.out;have:=lt_of_block HE.out;omega) (h.kr_o a),kg_c_0:=fun a=>absurd (a.symm.trans hd.2.2.1) bft,kg_c_1:=fun a c=>absurd c.symm bft,kg_c_2:=fun _ _=>hkr,kg_c_3:=fun a=>aB (h.b10_9 a) hn,e9:=rF,b9_8:=fun _=>hd.2.2.1,b10_9:=rF}⟩
     ·intro L s w2 h hk hd hn K hK
      have s96:=h.e0 hd.1
      have s98:=h.e2 hd.2.1
      have s105:=h.e9 hd.2.2.1
      have kb:=h.kg_c_2 hd.2.2.1 hn
      go_simp
      refine (rf_add _ ((gt ((gt S1.2 (tSweep d)).2) (sMul (tAt a 21) ((gt S1.2 (tSweep d)).1))).2) (tAt S1.1 21) ((gt ((gt S1.2 (tSweep d)).2) (sMul (tAt a 21) ((gt S1.2 (tSweep d)).1))).1) _ kb).mono ?_
      rintro e w3 ⟨rfl,hkr,hb⟩
      exact .inl ⟨_,rfl,hK {h with mu:=mS h.mu hb (List.Mem.tail _ (List.Mem.head _)),kt_o:=fun a=>hS hb (by have:=HLT.out;have:=lt_of_block HE.out;omega) (h.kt_o a),kr_o:=fun a=>hS hb (by have:=HLT.out;have:=lt_of_block HE.out;omega) (h.kr_o a),kg_c_0:=fun a=>absurd (a.symm.trans (h.b9_8 hd.2.2.1)) bft,kg_c_1:=fun a c=>absurd (c.symm.trans hd.2.2.1) bft,kg_c_2:=fun a c=>absurd c.symm bft,kg_c_3:=fun _=>hkr,e10:=rF,b10_9:=fun _=>hd.2.2.1}⟩
     ·intro L s w2 h hk hd hn K hK
      exact rs_field rfl (hk 7) (fl_model1 _ _) (hK {h with e11:=rF})
     ·intro L s w2 h hk hd hn K hK
      have kb:=h.kt_o hn
      exact rs_store rfl (h.e11 hd.1) (h.e10 hd.2.1) (sp_store (p:=21) kb (by have:=HLS.out;omega) ((gt ((gt ((gt S1.2 (tSweep d)).2) (sMul (tAt a 21) ((gt S1.2 (tSweep d)).1))).2) (sAdd (tAt S1.1 21) ((gt ((gt S1.2 (tSweep d)).2) (sMul (tAt a 21) ((gt S1.2 (tSweep d)).1))).1))).1)) (hK {h with mu:=h.mu.put (List.Mem.head _) _,kg_c_0:=fun a=>pO (by have:=HLT.out;have:=lt_of_block HE.out;omega) (h.kg_c_0 a),kg_c_1:=fun a c=>pO (by have:=HLT.out;have:=lt_of_block HE.out;omega) (h.kg_c_1 a c),kg_c_2:=fun a c=>pO (by have:=HLT.out;have:=lt_of_block HE.out;omega) (h.kg_c_2 a c),kg_c_3:=fun a=>pO (by have:=HLT.out;have:=lt_of_block HE.out;omega) (h.kg_c_3 a),kt_o:=nF,kr_o:=fun _=>pH kb,b12_2:=fun _=>hd.2.2.2.2.2.1})
    ·intro L s w2 h hk hl
     refine cA ?_ (hQ2 s w2 (⟨h.mu,h.kr_o (hl 12),h.kg_c_3 (hl 10)⟩))
     exact fq hk
   rintro s16 V ⟨h1,c_o,c_c⟩
   simp only [mergeL]
   replace HE:=lh c_c
   replace HA:=j2 h1 HA (by have:=HLT.out;omega) (by have:=HLT.out;omega)
   replace HD:=j2 h1 HD (by have:=HLT.out;omega) (by have:=HLT.out;omega)
   replace HR:=j2 h1 HR (by have:=HLT.out;omega) (by have:=HLT.out;omega)
   replace HO:=lh c_o
   replace HM:=lh (HM.out.stepM h1 (by have:=HBW.out;have:=HLT.out;intro x hx;simp only [List.mem_cons,List.not_mem_nil,or_false] at hx;rcases hx with rfl | rfl<;>first | exact .inl (List.mem_singleton.2 rfl) | (right;omega)))
   clear h1 c_o c_c
   refine HK16.out _ _ ?_
   obtain ⟨S2,hS2⟩:∃x,rGrow (S1.1,(gt S1.2 (tSweep d)).2) (tAt a 21) (gt S1.2 (tSweep d)).1=x:=⟨_,rfl⟩
   replace HO:=lh (show V.heap[g0]?=some (cobj 34 S2.1) by rw [←hS2];exact HO.out)
   replace HE:=lh (show V.heap[A]?=some (iobj 62 S2.2) by rw [←hS2];exact HE.out)
   replace HLS:=lh (show S2.1.length=22 by rw [←hS2,rGrow_len];exact HLS.out)
   replace HQ:=lh (show rProduct a d e=rGrow S2 (tAt a 21) (tAt d 21) by rw [HQ.out];simp only [rSweep_eq];rw [hS2])
   clear hS2
   refine wsk fun K17 HK17=>?_
   refine wc (n8 (n8 (n8 (n8 (n8 (n8 (n8 (n8 (n8 (n8 (n8 (n8 (n8 (nn::nn::nn::nn::some 108::some 109::some 110::some 111::some 112::some 113::some 114::some 115::some 116::some 117::some 118::nn::[])))))))))))))) (fun _ w'=>Mut [g0,A] V w'/\w'.heap[g0]?=some (cobj 34 (S2.1.set 21 (gt (gt S2.2 (sMul (tAt a 21) (tAt d 21))).2 (sAdd (tAt S2.1 21) (gt S2.2 (sMul (tAt a 21) (tAt d 21))).1)).1))/\w'.heap[A]?=some (iobj 62 ((gt ((gt S2.2 (sMul (tAt a 21) (tAt d 21))).2) (sAdd (tAt S2.1 21) ((gt S2.2 (sMul (tAt a 21) (tAt d 21))).1))).2))) ?_ ?_
   ·intro Q2 hQ2
    refine wG (Zp17 V A a d b g0 S2) ?_ ?_ ?_
    ·exact ⟨Mut.start _ true _,fun _=>HO.out,nB,fun _=>HE.out,nB,nB,nB,nB,nB,nB,nB,nB,nB,nB,nB,nB,nB,nB,nB⟩
    ·refine aC ?_ (aC ?_ (aC ?_ (aC ?_ (aC ?_ (aC ?_ (aC ?_ (aC ?_ (aC ?_ (aC ?_ (aC ?_ (aC ?_ aN)))))))))))
     ·intro L s w2 h hk hd hn K hK
      exact rs_move rfl (hk 0) (hK {h with e0:=rF})
     ·intro L s w2 h hk hd hn K hK
      exact rs_field rfl (hk 7) (fl_model1 _ _) (hK {h with e1:=rF})
     ·intro L s w2 h hk hd hn K hK
      have kb:=(h.kt_o (bF h.b11_2 hn))
      exact rs_load rfl (h.e1 hd.1) (sp_load (p:=21) kb (by have:=HLS.out;omega)) (hK {h with e2:=rF,b11_2:=rF})
     ·intro L s w2 h hk hd hn K hK
      exact rs_move rfl (hk 0) (hK {h with e3:=rF})
     ·intro L s w2 h hk hd hn K hK
      exact rs_field rfl (hk 4) (fl_model1 _ _) (hK {h with e4:=rF})
     ·intro L s w2 h hk hd hn K hK
      have kb:=kX h.mu HA (by have:=HLT.out;have:=lt_of_block HE.out;omega) (by have:=HLT.out;have:=lt_of_block HE.out;omega)
      exact rs_load rfl (h.e4 hd.1) (sp_load (p:=21) kb (by have:=HL.out;omega)) (hK {h with e5:=rF})
     ·intro L s w2 h hk hd hn K hK
      exact rs_field rfl (hk 5) (fl_model1 _ _) (hK {h with e6:=rF})
     ·intro L s w2 h hk hd hn K hK
      have kb:=kX h.mu HD (by have:=HLT.out;have:=lt_of_block HE.out;omega) (by have:=HLT.out;have:=lt_of_block HE.out;omega)
      exact rs_load rfl (h.e6 hd.1) (sp_load (p:=21) kb (by have:=HLD.out;omega)) (hK {h with e7:=rF})
     ·intro L s w2 h hk hd hn K hK
      have s111:=h.e3 hd.1
      have s113:=h.e5 hd.2.1
      have s115:=h.e7 hd.2.2.1
      have kb:=h.kg_c_0 hn
      go_simp
      refine (rf_mul _ S2.2 (tAt a 21) (tAt d 21) _ kb).mono ?_
      rintro e w3 ⟨rfl,hkr,hb⟩
      exact .inl ⟨_,rfl,hK {h with mu:=mS h.mu hb (List.Mem.tail _ (List.Mem.head _)),kt_o:=fun a=>hS hb (by have:=HLT.out;have:=lt_of_block HE.out;omega) (h.kt_o a),kr_o:=fun a=>hS hb (by have:=HLT.out;have:=lt_of_block HE.out;omega) (h.kr_o a),kg_c_0:=nF,kg_c_1:=fun _ _=>hkr,kg_c_2:=fun a=>aB (h.b9_8 a) hn,e8:=rF,b9_8:=rF}⟩
     ·intro L s w2 h hk hd hn K hK
      have s108:=h.e0 hd.1
      have s110:=h.e2 hd.2.1
      have s116:=h.e8 hd.2.2.1
      have kb:=h.kg_c_1 hd.2.2.1 hn
      go_simp
      refine (rf_add _ ((gt S2.2 (sMul (tAt a 21) (tAt d 21))).2) (tAt S2.1 21) ((gt S2.2 (sMul (tAt a 21) (tAt d 21))).1) _ kb).mono ?_
      rintro e w3 ⟨rfl,hkr,hb⟩
      exact .inl ⟨_,rfl,hK {h with mu:=mS h.mu hb (List.Mem.tail _ (List.Mem.head _)),kt_o:=fun a=>hS hb (by have:=HLT.out;have:=lt_of_block HE.out;omega) (h.kt_o a),kr_o:=fun a=>hS hb (by have:=HLT.out;have:=lt_of_block HE.out;omega) (h.kr_o a),kg_c_0:=fun a=>absurd (a.symm.trans hd.2.2.1) bft,kg_c_1:=fun a c=>absurd c.symm bft,kg_c_2:=fun _=>hkr,e9:=rF,b9_8:=fun _=>hd.2.2.1}⟩
     ·intro L s w2 h hk hd hn K hK
      exact rs_field rfl (hk 7) (fl_model1 _ _) (hK {h with e10:=rF})
     ·intro L s w2 h hk hd hn K hK
      have kb:=h.kt_o hn
      exact rs_store rfl (h.e10 hd.1) (h.e9 hd.2.1) (sp_store (p:=21) kb (by have:=HLS.out;omega) ((gt ((gt S2.2 (sMul (tAt a 21) (tAt d 21))).2) (sAdd (tAt S2.1 21) ((gt S2.2 (sMul (tAt a 21) (tAt d 21))).1))).1)) (hK {h with mu:=h.mu.put (List.Mem.head _) _,kg_c_0:=fun a=>pO (by have:=HLT.out;have:=lt_of_block HE.out;omega) (h.kg_c_0 a),kg_c_1:=fun a c=>pO (by have:=HLT.out;have:=lt_of_block HE.out;omega) (h.kg_c_1 a c),kg_c_2:=fun a=>pO (by have:=HLT.out;have:=lt_of_block HE.out;omega) (h.kg_c_2 a),kt_o:=nF,kr_o:=fun _=>pH kb,b11_2:=fun _=>hd.2.2.2.2.2.1})
    ·intro L s w2 h hk hl
     refine cA ?_ (hQ2 s w2 (⟨h.mu,h.kr_o (hl 11),h.kg_c_2 (hl 9)⟩))
     exact fq hk
   rintro s17 V ⟨h1,c_o,c_c⟩
   simp only [mergeL]
   replace HE:=lh c_c
   replace HA:=j2 h1 HA (by have:=HLT.out;omega) (by have:=HLT.out;omega)
   replace HD:=j2 h1 HD (by have:=HLT.out;omega) (by have:=HLT.out;omega)
   replace HR:=j2 h1 HR (by have:=HLT.out;omega) (by have:=HLT.out;omega)
   replace HO:=lh c_o
   replace HM:=lh (HM.out.stepM h1 (by have:=HBW.out;have:=HLT.out;intro x hx;simp only [List.mem_cons,List.not_mem_nil,or_false] at hx;rcases hx with rfl | rfl<;>first | exact .inl (List.mem_singleton.2 rfl) | (right;omega)))
   clear h1 c_o c_c
   refine HK17.out _ _ ?_
   replace HO:=lh (show V.heap[g0]?=some (cobj 34 (rProduct a d e).1) by rw [HQ.out];exact HO.out)
   replace HE:=lh (show V.heap[A]?=some (iobj 62 (rProduct a d e).2) by rw [HQ.out];exact HE.out)
   clear HQ
   refine wsk fun K18 HK18=>?_
   refine wc (n8 (n8 (n8 (n8 (n8 (n8 (n8 (n8 (n8 (n8 (n8 (n8 (n8 (n8 (nn::nn::nn::nn::nn::nn::nn::some 119::[]))))))))))))))) (fun _ w'=>Mut [b+1+1] V w'/\w'.heap[b+1+1]?=some (cobj 34 ((rProduct a d e).1))) ?_ ?_
   ·intro Q2 hQ2
    refine wG (Zp18 V e a d b) ?_ ?_ ?_
    ·exact ⟨Mut.start _ false _,fun _=>HR.out,nB,nB⟩
    ·refine aC ?_ (aC ?_ aN)
     ·intro L s w2 h hk hd hn K hK
      have kb:=kY h.mu HO (by have:=HLT.out;have:=lt_of_block HE.out;omega)
      exact rs_load rfl (hk 7) (md_load kb (rProduct_len a d e)) (hK {h with e0:=rF})
     ·intro L s w2 h hk hd hn K hK
      have kb:=h.kt_r hn
      exact rs_store rfl (hk 6) (h.e0 hd.1) (md_store kb rfl _ (rProduct_len a d e)) (hK {h with mu:=h.mu.put (List.Mem.head _) _,kt_r:=nF,kr_r:=fun _=>pH kb})
    ·intro L s w2 h hk hl
     refine cA ?_ (hQ2 s w2 (⟨h.mu,h.kr_r (hl 1)⟩))
     exact fq hk
   rintro s18 V ⟨h1,c_r⟩
   simp only [mergeL]
   replace HE:=j1 h1 HE (by have:=HLT.out;omega)
   replace HA:=j1 h1 HA (by have:=HLT.out;omega)
   replace HD:=j1 h1 HD (by have:=HLT.out;omega)
   replace HR:=lh c_r
   replace HO:=j1 h1 HO (by have:=HLT.out;omega)
   replace HM:=lh (HM.out.stepM h1 (by have:=HBW.out;have:=HLT.out;intro x hx;rw [List.mem_singleton.1 hx];first | exact .inl (List.mem_singleton.2 rfl) | (right;omega)))
   clear h1 c_r
   refine HK18.out _ _ ?_
   refine wp_ret ?_
   exact bodyPost_ret (v:=mval (rProduct a d e).1) (res_model Tryz.results31 rfl (md_loadVar HR.out (rProduct_len a d e))) rfl ⟨rfl,HE.out,HM.out⟩
end Go.Proofs.YthhkcfpljgdnhaaGreat
