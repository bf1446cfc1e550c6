/- Package taylor: the product of two models. Printed by wip/genTP.py. -/
import Derived.Test.YthhkcfpljgdnhaaGreatTayD
import Derived.Test.YthhkcfpljgdnhaaGreatTayPl
namespace Go.Proofs.YthhkcfpljgdnhaaGreat
open Go.RowKit Mnc
attribute [local go_sem] RunSP_value RunSP_skip RunSP_enter evS_tmp evS_const evS_global evS_func
attribute [local go_sem] Oper.semAt_some
theorem take_step {T:List (Int×Int)} {n:Nat} (h:T.length=21) (hn:n<21):(T.take n++List.replicate (22-n) (0,0)).set n (tAt T n)=T.take (n+1)++List.replicate (22-(n+1)) (0,0):=by
 have hl:(T.take n).length=n:=by rw [List.length_take];omega
 rw [List.set_append_right _ _ (by omega),hl,Nat.sub_self,show 22-n=(22-(n+1))+1 by omega,List.replicate_succ,List.set_cons_zero,List.take_add_one,List.append_assoc]
 congr 1
 unfold tAt
 simp [List.getD,List.getElem?_eq_getElem (show n<T.length by omega)]
theorem thenE_fst1 {α β:Type} {z:β} {x:α×Int} {f:α->β×Int} (h:¬fstE [x.2]=0):(thenE z x f).2=fstE [x.2]:=by
 rw [fstE_one] at h ⊢
 rw [thenE_bad h]
theorem thenE_fstC {α β:Type} {z:β} {x:α×Int} {f:α->β×Int} {l:List Int} (h:¬fstE (x.2::l)=0) (hf:x.2=0->¬fstE l=0->(f x.1).2=fstE l):(thenE z x f).2=fstE (x.2::l):=by
 by_cases h1:x.2=0
 ·rw [fstE_0 h1] at h ⊢
  rw [thenE_ok h1]
  exact hf h1 h
 ·rw [thenE_bad h1,fstE_1 h1]
theorem thenE_fst2 {α β γ:Type} {z:γ} {x:α×Int} {f:α->β×Int} {g:β->γ×Int} (h:¬fstE [x.2,(f x.1).2]=0):(thenE z x fun v=>thenE z (f v) g).2=fstE [x.2,(f x.1).2] :=
 thenE_fstC h fun _ h=>thenE_fst1 h
structure Pg9 (W:World) (b N M:Nat) (a c:List (Int×Int)) (p q:Nat) (L:Nat->Bool) (s:Nat->Value) (w:World):Prop where
 mu:Mut [] W w
 e0:L 0->s 19=.int .i64 ((p:Nat):Int)
 e1:L 1->s 20=.pointer (some ⟨b,0,none⟩)
 e2:L 2->s 21=.pointer (some ⟨b,p*2,none⟩)
 e3:L 3->s 22=sval (tAt a p)
 e4:L 4->s 23=.int .i64 ((q:Nat):Int)
 e5:L 5->s 24=.pointer (some ⟨b+1,0,none⟩)
 e6:L 6->s 25=.pointer (some ⟨b+1,q*2,none⟩)
 e7:L 7->s 26=sval (tAt c q)
 e8:L 8->s 27=.tuple #[sval (sMul (tAt a p) (tAt c q)).1,.int .i64 (sMul (tAt a p) (tAt c q)).2]
 e9:L 9->s 28=sval ((sMul (tAt a p) (tAt c q)).1)
 e10:L 10->s 29=.int .i64 ((sMul (tAt a p) (tAt c q)).2)
 z11:L 11->(sMul (tAt a p) (tAt c q)).2=0
 e11:L 11->s 30=sval ((sMul (tAt a p) (tAt c q)).1)
 al_w:L 12->∃g:Nat,s 13=.pointer (some ⟨g,0,none⟩)/\W.heap.size<=g/\g<w.heap.size/\(L 13=false->w.heap[g]?=some (cobj 31 [(0,0)]))/\(L 13=true->w.heap[g]?=some (cobj 31 [(sMul (tAt a p) (tAt c q)).1]))
 b13_12:L 13->L 12
structure Pg11 (V:World) (b N M g:Nat) (x r:Int×Int) (i j k m:Nat) (L:Nat->Bool) (s:Nat->Value) (w:World):Prop where
 mu:Mut [b+1+1+1+1] V w
 kt_rest:L 12=false->w.heap[b+1+1+1+1]?=some (cobj 90 ([r]))
 kr_rest:L 12->w.heap[b+1+1+1+1]?=some (cobj 90 ([(sAdd r (sMul x (tReach (i+k) (j+m))).1).1]))
 e0:L 0->s 39=sval x
 e1:L 1->s 40=.int .i64 ((i:Nat):Int)
 e2:L 2->s 41=.int .i64 ((k:Nat):Int)
 e3:L 3->s 42=.int .i64 ((i+k:Nat):Int)
 e4:L 4->s 43=.int .i64 ((j:Nat):Int)
 e5:L 5->s 44=.int .i64 ((m:Nat):Int)
 e6:L 6->s 45=.int .i64 ((j+m:Nat):Int)
 e7:L 7->s 46=sval (tReach (i+k) (j+m))
 e8:L 8->s 47=.tuple #[sval (sMul (x) (tReach (i+k) (j+m))).1,.int .i64 (sMul (x) (tReach (i+k) (j+m))).2]
 e9:L 9->s 48=sval ((sMul (x) (tReach (i+k) (j+m))).1)
 e10:L 10->s 49=.int .i64 ((sMul (x) (tReach (i+k) (j+m))).2)
 z11:L 11->(sMul (x) (tReach (i+k) (j+m))).2=0
 e11:L 11->s 50=sval ((sMul (x) (tReach (i+k) (j+m))).1)
 z12:L 12->(sAdd (r) ((sMul (x) (tReach (i+k) (j+m))).1)).2=0
structure Pg12 (V:World) (b N M g:Nat) (x:Int×Int) (T:List (Int×Int)) (i j k m:Nat) (L:Nat->Bool) (s:Nat->Value) (w:World):Prop where
 mu:Mut [b+1+1+1] V w
 kt_sums:L 9=false->w.heap[b+1+1+1]?=some (cobj 91 T)
 kr_sums:L 9->w.heap[b+1+1+1]?=some (cobj 91 (T.set (tPlace (i+k) (j+m)) (sAdd (tAt T (tPlace (i+k) (j+m))) x).1))
 e0:L 0->s 52=.int .i64 ((i:Nat):Int)
 e1:L 1->s 53=.int .i64 ((k:Nat):Int)
 e2:L 2->s 54=.int .i64 ((i+k:Nat):Int)
 e3:L 3->s 55=.int .i64 ((j:Nat):Int)
 e4:L 4->s 56=.int .i64 ((m:Nat):Int)
 e5:L 5->s 57=.int .i64 ((j+m:Nat):Int)
 e6:L 6->s 58=.int .i64 ((tPlace (i+k) (j+m):Nat):Int)
 e7:L 7->s 59=.pointer (some ⟨b+1+1+1,(tPlace (i+k) (j+m))*2,none⟩)
 e8:L 8->s 60=sval x
 z9:L 9->(sAdd (tAt T (tPlace (i+k) (j+m))) (x)).2=0
structure Pg15 (V:World) (b:Nat) (a c:List (Int×Int)) (r:Int×Int) (L:Nat->Bool) (s:Nat->Value) (w:World):Prop where
 mu:Mut [b+1+1+1+1] V w
 kt_rest:L 8=false->w.heap[b+1+1+1+1]?=some (cobj 90 ([r]))
 kr_rest:L 8->w.heap[b+1+1+1+1]?=some (cobj 90 ([(sAdd r (sMul (tSweep a).1 (tAt c 21)).1).1]))
 e0:L 0->s 66=mval a
 z1:L 1->(tSweep a).2=0
 e1:L 1->s 67=sval ((tSweep a).1)
 e2:L 2->s 68=.pointer (some ⟨b+1,21*2,none⟩)
 e3:L 3->s 69=sval (tAt c 21)
 e4:L 4->s 70=.tuple #[sval (sMul ((tSweep a).1) (tAt c 21)).1,.int .i64 (sMul ((tSweep a).1) (tAt c 21)).2]
 e5:L 5->s 71=sval ((sMul ((tSweep a).1) (tAt c 21)).1)
 e6:L 6->s 72=.int .i64 ((sMul ((tSweep a).1) (tAt c 21)).2)
 z7:L 7->(sMul ((tSweep a).1) (tAt c 21)).2=0
 e7:L 7->s 73=sval ((sMul ((tSweep a).1) (tAt c 21)).1)
 z8:L 8->(sAdd (r) ((sMul ((tSweep a).1) (tAt c 21)).1)).2=0
 q5_1:L 5->(tSweep a).2=0
 q7_1:L 7->(tSweep a).2=0
 q4_1:L 4->(tSweep a).2=0
structure Pg16 (V:World) (b:Nat) (a c:List (Int×Int)) (r1:Int×Int) (L:Nat->Bool) (s:Nat->Value) (w:World):Prop where
 mu:Mut [b+1+1+1+1] V w
 kt_rest:L 8=false->w.heap[b+1+1+1+1]?=some (cobj 90 ([r1]))
 kr_rest:L 8->w.heap[b+1+1+1+1]?=some (cobj 90 ([(sAdd r1 (sMul (tAt a 21) (tSweep c).1).1).1]))
 e0:L 0->s 75=.pointer (some ⟨b,21*2,none⟩)
 e1:L 1->s 76=sval (tAt a 21)
 e2:L 2->s 77=mval c
 z3:L 3->(tSweep c).2=0
 e3:L 3->s 78=sval ((tSweep c).1)
 e4:L 4->s 79=.tuple #[sval (sMul (tAt a 21) ((tSweep c).1)).1,.int .i64 (sMul (tAt a 21) ((tSweep c).1)).2]
 e5:L 5->s 80=sval ((sMul (tAt a 21) ((tSweep c).1)).1)
 e6:L 6->s 81=.int .i64 ((sMul (tAt a 21) ((tSweep c).1)).2)
 z7:L 7->(sMul (tAt a 21) ((tSweep c).1)).2=0
 e7:L 7->s 82=sval ((sMul (tAt a 21) ((tSweep c).1)).1)
 z8:L 8->(sAdd (r1) ((sMul (tAt a 21) ((tSweep c).1)).1)).2=0
 q5_3:L 5->(tSweep c).2=0
 q7_3:L 7->(tSweep c).2=0
 q4_3:L 4->(tSweep c).2=0
structure Pg17 (V:World) (b:Nat) (a c:List (Int×Int)) (r2:Int×Int) (L:Nat->Bool) (s:Nat->Value) (w:World):Prop where
 mu:Mut [b+1+1+1+1] V w
 kt_rest:L 8=false->w.heap[b+1+1+1+1]?=some (cobj 90 ([r2]))
 kr_rest:L 8->w.heap[b+1+1+1+1]?=some (cobj 90 ([(sAdd r2 (sMul (tAt a 21) (tAt c 21)).1).1]))
 e0:L 0->s 84=.pointer (some ⟨b,21*2,none⟩)
 e1:L 1->s 85=sval (tAt a 21)
 e2:L 2->s 86=.pointer (some ⟨b+1,21*2,none⟩)
 e3:L 3->s 87=sval (tAt c 21)
 e4:L 4->s 88=.tuple #[sval (sMul (tAt a 21) (tAt c 21)).1,.int .i64 (sMul (tAt a 21) (tAt c 21)).2]
 e5:L 5->s 89=sval ((sMul (tAt a 21) (tAt c 21)).1)
 e6:L 6->s 90=.int .i64 ((sMul (tAt a 21) (tAt c 21)).2)
 z7:L 7->(sMul (tAt a 21) (tAt c 21)).2=0
 e7:L 7->s 91=sval ((sMul (tAt a 21) (tAt c 21)).1)
 z8:L 8->(sAdd (r2) ((sMul (tAt a 21) (tAt c 21)).1)).2=0
structure Pg21 (wr:World) (b:Nat) (T O:List (Int×Int)) (n:Nat) (L:Nat->Bool) (s:Nat->Value) (w:World):Prop where
 mu:Mut [b+1+1] wr w
 kt_out:L 7=false->w.heap[b+1+1]?=some (cobj 34 O)
 kr_out:L 7->w.heap[b+1+1]?=some (cobj 34 (O.set n (tAt T n)))
 e0:L 0->s 96=.int .i64 ((n:Nat):Int)
 e1:L 1->s 97=.int .i64 ((n:Nat):Int)
 e2:L 2->s 98=.pointer (some ⟨b+1+1+1,n*2,none⟩)
 e3:L 3->s 99=.pointer (some ⟨b+1+1+1,n*2,none⟩)
 e4:L 4->s 100=sval (tAt T n)
 e5:L 5->s 101=.pointer (some ⟨b+1+1,0,none⟩)
 e6:L 6->s 102=.pointer (some ⟨b+1+1,n*2,none⟩)
structure Pg24 (V3:World) (b:Nat) (O:List (Int×Int)) (L:Nat->Bool) (s:Nat->Value) (w:World):Prop where
 mu:Mut [b+1+1] V3 w
 kt_out:L 1=false->w.heap[b+1+1]?=some (cobj 34 O)
 kr_out:L 1->w.heap[b+1+1]?=some (cobj 34 O)
 e0:L 0->s 107=mval O
 b1_0:L 1->L 0
/-- What holds ahead of a pair of the first model. -/
structure JPo (W1:World) (b:Nat) (a c:List (Int×Int)) (s i:Nat) (T:List (Int×Int)) (r:Int×Int) (W:World):Prop where
 mu:Mut [b+1+1+1,b+1+1+1+1,b+1+1+1+1+1] W1 W
 hs:W.heap[b+1+1+1]?=some (cobj 91 T)
 hr:W.heap[b+1+1+1+1]?=some (cobj 90 [r])
 hp:W.heap[b+1+1+1+1+1]?=some (iobj 3 ((tIdx s i:Nat):Int))
 len:T.length=21
 go:tOuter a c (tPairs.drop (tIdx s i)) (tIdx s i) (T++[r])=tOuter a c tPairs 0 zeroM
theorem JPo.put {W1:World} {b:Nat} {a c:List (Int×Int)} {s i:Nat} {T:List (Int×Int)} {r:Int×Int} {W:World} (h:JPo W1 b a c s i T r W) (hb:b+6<=W1.heap.size) {k:Nat} (hk:W1.heap.size<=k) (o:Obj):JPo W1 b a c s i T r (W.putObj k o) :=
 ⟨h.mu.putNew hk o,(World.putObj_heap_other (by omega)).trans h.hs,(World.putObj_heap_other (by omega)).trans h.hr,(World.putObj_heap_other (by omega)).trans h.hp,h.len,h.go⟩
/-- The boxes that stand still within a round. -/
structure StP (b N M:Nat) (a c:List (Int×Int)) (p i j:Nat) (W:World):Prop where
 hA:W.heap[b]?=some (cobj 34 a)
 hC:W.heap[b+1]?=some (cobj 34 c)
 hP:W.heap[b+1+1+1+1+1]?=some (iobj 3 ((p:Nat):Int))
 hI:W.heap[N]?=some (iobj 3 ((i:Nat):Int))
 hJ:W.heap[N+1]?=some (iobj 3 ((j:Nat):Int))
 sz:M+1<=W.heap.size
theorem StP.mut {b N M:Nat} {a c:List (Int×Int)} {p i j:Nat} {W W':World} (h:StP b N M a c p i j W) (hN:b+6<=N) (hM:M=N+2) (m:Mut [b+1+1+1,b+1+1+1+1,M] W W'):StP b N M a c p i j W' :=
 ⟨(m.same _ (lt_of_block h.hA) (notin3 (by omega) (by omega) (by omega))).trans h.hA,(m.same _ (lt_of_block h.hC) (notin3 (by omega) (by omega) (by omega))).trans h.hC,
  (m.same _ (lt_of_block h.hP) (notin3 (by omega) (by omega) (by omega))).trans h.hP,(m.same _ (lt_of_block h.hI) (notin3 (by omega) (by omega) (by omega))).trans h.hI,
  (m.same _ (lt_of_block h.hJ) (notin3 (by omega) (by omega) (by omega))).trans h.hJ,Nat.le_trans h.sz m.size⟩
/-- What holds ahead of a pair of the second model. -/
structure JPi (W2:World) (b N M:Nat) (a c:List (Int×Int)) (p i j:Nat) (S0:List (Int×Int)) (q:Nat) (T:List (Int×Int)) (r:Int×Int) (W:World):Prop where
 mu:Mut [b+1+1+1,b+1+1+1+1,M] W2 W
 hs:W.heap[b+1+1+1]?=some (cobj 91 T)
 hr:W.heap[b+1+1+1+1]?=some (cobj 90 [r])
 hq:W.heap[M]?=some (iobj 3 ((q:Nat):Int))
 len:T.length=21
 go:tInner a c i j p (tPairs.drop q) q (T++[r])=tInner a c i j p tPairs 0 S0
theorem JPi.put {W2:World} {b N M:Nat} {a c:List (Int×Int)} {p i j:Nat} {S0:List (Int×Int)} {q:Nat} {T:List (Int×Int)} {r:Int×Int} {W:World} (h:JPi W2 b N M a c p i j S0 q T r W) (hb:b+6<=M) (hM:M+1<=W2.heap.size) {k:Nat} (hk:W2.heap.size<=k) (o:Obj):JPi W2 b N M a c p i j S0 q T r (W.putObj k o) :=
 ⟨h.mu.putNew hk o,(World.putObj_heap_other (by omega)).trans h.hs,(World.putObj_heap_other (by omega)).trans h.hr,(World.putObj_heap_other (by omega)).trans h.hq,h.len,h.go⟩
set_option maxRecDepth 100000 in
set_option maxHeartbeats 8000000 in
theorem tay_product (a c:List (Int×Int)) (ha:a.length=22) (hc:c.length=22) (w:World) :
  Calls Tryz.prog 28 #[mval a,mval c] w fun e w'=>Ends mval (tProduct a c) e/\Below w.heap.size w w':=by
 have HL:=lh ha
 have HLC:=lh hc
 clear ha hc
 refine (callsIn_wide (n:=5)).1 ?_
 refine callsIn_of_wpF Tryz.func28 rfl ?_
 simp only [Tryz.ntmps28,List.size_toArray,List.length_cons,List.length_nil,Nat.reduceAdd,Nat.reduceSub,Array.replicate_succ,Array.replicate_zero,List.push_toArray,List.append_toArray,List.nil_append,List.cons_append]
 refine wpF_seq (wpF_of (n:=5) ?_)
 gi_wp2_with fail
 rename_i x1 cs1 hc1 x2 cs2 hc2
 obtain rfl:(mc a).toArray=cs1:=Value.agg.inj hc1
 obtain rfl:(mc c).toArray=cs2:=Value.agg.inj hc2
 clear hc1 hc2
 refine wpF_seq (wpF_of (n:=5) ?_)
 gi_wp2_with fail
 refine wpF_seq (wpF_of (n:=5) ?_)
 gi_wp2_with fail
 refine wpF_seq (wpF_of (n:=5) ?_)
 gi_wp2_with fail
 refine wpF_seq (wpF_block ?_)
 obtain ⟨b,hb⟩:∃b,w.heap.size=b:=⟨_,rfl⟩
 refine wpF_world (fun W=>Below b w W/\W.heap.size=b+6/\W.heap[b]?=some (cobj 34 a)/\W.heap[b+1]?=some (cobj 34 c)/\W.heap[b+1+1]?=some (cobj 34 zeroM)/\W.heap[b+1+1+1]?=some (cobj 91 (List.replicate 21 (0,0)))/\W.heap[b+1+1+1+1]?=some (cobj 90 [(0,0)])/\W.heap[b+1+1+1+1+1]?=some (iobj 3 ((tIdx 0 0:Nat):Int))) ?_
  (by
   rw [←hb]
   exact ⟨below_alloc (below_alloc (below_alloc (below_alloc (below_alloc (below_alloc (Below.refl _ _) _) _) _) _) _) _,by simp,heap_up _ (heap_up _ (heap_up _ (heap_up _ (heap_up _ (heap_at _ rfl))))),heap_up _ (heap_up _ (heap_up _ (heap_up _ (heap_at _ (by simp))))),heap_up _ (heap_up _ (heap_up _ (heap_at (cobj 34 zeroM) (by simp)))),heap_up _ (heap_up _ (heap_at (cobj 91 (List.replicate 21 (0,0))) (by simp))),heap_up _ (heap_at _ (by simp)),heap_at _ (by simp)⟩)
 rintro W1 ⟨hB,hSz,hA,hC,hO,hSm,hRs,hPp⟩
 rw [hb]
 have HS4:=lh (show b+6<=W1.heap.size by omega)
 have HA1:=lh hA
 have HC1:=lh hC
 have HO1:=lh hO
 have HB1:=lh hB
 have HBW:=lh hb
 have H0:=lh (show JPo W1 b a c 0 0 (List.replicate 21 (0,0)) (0,0) W1 from ⟨Mut.refl _ _,hSm,hRs,hPp,by simp,rfl⟩)
 clear hA hC hO hSm hRs hPp hB hSz hb
 refine pairs_outer 5 28 Tryz.func28 rfl (fun s i W=>∃T r,JPo W1 b a c s i T r W) (fun _=>False) (fun e W=>e=brk (tOuter a c tPairs 0 zeroM).2/\¬(tOuter a c tPairs 0 zeroM).2=0/\Mut [b+1+1+1,b+1+1+1+1,b+1+1+1+1+1] W1 W)
  (fun s i W k o hk ⟨T,r,h⟩=>⟨T,r,h.put HS4.out hk o⟩) (fun W k o hk h=>h) ?_ ?_ ?_ ?_ (fun W h=>h.elim) ?_
 ·rintro s W hs ⟨T,r,h⟩
  have e:=tIdx_next ⟨s,by omega⟩
  dsimp only at e
  exact ⟨T,r,h.mu,h.hs,h.hr,by rw [←e];exact h.hp,h.len,by rw [←e];exact h.go⟩
 ·intro o o'
  have h:=H0.out
  exact ⟨_,_,(h.mu.alloc _).alloc _,heap_up _ (heap_up _ h.hs),heap_up _ (heap_up _ h.hr),heap_up _ (heap_up _ h.hp),h.len,h.go⟩
 ·rintro l hl s i W0 hi hs ⟨T0,r0,hJ⟩ hrec
  have hd:=tIdx_drop ⟨s,by omega⟩ ⟨i,by omega⟩ hi
  have hlt:=tIdx_lt ⟨s,by omega⟩ ⟨i,by omega⟩ hi
  dsimp only at hd hlt
  have HNX:=lh (show tIdx s (i+1)=tIdx s i+1 from rfl)
  have hJp:=hJ.hp
  have hJg:=hJ.go
  generalize hp:tIdx s i=p at *
  have HD:=lh hd
  have HPL:=lh hlt
  obtain ⟨j,hj⟩:∃j,s-i=j:=⟨_,rfl⟩
  rw [hj] at HD ⊢
  have hi5:i<=5:=by omega
  have hj5:j<=5:=by omega
  have hi5':(i:Int)<=5:=by omega
  have hj5':(j:Int)<=5:=by omega
  have hi0':(0:Int)<=i:=by omega
  have hj0':(0:Int)<=j:=by omega
  have HMU:=lh hJ.mu
  have HJS:=lh hJ.hs
  have HJR:=lh hJ.hr
  have HJP:=lh hJp
  have HJG:=lh hJg
  have HT0:=lh hJ.len
  have HLL:=lh hl
  have HREC0:=lh hrec
  have HLN:=lh (show l<W0.heap.size from let ⟨_,h⟩:=hrec;lt_of_block h)
  clear hJ hl hd hlt hrec hp hj hi hs hJp hJg
  refine wpF_ofR (n:=5) ?_
  gi_wp2_with fail
  refine ⟨((Mut.refl [] _).alloc _ |>.alloc _).keep (by simp),fun o=>?_⟩
  obtain ⟨Wq,hWq⟩:∃Wq,Wq=(((W0.alloc (.cells #[.int .i64 ((i:Nat):Int)] 3)).alloc (.cells #[.int .i64 ((j:Nat):Int)] 3)).putObj l (.loop o)):=⟨_,rfl⟩
  rw [←hWq]
  have hN1:W1.heap.size<=W0.heap.size:=HMU.out.size
  obtain ⟨N,hN⟩:∃N,W0.heap.size=N:=⟨_,rfl⟩
  have hlN:l<N:=hN ▸ HLN.out
  have hq1:Mut [b+1+1+1,b+1+1+1+1,b+1+1+1+1+1] W1 Wq:=by rw [hWq];exact ((HMU.out.alloc _).alloc _).putNew HLL.out _
  have hq2:Wq.heap.size=N+2:=by rw [hWq,←hN];simp
  have hq3:Wq.heap[N]?=some (iobj 3 ((i:Nat):Int)):=by rw [hWq];exact (World.putObj_heap_other (by omega)).trans (heap_up _ (heap_at _ hN))
  have hq4:Wq.heap[N+1]?=some (iobj 3 ((j:Nat):Int)):=by rw [hWq];exact (World.putObj_heap_other (by omega)).trans (heap_at _ (by simp [hN]))
  have hsz:=HS4.out
  have hll:=HLL.out
  have hq5:Wq.heap[b+1+1+1]?=some (cobj 91 T0):=by rw [hWq];exact (World.putObj_heap_other (by omega)).trans (heap_up _ (heap_up _ HJS.out))
  have hq6:Wq.heap[b+1+1+1+1]?=some (cobj 90 [r0]):=by rw [hWq];exact (World.putObj_heap_other (by omega)).trans (heap_up _ (heap_up _ HJR.out))
  have hq7:Wq.heap[b+1+1+1+1+1]?=some (iobj 3 ((p:Nat):Int)):=by rw [hWq];exact (World.putObj_heap_other (by omega)).trans (heap_up _ (heap_up _ HJP.out))
  obtain ⟨M,hM⟩:∃M,Wq.heap.size=M:=⟨_,rfl⟩
  have hMN:M=N+2:=hM ▸ hq2
  have hN6:b+6<=N:=by omega
  have HM:=lh hM
  have HOR:=lh (show b+6<=N/\M=N+2/\M+1<=M+1 from ⟨hN6,hMN,Nat.le_refl _⟩)
  have HQ0:=lh (show JPi (Wq.alloc (iobj 3 0)) b N M a c p i j (T0++[r0]) 0 T0 r0 (Wq.alloc (iobj 3 0)) from ⟨Mut.refl _ _,heap_up _ hq5,heap_up _ hq6,heap_at _ hM,HT0.out,rfl⟩)
  have HST:=lh (show StP b N M a c p i j (Wq.alloc (iobj 3 0)) from ⟨heap_up _ ((hq1.same _ (by omega) (notin3 (by omega) (by omega) (by omega))).trans HA1.out),heap_up _ ((hq1.same _ (by omega) (notin3 (by omega) (by omega) (by omega))).trans HC1.out),heap_up _ hq7,heap_up _ hq3,heap_up _ hq4,by simp [hM]⟩)
  have HREC:=lh (show ∃r,(Wq.alloc (iobj 3 0)).heap[l]?=some (.loop r) from ⟨o,heap_up _ (by rw [hWq];exact World.putObj_heap_same (by simp;omega))⟩)
  have HSZ2:=lh (show (Wq.alloc (iobj 3 0)).heap.size=M+1 by simp [hM])
  have HQ1:=lh hq1
  rw [hN]
  clear hWq hN1 hN hlN hq1 hq2 hq3 hq4 hq5 hq6 hq7 hsz hll hM hMN hN6
  refine wpF_block (wpF_seq (wpF_ofR (n:=5) ?_))
  gi_wp2_with fail
  rw [HM.out,show Wq.alloc (.cells #[.int .i64 0] 3)=Wq.alloc (iobj 3 0) from rfl]
  obtain ⟨W2,hW2⟩:∃W2,Wq.alloc (iobj 3 0)=W2:=⟨_,rfl⟩
  have HM2:=lh (show Mut [] Wq W2 from hW2 ▸ (Mut.refl [] Wq).alloc _)
  rw [hW2] at HQ0 HST HSZ2 HREC ⊢
  clear hW2
  refine wpF_seq (wpF_block ?_)
  refine pairs_inner 5 28 l Tryz.func28 HREC.out rfl (fun s' i' W=>∃T r,JPi W2 b N M a c p i j (T0++[r0]) (tIdx s' i') T r W)
   (fun e W=>e=brk (tInner a c i j p tPairs 0 (T0++[r0])).2/\¬(tInner a c i j p tPairs 0 (T0++[r0])).2=0/\Mut [b+1+1+1,b+1+1+1+1,M] W2 W)
   (fun s i W k o hk ⟨T,r,h⟩=>⟨T,r,h.put (by have:=HOR.out;omega) (Nat.le_of_eq HSZ2.out.symm) hk o⟩) ?_ ?_ ?_ ?_ ?_
  ·rintro s' W hs ⟨T,r,h⟩
   have e:=tIdx_next ⟨s',by omega⟩
   dsimp only at e
   rw [e] at h
   exact ⟨T,r,h⟩
  ·intro o
   have h:=HQ0.out
   exact ⟨_,_,h.mu.alloc _,heap_up _ h.hs,heap_up _ h.hr,heap_up _ h.hq,h.len,h.go⟩
  ·rintro l' hl s' k W3 hi hs ⟨T,r,hJ⟩ hrec
   have hd:=tIdx_drop ⟨s',by omega⟩ ⟨k,by omega⟩ hi
   have hlt:=tIdx_lt ⟨s',by omega⟩ ⟨k,by omega⟩ hi
   dsimp only at hd hlt
   have HNQ:=lh (show tIdx s' (k+1)=tIdx s' k+1 from rfl)
   generalize tIdx s' k=q at *
   have HDQ:=lh hd
   have HQL:=lh hlt
   obtain ⟨m,hm⟩:∃m,s'-k=m:=⟨_,rfl⟩
   rw [hm] at HDQ ⊢
   have hk5:k<=5:=by omega
   have hm5:m<=5:=by omega
   have hk5':(k:Int)<=5:=by omega
   have hm5':(m:Int)<=5:=by omega
   have hk0':(0:Int)<=k:=by omega
   have hm0':(0:Int)<=m:=by omega
   have HJI:=lh hJ
   have HLL':=lh hl
   clear hJ hl hd hlt hrec hm hi hs
   refine wpF_ofR (n:=5) ?_
   gi_wp2_with fail
   refine ⟨KeepA.refl _ _,fun o'=>?_⟩
   obtain ⟨W,hW⟩:∃W,W=W3.putObj l' (.loop o'):=⟨_,rfl⟩
   rw [←hW]
   have hJ2:JPi W2 b N M a c p i j (T0++[r0]) q T r W:=by rw [hW];exact HJI.out.put (by have:=HOR.out;omega) (Nat.le_of_eq HSZ2.out.symm) HLL'.out _
   clear hW
   have hst:StP b N M a c p i j W:=HST.out.mut HOR.out.1 HOR.out.2.1 hJ2.mu
   have HA:=lh hst.hA
   have HC:=lh hst.hC
   have HP:=lh hst.hP
   have HQ:=lh hJ2.hq
   have HJ2:=lh hJ2
   have HST2:=lh hst
   clear hJ2 hst
   refine wpF_block (wpF_seq (wpF_ofR (n:=5) ?_))
   refine wpIn_cut_mergeP [none,none,none,none,none,none,none,none,none,none,none,none,none,some 13,none,none,none,none,none,some 19,some 20,some 21,some 22,some 23,some 24,some 25,some 26,some 27,some 28,some 29,some 30,none,none,none,none,none,none,none,none,none,none,none,none,none,none,none,none,none,none,none,none,none,none,none,none,none,none,none,none,none,none,none,none,none,none,none,none,none,none,none,none,none,none,none,none,none,none,none,none,none,none,none,none,none,none,none,none,none,none,none,none,none,none,none,none,none,none,none,none,none,none,none,none,none,none,none,none,none] (fun s w'=>Mut [] W w'/\(∃g:Nat,s 13=.pointer (some ⟨g,0,none⟩)/\W.heap.size<=g/\w'.heap[g]?=some (cobj 31 [(sMul (tAt a p) (tAt c q)).1]))/\(sMul (tAt a p) (tAt c q)).2=0) (fun ch w'=>ch=brk (fstE [(sMul (tAt a p) (tAt c q)).2])/\¬fstE [(sMul (tAt a p) (tAt c q)).2]=0/\Mut [] W w') ?_ ?_ ?_
   ·intro Q2 hQ2 hP2
    refine wp_region_G (b:=true) (Pn:=(fun ch w'=>ch=brk (fstE [(sMul (tAt a p) (tAt c q)).2])/\¬fstE [(sMul (tAt a p) (tAt c q)).2]=0/\Mut [] W w')) (Pg9 W b N M a c p q) (by kernel_rfl) (by kernel_rfl) ?_ ?_ ?_ ?_
    ·exact ⟨Mut.start _ true _,nB,nB,nB,nB,nB,nB,nB,nB,nB,nB,nB,nB,nB,nB,nB⟩
    ·refine aC ?_ (aC ?_ (aC ?_ (aC ?_ (aC ?_ (aC ?_ (aC ?_ (aC ?_ (aC ?_ (aC ?_ (aC ?_ (aC ?_ (aC ?_ (aC ?_ aN)))))))))))))
     ·intro L s w2 h hk hd hn K hK
      have kb:=kZ h.mu HP
      exact rs_load rfl (hk 7) (i_load kb) (hK {h with e0:=rF})
     ·intro L s w2 h hk hd hn K hK
      exact rs_field rfl (hk 2) (fl_model0 _ _) (hK {h with e1:=rF})
     ·intro L s w2 h hk hd hn K hK
      exact rs_index rfl (h.e1 hd.1) (h.e0 hd.2.1) (ix_model _ p HPL.out) (hK {h with e2:=rF})
     ·intro L s w2 h hk hd hn K hK
      have kb:=kZ h.mu HA
      exact rs_load rfl (h.e2 hd.1) (sp_load (p:=p) kb (by have:=HL.out;have:=HPL.out;omega)) (hK {h with e3:=rF})
     ·intro L s w2 h hk hd hn K hK
      have kb:=kZ h.mu HQ
      exact rs_load rfl (hk 10) (i_load kb) (hK {h with e4:=rF})
     ·intro L s w2 h hk hd hn K hK
      exact rs_field rfl (hk 3) (fl_model0 _ _) (hK {h with e5:=rF})
     ·intro L s w2 h hk hd hn K hK
      exact rs_index rfl (h.e5 hd.1) (h.e4 hd.2.1) (ix_model _ q HQL.out) (hK {h with e6:=rF})
     ·intro L s w2 h hk hd hn K hK
      have kb:=kZ h.mu HC
      exact rs_load rfl (h.e6 hd.1) (sp_load (p:=q) kb (by have:=HLC.out;have:=HQL.out;omega)) (hK {h with e7:=rF})
     ·intro L s w2 h hk hd hn K hK
      have s22:=h.e3 hd.1
      have s26:=h.e7 hd.2.1
      go_simp
      refine (tm_mul (tAt a p) (tAt c q) _).mono ?_
      rintro e w3 ⟨rfl,hb⟩
      exact .inl ⟨_,rfl,hK {h with mu:=h.mu.step hb,al_w:=fun a=>aS hb (h.al_w a),e8:=rF}⟩
     ·intro L s w2 h hk hd hn K hK
      exact rs_extract rfl (h.e8 hd.1) rfl (hK {h with e9:=rF})
     ·intro L s w2 h hk hd hn K hK
      exact rs_extract rfl (h.e8 hd.1) rfl (hK {h with e10:=rF})
     ·intro L s w2 h hk hd hn K hK
      have s28:=h.e9 hd.1
      have s29:=h.e10 hd.2.1
      go_simp
      refine (tm_must ((sMul (tAt a p) (tAt c q)).1) ((sMul (tAt a p) (tAt c q)).2) _).mono ?_
      rintro e w3 ⟨⟨hz,rfl⟩ | ⟨hz,rfl⟩,hb⟩
      ·exact .inl ⟨_,rfl,hK {h with mu:=h.mu.step hb,al_w:=fun a=>aS hb (h.al_w a),e11:=rF,z11:=fun _=>hz}⟩
      ·exact .inr ⟨_,rfl,congrArg brk (show (sMul (tAt a p) (tAt c q)).2=fstE [(sMul (tAt a p) (tAt c q)).2] from (by rw [fstE_1 (show ¬(sMul (tAt a p) (tAt c q)).2=0 from hz)])),(show ¬fstE [(sMul (tAt a p) (tAt c q)).2]=0 from (by rw [fstE_1 (show ¬(sMul (tAt a p) (tAt c q)).2=0 from hz)];exact hz)),h.mu.step hb⟩
     ·intro L s w2 h hk hd hn K hK
      go_simp
      exact hK {h with mu:=h.mu.alloc _,al_w:=fun _=>aW h.mu.size h.b13_12 hn,b13_12:=rF}
     ·intro L s w2 h hk hd hn K hK
      obtain ⟨g,hg0,hg1,hgl,hg2,hg3⟩:=h.al_w hd.1
      have kb:=hg2 hn
      exact rs_store rfl hg0 (h.e11 hd.2.1) (sp_store (p:=0) kb (by simp) _) (hK {h with mu:=h.mu.putNew hg1 _,al_w:=fun _=>aT hg0 hg1 hgl kb,b13_12:=fun _=>hd.1})
    ·intro L s w2 h hk hl
     refine cA ?_ (hQ2 s w2 (⟨h.mu,aE (h.al_w (hl 12 (by decide))) (hl 13 (by decide)),h.z11 (hl 11 (by decide))⟩))
     exact fq hk
    ·intro c s w2 hc
     exact hP2 _ _ _ hc
   ·rintro s9 V ⟨h1,⟨g,hg0,hg1,hg2⟩,hx⟩
    simp only [mergeL]
    rw [hg0]
    have hm2:Mut [b+1+1+1,b+1+1+1+1,M] W V:=h1.up (by simp)
    have hst:StP b N M a c p i j V:=HST2.out.mut HOR.out.1 HOR.out.2.1 hm2
    have hbr:b+1+1+1+1<W.heap.size:=lt_of_block HJ2.out.hr
    have HS:=lh ((h1.same _ (lt_of_block HJ2.out.hs) (by simp)).trans HJ2.out.hs)
    have HR:=lh ((h1.same _ (lt_of_block HJ2.out.hr) (by simp)).trans HJ2.out.hr)
    have HQV:=lh ((h1.same _ (lt_of_block HJ2.out.hq) (by simp)).trans HJ2.out.hq)
    have HI:=lh hst.hI
    have HJJ:=lh hst.hJ
    have HLT:=lh HJ2.out.len
    have HX:=lh hx
    have hszw:=HST2.out.sz
    have HM3:=lh hm2
    obtain ⟨x,hxx⟩:∃x,(sMul (tAt a p) (tAt c q)).1=x:=⟨_,rfl⟩
    rw [hxx] at hg2
    have HXX:=lh hxx
    have HW:=lh hg2
    have HOR0:=HOR
    replace HOR:=lh (show b+6<=N/\M=N+2/\M+1<=g/\M+1<=V.heap.size from ⟨HOR0.out.1,HOR0.out.2.1,by omega,hst.sz⟩)
    have ci:=cell_of_one hst.hI
    have cj:=cell_of_one hst.hJ
    clear hm2 hst hbr hx hszw hxx hg2 h1 hg0 hg1
    by_cases h5:5<i+j+k+m
    ·have HH5:=lh h5
     have hd5:decide ((5:Int)<(i:Int)+(j:Int)+(k:Int)+(m:Int))=true:=decide_eq_true (by omega)
     have hlt5:(5:Int)<(i:Int)+(j:Int)+(k:Int)+(m:Int):=by omega
     refine wpF_seq (wpF_ofR (n:=5) ?_)
     gi_wp2_with fail
     refine wpIn_cut_mergeP [none,none,none,none,none,none,none,none,none,none,none,none,none,none,none,none,none,none,none,none,none,none,none,none,none,none,none,none,none,none,none,none,none,none,none,none,none,none,none,some 39,some 40,some 41,some 42,some 43,some 44,some 45,some 46,some 47,some 48,some 49,some 50,some 51,none,none,none,none,none,none,none,none,none,none,none,none,none,none,none,none,none,none,none,none,none,none,none,none,none,none,none,none,none,none,none,none,none,none,none,none,none,none,none,none,none,none,none,none,none,none,none,none,none,none,none,none,none,none,none,none] (fun _ w'=>Mut [b+1+1+1+1] V w'/\w'.heap[b+1+1+1+1]?=some (cobj 90 ([(sAdd r (sMul x (tReach (i+k) (j+m))).1).1]))/\(sMul (x) (tReach (i+k) (j+m))).2=0/\(sAdd (r) ((sMul (x) (tReach (i+k) (j+m))).1)).2=0) (fun ch w'=>ch=brk (fstE [(sMul (x) (tReach (i+k) (j+m))).2,(sAdd (r) ((sMul (x) (tReach (i+k) (j+m))).1)).2])/\¬fstE [(sMul (x) (tReach (i+k) (j+m))).2,(sAdd (r) ((sMul (x) (tReach (i+k) (j+m))).1)).2]=0/\Mut [b+1+1+1+1] V w') ?_ ?_ ?_
     ·intro Q2 hQ2 hP2
      refine wp_region_G (b:=true) (Pn:=(fun ch w'=>ch=brk (fstE [(sMul (x) (tReach (i+k) (j+m))).2,(sAdd (r) ((sMul (x) (tReach (i+k) (j+m))).1)).2])/\¬fstE [(sMul (x) (tReach (i+k) (j+m))).2,(sAdd (r) ((sMul (x) (tReach (i+k) (j+m))).1)).2]=0/\Mut [b+1+1+1+1] V w')) (Pg11 V b N M g x r i j k m) (by kernel_rfl) (by kernel_rfl) ?_ ?_ ?_ ?_
      ·exact ⟨Mut.start _ true _,fun _=>HR.out,nB,nB,nB,nB,nB,nB,nB,nB,nB,nB,nB,nB,nB,nB,nB⟩
      ·refine aC ?_ (aC ?_ (aC ?_ (aC ?_ (aC ?_ (aC ?_ (aC ?_ (aC ?_ (aC ?_ (aC ?_ (aC ?_ (aC ?_ (aC ?_ aN))))))))))))
       ·intro L s w2 h hk hd hn K hK
        have kb:=kY h.mu HW (by have:=HOR.out;omega)
        exact rs_load rfl (hk 13) (sp_load (p:=0) kb (by simp)) (hK {h with e0:=rF})
       ·intro L s w2 h hk hd hn K hK
        have kb:=kY h.mu HI (by have:=HOR.out;omega)
        exact rs_load rfl (hk 8) (i_load kb) (hK {h with e1:=rF})
       ·intro L s w2 h hk hd hn K hK
        exact rs_move rfl (hk 11) (hK {h with e2:=rF})
       ·intro L s w2 h hk hd hn K hK
        have s40:=h.e1 hd.1
        have s41:=h.e2 hd.2.1
        go_simp
        exact hK {h with e3:=fun _=>congrArg (Value.int .i64) (wrap_nat (i) (k) (by omega))}
       ·intro L s w2 h hk hd hn K hK
        have kb:=kY h.mu HJJ (by have:=HOR.out;omega)
        exact rs_load rfl (hk 9) (i_load kb) (hK {h with e4:=rF})
       ·intro L s w2 h hk hd hn K hK
        exact rs_move rfl (hk 12) (hK {h with e5:=rF})
       ·intro L s w2 h hk hd hn K hK
        have s43:=h.e4 hd.1
        have s44:=h.e5 hd.2.1
        go_simp
        exact hK {h with e6:=fun _=>congrArg (Value.int .i64) (wrap_nat (j) (m) (by omega))}
       ·intro L s w2 h hk hd hn K hK
        have s42:=h.e3 hd.1
        have s45:=h.e6 hd.2.1
        go_simp
        refine (tm_reach (i+k) (j+m) (by omega) (by omega) _).mono ?_
        rintro e w3 ⟨rfl,hb⟩
        exact .inl ⟨_,rfl,hK {h with mu:=h.mu.step hb,kt_rest:=fun a=>bk hb (h.kt_rest a),kr_rest:=fun a=>bk hb (h.kr_rest a),e7:=rF}⟩
       ·intro L s w2 h hk hd hn K hK
        have s39:=h.e0 hd.1
        have s46:=h.e7 hd.2.1
        go_simp
        refine (tm_mul (x) (tReach (i+k) (j+m)) _).mono ?_
        rintro e w3 ⟨rfl,hb⟩
        exact .inl ⟨_,rfl,hK {h with mu:=h.mu.step hb,kt_rest:=fun a=>bk hb (h.kt_rest a),kr_rest:=fun a=>bk hb (h.kr_rest a),e8:=rF}⟩
       ·intro L s w2 h hk hd hn K hK
        exact rs_extract rfl (h.e8 hd.1) rfl (hK {h with e9:=rF})
       ·intro L s w2 h hk hd hn K hK
        exact rs_extract rfl (h.e8 hd.1) rfl (hK {h with e10:=rF})
       ·intro L s w2 h hk hd hn K hK
        have s48:=h.e9 hd.1
        have s49:=h.e10 hd.2.1
        go_simp
        refine (tm_must ((sMul (x) (tReach (i+k) (j+m))).1) ((sMul (x) (tReach (i+k) (j+m))).2) _).mono ?_
        rintro e w3 ⟨⟨hz,rfl⟩ | ⟨hz,rfl⟩,hb⟩
        ·exact .inl ⟨_,rfl,hK {h with mu:=h.mu.step hb,kt_rest:=fun a=>bk hb (h.kt_rest a),kr_rest:=fun a=>bk hb (h.kr_rest a),e11:=rF,z11:=fun _=>hz}⟩
        ·exact .inr ⟨_,rfl,congrArg brk (show (sMul (x) (tReach (i+k) (j+m))).2=fstE [(sMul (x) (tReach (i+k) (j+m))).2,(sAdd (r) ((sMul (x) (tReach (i+k) (j+m))).1)).2] from (by rw [fstE_1 (show ¬(sMul (x) (tReach (i+k) (j+m))).2=0 from hz)])),(show ¬fstE [(sMul (x) (tReach (i+k) (j+m))).2,(sAdd (r) ((sMul (x) (tReach (i+k) (j+m))).1)).2]=0 from (by rw [fstE_1 (show ¬(sMul (x) (tReach (i+k) (j+m))).2=0 from hz)];exact hz)),h.mu.step hb⟩
       ·intro L s w2 h hk hd hn K hK
        have s6:s 6=_:=hk 6
        have s50:=h.e11 hd.1
        have kb:=h.kt_rest hn
        go_simp
        refine (tm_grow (b+1+1+1+1) _ [r] (0) (by simp) ((sMul (x) (tReach (i+k) (j+m))).1) _ kb).mono ?_
        rintro e w3 ⟨⟨hz,⟨v,rfl⟩,hkr⟩ | ⟨hz,rfl⟩,hb⟩
        ·exact .inl ⟨_,rfl,hK {h with mu:=mS h.mu hb (List.Mem.head _),z12:=fun _=>hz,kt_rest:=nF,kr_rest:=fun _=>hkr}⟩
        ·exact .inr ⟨_,rfl,congrArg brk (show (sAdd (r) ((sMul (x) (tReach (i+k) (j+m))).1)).2=fstE [(sMul (x) (tReach (i+k) (j+m))).2,(sAdd (r) ((sMul (x) (tReach (i+k) (j+m))).1)).2] from (by rw [fstE_0 (show (sMul (x) (tReach (i+k) (j+m))).2=0 from h.z11 hd.1),fstE_1 (show ¬(sAdd (r) ((sMul (x) (tReach (i+k) (j+m))).1)).2=0 from hz)])),(show ¬fstE [(sMul (x) (tReach (i+k) (j+m))).2,(sAdd (r) ((sMul (x) (tReach (i+k) (j+m))).1)).2]=0 from (by rw [fstE_0 (show (sMul (x) (tReach (i+k) (j+m))).2=0 from h.z11 hd.1),fstE_1 (show ¬(sAdd (r) ((sMul (x) (tReach (i+k) (j+m))).1)).2=0 from hz)];exact hz)),mS h.mu hb (List.Mem.head _)⟩
      ·intro L s w2 h hk hl
       refine cA ?_ (hQ2 s w2 (⟨h.mu,h.kr_rest (hl 12 (by decide)),h.z11 (hl 11 (by decide)),h.z12 (hl 12 (by decide))⟩))
       exact fq hk
      ·intro c s w2 hc
       exact hP2 _ _ _ hc
     ·rintro s11 V2 ⟨h1,h2,z1,z2⟩
      simp only [mergeL]
      have hqv:=(h1.same _ (lt_of_block HQV.out) (notin1 (by have:=HOR.out;omega))).trans HQV.out
      have c0:=cell_of_one hqv
      have f0:V2.frozen? ⟨M,0,none⟩=false:=by simp [World.frozen?,hqv,iobj]
      have H1:=lh h1
      have H2:=lh h2
      have HZ:=lh (And.intro z1 z2)
      have HCQ:=lh hqv
      have hq0:(0:Int)<=(q:Int):=by omega
      have hq1:(q:Int)<=20:=by have:=HQL.out;omega
      clear h1 h2 hqv z1 z2 hd5 hlt5 ci cj
      show wpF _ _ _ _ _ _ _
      refine wpF_ofR (n:=5) ?_
      gi_wp2_with fail
      rw [show V2.setCell ⟨M,0,none⟩ (.int .i64 ((q:Int)+1))=V2.putObj M (iobj 3 ((q+1:Nat):Int)) from setCell_put HCQ.out 0 _]
      have hmu:Mut [b+1+1+1,b+1+1+1+1,M] W (V2.putObj M (iobj 3 ((q+1:Nat):Int))):=(HM3.out.trans (H1.out.up fun x hx=>.inl (by simp at hx;simp [hx]))).put (by simp) _
      have hor:=HOR.out
      refine ⟨hmu.keep (by have:=HSZ2.out;intro x hx;simp at hx;omega),T,(sAdd r (sMul x (tReach (i+k) (j+m))).1).1,HJ2.out.mu.trans hmu,(World.putObj_heap_other (by omega)).trans ((H1.out.same _ (lt_of_block HS.out) (notin1 (by omega))).trans HS.out),(World.putObj_heap_other (by omega)).trans H2.out,?_,HLT.out,?_⟩
      ·rw [HNQ.out]
       exact World.putObj_heap_same (lt_of_block HCQ.out)
      ·have hg:=HJ2.out.go
       rw [HDQ.out,tInner_ok (S':=(T)++[(sAdd r (sMul x (tReach (i+k) (j+m))).1).1]) (by rw [tStep_hi HLT.out HH5.out HX.out,HXX.out,thenE_ok HZ.out.1,thenE_ok HZ.out.2])] at hg
       rw [HNQ.out]
       exact hg
     ·rintro e l'' w' ⟨rfl,hz,h2⟩
      have hg:=HJ2.out.go
      have hb:(tStep a c i j k m p q (T++[r])).2=fstE [(sMul x (tReach (i+k) (j+m))).2,(sAdd r (sMul x (tReach (i+k) (j+m))).1).2]:=by rw [tStep_hi HLT.out HH5.out HX.out,HXX.out];exact thenE_fst2 hz
      rw [HDQ.out] at hg
      have he:=tInner_bad (l:=tPairs.drop (q+1)) (a:=a) (c:=c) (i:=i) (j:=j) (k:=k) (m:=m) (p:=p) (q:=q) (S:=T++[r]) (by rw [hb];exact hz)
      rw [hg,hb] at he
      have h3:=HM3.out.trans (h2.up (S':=[b+1+1+1,b+1+1+1+1,M]) fun x hx=>.inl (by simp at hx;simp [hx]))
      have hor:=HOR.out
      exact ⟨rfl,h3.keep (by have:=HSZ2.out;intro x hx;simp at hx;omega),by rw [he],by rw [he];exact hz,HJ2.out.mu.trans h3⟩
    ·have HH5:=lh h5
     have hd5:decide ((5:Int)<(i:Int)+(j:Int)+(k:Int)+(m:Int))=false:=decide_eq_false (by omega)
     have hlt5:¬(5:Int)<(i:Int)+(j:Int)+(k:Int)+(m:Int):=by omega
     have HPN:=lh (show tPlace (i+k) (j+m)<21 from tPlace_lt ⟨i+k,by omega⟩ ⟨j+m,by omega⟩ (by dsimp only;omega))
     refine wpF_seq (wpF_ofR (n:=5) ?_)
     gi_wp2_with fail
     refine wpIn_cut_mergeP [none,none,none,none,none,none,none,none,none,none,none,none,none,none,none,none,none,none,none,none,none,none,none,none,none,none,none,none,none,none,none,none,none,none,none,none,none,none,none,none,none,none,none,none,none,none,none,none,none,none,none,none,some 52,some 53,some 54,some 55,some 56,some 57,some 58,some 59,some 60,some 61,none,none,none,none,none,none,none,none,none,none,none,none,none,none,none,none,none,none,none,none,none,none,none,none,none,none,none,none,none,none,none,none,none,none,none,none,none,none,none,none,none,none,none,none,none,none] (fun _ w'=>Mut [b+1+1+1] V w'/\w'.heap[b+1+1+1]?=some (cobj 91 (T.set (tPlace (i+k) (j+m)) (sAdd (tAt T (tPlace (i+k) (j+m))) x).1))/\(sAdd (tAt T (tPlace (i+k) (j+m))) (x)).2=0) (fun ch w'=>ch=brk (fstE [(sAdd (tAt T (tPlace (i+k) (j+m))) (x)).2])/\¬fstE [(sAdd (tAt T (tPlace (i+k) (j+m))) (x)).2]=0/\Mut [b+1+1+1] V w') ?_ ?_ ?_
     ·intro Q2 hQ2 hP2
      refine wp_region_G (b:=true) (Pn:=(fun ch w'=>ch=brk (fstE [(sAdd (tAt T (tPlace (i+k) (j+m))) (x)).2])/\¬fstE [(sAdd (tAt T (tPlace (i+k) (j+m))) (x)).2]=0/\Mut [b+1+1+1] V w')) (Pg12 V b N M g x T i j k m) (by kernel_rfl) (by kernel_rfl) ?_ ?_ ?_ ?_
      ·exact ⟨Mut.start _ true _,fun _=>HS.out,nB,nB,nB,nB,nB,nB,nB,nB,nB,nB,nB⟩
      ·refine aC ?_ (aC ?_ (aC ?_ (aC ?_ (aC ?_ (aC ?_ (aC ?_ (aC ?_ (aC ?_ (aC ?_ aN)))))))))
       ·intro L s w2 h hk hd hn K hK
        have kb:=kY h.mu HI (by have:=HOR.out;omega)
        exact rs_load rfl (hk 8) (i_load kb) (hK {h with e0:=rF})
       ·intro L s w2 h hk hd hn K hK
        exact rs_move rfl (hk 11) (hK {h with e1:=rF})
       ·intro L s w2 h hk hd hn K hK
        have s52:=h.e0 hd.1
        have s53:=h.e1 hd.2.1
        go_simp
        exact hK {h with e2:=fun _=>congrArg (Value.int .i64) (wrap_nat (i) (k) (by omega))}
       ·intro L s w2 h hk hd hn K hK
        have kb:=kY h.mu HJJ (by have:=HOR.out;omega)
        exact rs_load rfl (hk 9) (i_load kb) (hK {h with e3:=rF})
       ·intro L s w2 h hk hd hn K hK
        exact rs_move rfl (hk 12) (hK {h with e4:=rF})
       ·intro L s w2 h hk hd hn K hK
        have s55:=h.e3 hd.1
        have s56:=h.e4 hd.2.1
        go_simp
        exact hK {h with e5:=fun _=>congrArg (Value.int .i64) (wrap_nat (j) (m) (by omega))}
       ·intro L s w2 h hk hd hn K hK
        have s54:=h.e2 hd.1
        have s57:=h.e5 hd.2.1
        go_simp
        refine (tay_place (i+k) (j+m) (by omega) _).mono ?_
        rintro e w3 ⟨rfl,hb⟩
        exact .inl ⟨_,rfl,hK {h with mu:=h.mu.step hb,kt_sums:=fun a=>bk hb (h.kt_sums a),kr_sums:=fun a=>bk hb (h.kr_sums a),e6:=rF}⟩
       ·intro L s w2 h hk hd hn K hK
        exact rs_index rfl (hk 5) (h.e6 hd.1) (ix_total _ (tPlace (i+k) (j+m)) HPN.out) (hK {h with e7:=rF})
       ·intro L s w2 h hk hd hn K hK
        have kb:=kY h.mu HW (by have:=HOR.out;omega)
        exact rs_load rfl (hk 13) (sp_load (p:=0) kb (by simp)) (hK {h with e8:=rF})
       ·intro L s w2 h hk hd hn K hK
        have s59:=h.e7 hd.1
        have s60:=h.e8 hd.2.1
        have kb:=h.kt_sums hn
        go_simp
        refine (tm_grow (b+1+1+1) _ T (tPlace (i+k) (j+m)) (by have:=HLT.out;have:=HPN.out;omega) (x) _ kb).mono ?_
        rintro e w3 ⟨⟨hz,⟨v,rfl⟩,hkr⟩ | ⟨hz,rfl⟩,hb⟩
        ·exact .inl ⟨_,rfl,hK {h with mu:=mS h.mu hb (List.Mem.head _),z9:=fun _=>hz,kt_sums:=nF,kr_sums:=fun _=>hkr}⟩
        ·exact .inr ⟨_,rfl,congrArg brk (show (sAdd (tAt T (tPlace (i+k) (j+m))) (x)).2=fstE [(sAdd (tAt T (tPlace (i+k) (j+m))) (x)).2] from (by rw [fstE_1 (show ¬(sAdd (tAt T (tPlace (i+k) (j+m))) (x)).2=0 from hz)])),(show ¬fstE [(sAdd (tAt T (tPlace (i+k) (j+m))) (x)).2]=0 from (by rw [fstE_1 (show ¬(sAdd (tAt T (tPlace (i+k) (j+m))) (x)).2=0 from hz)];exact hz)),mS h.mu hb (List.Mem.head _)⟩
      ·intro L s w2 h hk hl
       refine cA ?_ (hQ2 s w2 (⟨h.mu,h.kr_sums (hl 9 (by decide)),h.z9 (hl 9 (by decide))⟩))
       exact fq hk
      ·intro c s w2 hc
       exact hP2 _ _ _ hc
     ·rintro s11 V2 ⟨h1,h2,z1⟩
      simp only [mergeL]
      have hqv:=(h1.same _ (lt_of_block HQV.out) (notin1 (by have:=HOR.out;omega))).trans HQV.out
      have c0:=cell_of_one hqv
      have f0:V2.frozen? ⟨M,0,none⟩=false:=by simp [World.frozen?,hqv,iobj]
      have H1:=lh h1
      have H2:=lh h2
      have HZ:=lh (z1)
      have HCQ:=lh hqv
      have hq0:(0:Int)<=(q:Int):=by omega
      have hq1:(q:Int)<=20:=by have:=HQL.out;omega
      clear h1 h2 hqv z1 hd5 hlt5 ci cj
      show wpF _ _ _ _ _ _ _
      refine wpF_ofR (n:=5) ?_
      gi_wp2_with fail
      rw [show V2.setCell ⟨M,0,none⟩ (.int .i64 ((q:Int)+1))=V2.putObj M (iobj 3 ((q+1:Nat):Int)) from setCell_put HCQ.out 0 _]
      have hmu:Mut [b+1+1+1,b+1+1+1+1,M] W (V2.putObj M (iobj 3 ((q+1:Nat):Int))):=(HM3.out.trans (H1.out.up fun x hx=>.inl (by simp at hx;simp [hx]))).put (by simp) _
      have hor:=HOR.out
      refine ⟨hmu.keep (by have:=HSZ2.out;intro x hx;simp at hx;omega),T.set (tPlace (i+k) (j+m)) (sAdd (tAt T (tPlace (i+k) (j+m))) x).1,r,HJ2.out.mu.trans hmu,(World.putObj_heap_other (by omega)).trans H2.out,(World.putObj_heap_other (by omega)).trans ((H1.out.same _ (lt_of_block HR.out) (notin1 (by omega))).trans HR.out),?_,by rw [List.length_set];exact HLT.out,?_⟩
      ·rw [HNQ.out]
       exact World.putObj_heap_same (lt_of_block HCQ.out)
      ·have hg:=HJ2.out.go
       rw [HDQ.out,tInner_ok (S':=(T.set (tPlace (i+k) (j+m)) (sAdd (tAt T (tPlace (i+k) (j+m))) x).1)++[r]) (by rw [tStep_lo HLT.out HH5.out HX.out,HXX.out,thenE_ok HZ.out])] at hg
       rw [HNQ.out]
       exact hg
     ·rintro e l'' w' ⟨rfl,hz,h2⟩
      have hg:=HJ2.out.go
      have hb:(tStep a c i j k m p q (T++[r])).2=fstE [(sAdd (tAt T (tPlace (i+k) (j+m))) x).2]:=by rw [tStep_lo HLT.out HH5.out HX.out,HXX.out];exact thenE_fst1 hz
      rw [HDQ.out] at hg
      have he:=tInner_bad (l:=tPairs.drop (q+1)) (a:=a) (c:=c) (i:=i) (j:=j) (k:=k) (m:=m) (p:=p) (q:=q) (S:=T++[r]) (by rw [hb];exact hz)
      rw [hg,hb] at he
      have h3:=HM3.out.trans (h2.up (S':=[b+1+1+1,b+1+1+1+1,M]) fun x hx=>.inl (by simp at hx;simp [hx]))
      have hor:=HOR.out
      exact ⟨rfl,h3.keep (by have:=HSZ2.out;intro x hx;simp at hx;omega),by rw [he],by rw [he];exact hz,HJ2.out.mu.trans h3⟩
   ·rintro e l'' w' ⟨rfl,hz,h2⟩
    rw [fstE_one] at hz ⊢
    have hg:=HJ2.out.go
    have hb:=tStep_x (a:=a) (c:=c) (i:=i) (j:=j) (k:=k) (m:=m) (p:=p) (q:=q) (S:=T++[r]) hz
    rw [HDQ.out] at hg
    have he:=tInner_bad (l:=tPairs.drop (q+1)) (a:=a) (c:=c) (i:=i) (j:=j) (k:=k) (m:=m) (p:=p) (q:=q) (S:=T++[r]) (by rw [hb];exact hz)
    rw [hg,hb] at he
    have h3:=h2.up (S':=[b+1+1+1,b+1+1+1+1,M]) (by simp)
    have hor:=HOR.out
    exact ⟨rfl,h3.keep (by have:=HSZ2.out;intro x hx;simp at hx;omega),by rw [he],by rw [he];exact hz,HJ2.out.mu.trans h3⟩
  ·rintro W ⟨T,r,hJ⟩
   have hor:=HOR.out
   have hst:StP b N M a c p i j W:=HST.out.mut hor.1 hor.2.1 hJ.mu
   have c0:=cell_of_one hst.hP
   have f0:W.frozen? ⟨b+1+1+1+1+1,0,none⟩=false:=by simp [World.frozen?,hst.hP,iobj]
   have HPW:=lh hst.hP
   have HJW:=lh hJ
   have hp0:(0:Int)<=(p:Int):=by omega
   have hp1:(p:Int)<=20:=by have:=HPL.out;omega
   clear hst hJ hor
   show wpF _ _ _ _ _ _ _
   refine wpF_ofR (n:=5) ?_
   gi_wp2_with fail
   rw [show W.setCell ⟨b+1+1+1+1+1,0,none⟩ (.int .i64 ((p:Int)+1))=W.putObj (b+1+1+1+1+1) (iobj 3 ((p+1:Nat):Int)) from setCell_put HPW.out 0 _]
   have hor:=HOR.out
   have hm:=HM.out
   have hmu:Mut [b+1+1+1,b+1+1+1+1,b+1+1+1+1+1] Wq (W.putObj (b+1+1+1+1+1) (iobj 3 ((p+1:Nat):Int))):=((HM2.out.up (S':=[b+1+1+1,b+1+1+1+1,b+1+1+1+1+1]) (by simp)).stepM HJW.out.mu (by intro x hx;simp at hx ⊢;omega)).put (by simp) _
   have hsz:=HS4.out
   refine ⟨hmu.keep (by intro x hx;simp at hx;omega),T,r,HQ1.out.trans hmu,(World.putObj_heap_other (by omega)).trans HJW.out.hs,(World.putObj_heap_other (by omega)).trans HJW.out.hr,?_,HJW.out.len,?_⟩
   ·rw [HNX.out]
    exact World.putObj_heap_same (lt_of_block HPW.out)
   ·have hg:=HJG.out
    have hi:tInner a c i j p tPairs 0 (T0++[r0])=(T++[r],0):=HJW.out.go.symm
    rw [HD.out,tOuter_ok hi] at hg
    rw [HNX.out]
    exact hg
  ·rintro e W ⟨rfl,hz,hM⟩
   have hor:=HOR.out
   have hm:=HM.out
   have hsz:=HS4.out
   have hmu:Mut [b+1+1+1,b+1+1+1+1,b+1+1+1+1+1] Wq W:=(HM2.out.up (S':=[b+1+1+1,b+1+1+1+1,b+1+1+1+1+1]) (by simp)).stepM hM (by intro x hx;simp at hx ⊢;omega)
   have hg:=HJG.out
   rw [HD.out] at hg
   have he:=tOuter_bad (l:=tPairs.drop (p+1)) hz
   rw [hg] at he
   exact ⟨rfl,hmu.keep (by intro x hx;simp at hx;omega),by rw [he],by rw [he];exact hz,HQ1.out.trans hmu⟩
 ·rintro V ⟨T,r,hJ⟩ hD
  have hsz:=HS4.out
  have HO0:=lh (show tOuter a c tPairs 0 zeroM=(T++[r],0) from hJ.go.symm)
  have HTL:=lh hJ.len
  have HP0:=lh (tProduct_of hJ.len HO0.out)
  have HMV:=lh hJ.mu
  have HS:=lh hJ.hs
  have HR:=lh hJ.hr
  have HA:=lh ((hJ.mu.same _ (lt_of_block HA1.out) (notin3 (by omega) (by omega) (by omega))).trans HA1.out)
  have HC:=lh ((hJ.mu.same _ (lt_of_block HC1.out) (notin3 (by omega) (by omega) (by omega))).trans HC1.out)
  have HO:=lh ((hJ.mu.same _ (lt_of_block HO1.out) (notin3 (by omega) (by omega) (by omega))).trans HO1.out)
  have HD:=lh hD
  clear hJ hD hsz
  have PAN:=lh (show ∀(n:Int) (l'':Array Value) (w':World),n=(tProduct a c).2->¬n=0->Mut [b+1+1,b+1+1+1,b+1+1+1+1,b+1+1+1+1+1] W1 w'->w'.heap[W1.heap.size]?=some (.deferred (some [])) ->
    bodyPostM Fence.wide 5 Tryz.prog Tryz.f28 (fun e w'=>Ends mval (tProduct a c) e/\Below b w w') (.panic (brk n)) ⟨l'',[{target:=.collected W1.heap.size,args:=#[]}]⟩ w' from by
   intro n l'' w' hn hz hM hD
   refine ⟨by simp,.inl ⟨_,_,rfl,run_takeDeferred hD,?_⟩⟩
   rw [hn] at hz ⊢
   exact ⟨.inr ⟨hz,rfl⟩,HB1.out.trans (put_bel (hM.below (by have:=HS4.out;omega) (by intro x hx;simp at hx;omega)) (by have:=HS4.out;omega))⟩)
  replace HMV:=lh (HMV.out.up (S':=[b+1+1,b+1+1+1,b+1+1+1+1,b+1+1+1+1+1]) (by intro x hx;simp at hx ⊢;omega))
  show wpF _ _ _ _ _ _ _
  refine wpF_seq (wpF_of (n:=5) ?_)
  refine wpIn_cut_mergeP [none,none,none,none,none,none,none,none,none,none,none,none,none,none,none,none,none,none,none,none,none,none,none,none,none,none,none,none,none,none,none,none,none,none,none,none,none,none,none,none,none,none,none,none,none,none,none,none,none,none,none,none,none,none,none,none,none,none,none,none,none,none,none,none,none,none,some 66,some 67,some 68,some 69,some 70,some 71,some 72,some 73,some 74,none,none,none,none,none,none,none,none,none,none,none,none,none,none,none,none,none,none,none,none,none,none,none,none,none,none,none,none,none,none,none,none,none] (fun _ w'=>Mut [b+1+1+1+1] V w'/\w'.heap[b+1+1+1+1]?=some (cobj 90 ([(sAdd r (sMul (tSweep a).1 (tAt c 21)).1).1]))/\(tSweep a).2=0/\(sMul ((tSweep a).1) (tAt c 21)).2=0/\(sAdd (r) ((sMul ((tSweep a).1) (tAt c 21)).1)).2=0) (fun ch w'=>ch=brk (fstE [(tSweep a).2,(sMul ((tSweep a).1) (tAt c 21)).2,(sAdd (r) ((sMul ((tSweep a).1) (tAt c 21)).1)).2])/\¬fstE [(tSweep a).2,(sMul ((tSweep a).1) (tAt c 21)).2,(sAdd (r) ((sMul ((tSweep a).1) (tAt c 21)).1)).2]=0/\Mut [b+1+1+1+1] V w') ?_ ?_ ?_
  ·intro Q2 hQ2 hP2
   refine wp_region_G (b:=true) (Pn:=(fun ch w'=>ch=brk (fstE [(tSweep a).2,(sMul ((tSweep a).1) (tAt c 21)).2,(sAdd (r) ((sMul ((tSweep a).1) (tAt c 21)).1)).2])/\¬fstE [(tSweep a).2,(sMul ((tSweep a).1) (tAt c 21)).2,(sAdd (r) ((sMul ((tSweep a).1) (tAt c 21)).1)).2]=0/\Mut [b+1+1+1+1] V w')) (Pg15 V b a c r) (by kernel_rfl) (by kernel_rfl) ?_ ?_ ?_ ?_
   ·exact ⟨Mut.start _ true _,fun _=>HR.out,nB,nB,nB,nB,nB,nB,nB,nB,nB,nB,nB,nB,nB,nB,nB⟩
   ·refine aC ?_ (aC ?_ (aC ?_ (aC ?_ (aC ?_ (aC ?_ (aC ?_ (aC ?_ (aC ?_ aN))))))))
    ·intro L s w2 h hk hd hn K hK
     have kb:=kY h.mu HA (by omega)
     exact rs_load rfl (hk 2) (md_load kb HL.out) (hK {h with e0:=rF})
    ·intro L s w2 h hk hd hn K hK
     have s66:=h.e0 hd.1
     go_simp
     refine (tay_sweep a HL.out _).mono ?_
     rintro e w3 ⟨⟨hz,rfl⟩ | ⟨hz,rfl⟩,hb⟩
     ·exact .inl ⟨_,rfl,hK {h with mu:=h.mu.step hb,kt_rest:=fun a=>bk hb (h.kt_rest a),kr_rest:=fun a=>bk hb (h.kr_rest a),e1:=rF,z1:=fun _=>hz}⟩
     ·exact .inr ⟨_,rfl,congrArg brk (show (tSweep a).2=fstE [(tSweep a).2,(sMul ((tSweep a).1) (tAt c 21)).2,(sAdd (r) ((sMul ((tSweep a).1) (tAt c 21)).1)).2] from (by rw [fstE_1 (show ¬(tSweep a).2=0 from hz)])),(show ¬fstE [(tSweep a).2,(sMul ((tSweep a).1) (tAt c 21)).2,(sAdd (r) ((sMul ((tSweep a).1) (tAt c 21)).1)).2]=0 from (by rw [fstE_1 (show ¬(tSweep a).2=0 from hz)];exact hz)),h.mu.step hb⟩
    ·intro L s w2 h hk hd hn K hK
     exact rs_field rfl (hk 3) (fl_model1 _ _) (hK {h with e2:=rF})
    ·intro L s w2 h hk hd hn K hK
     have kb:=kY h.mu HC (by omega)
     exact rs_load rfl (h.e2 hd.1) (sp_load (p:=21) kb (by have:=HLC.out;omega)) (hK {h with e3:=rF})
    ·intro L s w2 h hk hd hn K hK
     have s67:=h.e1 hd.1
     have s69:=h.e3 hd.2.1
     go_simp
     refine (tm_mul ((tSweep a).1) (tAt c 21) _).mono ?_
     rintro e w3 ⟨rfl,hb⟩
     exact .inl ⟨_,rfl,hK {h with mu:=h.mu.step hb,kt_rest:=fun a=>bk hb (h.kt_rest a),kr_rest:=fun a=>bk hb (h.kr_rest a),e4:=rF,q4_1:=fun _=>h.z1 hd.1}⟩
    ·intro L s w2 h hk hd hn K hK
     exact rs_extract rfl (h.e4 hd.1) rfl (hK {h with e5:=rF,q5_1:=fun _=>h.q4_1 hd.1})
    ·intro L s w2 h hk hd hn K hK
     exact rs_extract rfl (h.e4 hd.1) rfl (hK {h with e6:=rF})
    ·intro L s w2 h hk hd hn K hK
     have s71:=h.e5 hd.1
     have s72:=h.e6 hd.2.1
     go_simp
     refine (tm_must ((sMul ((tSweep a).1) (tAt c 21)).1) ((sMul ((tSweep a).1) (tAt c 21)).2) _).mono ?_
     rintro e w3 ⟨⟨hz,rfl⟩ | ⟨hz,rfl⟩,hb⟩
     ·exact .inl ⟨_,rfl,hK {h with mu:=h.mu.step hb,kt_rest:=fun a=>bk hb (h.kt_rest a),kr_rest:=fun a=>bk hb (h.kr_rest a),e7:=rF,z7:=fun _=>hz,q7_1:=fun _=>h.q5_1 hd.1}⟩
     ·exact .inr ⟨_,rfl,congrArg brk (show (sMul ((tSweep a).1) (tAt c 21)).2=fstE [(tSweep a).2,(sMul ((tSweep a).1) (tAt c 21)).2,(sAdd (r) ((sMul ((tSweep a).1) (tAt c 21)).1)).2] from (by rw [fstE_0 (show (tSweep a).2=0 from h.q5_1 hd.1),fstE_1 (show ¬(sMul ((tSweep a).1) (tAt c 21)).2=0 from hz)])),(show ¬fstE [(tSweep a).2,(sMul ((tSweep a).1) (tAt c 21)).2,(sAdd (r) ((sMul ((tSweep a).1) (tAt c 21)).1)).2]=0 from (by rw [fstE_0 (show (tSweep a).2=0 from h.q5_1 hd.1),fstE_1 (show ¬(sMul ((tSweep a).1) (tAt c 21)).2=0 from hz)];exact hz)),h.mu.step hb⟩
    ·intro L s w2 h hk hd hn K hK
     have s6:s 6=_:=hk 6
     have s73:=h.e7 hd.1
     have kb:=h.kt_rest hn
     go_simp
     refine (tm_grow (b+1+1+1+1) _ [r] (0) (by simp) ((sMul ((tSweep a).1) (tAt c 21)).1) _ kb).mono ?_
     rintro e w3 ⟨⟨hz,⟨v,rfl⟩,hkr⟩ | ⟨hz,rfl⟩,hb⟩
     ·exact .inl ⟨_,rfl,hK {h with mu:=mS h.mu hb (List.Mem.head _),z8:=fun _=>hz,kt_rest:=nF,kr_rest:=fun _=>hkr}⟩
     ·exact .inr ⟨_,rfl,congrArg brk (show (sAdd (r) ((sMul ((tSweep a).1) (tAt c 21)).1)).2=fstE [(tSweep a).2,(sMul ((tSweep a).1) (tAt c 21)).2,(sAdd (r) ((sMul ((tSweep a).1) (tAt c 21)).1)).2] from (by rw [fstE_0 (show (tSweep a).2=0 from h.q7_1 hd.1),fstE_0 (show (sMul ((tSweep a).1) (tAt c 21)).2=0 from h.z7 hd.1),fstE_1 (show ¬(sAdd (r) ((sMul ((tSweep a).1) (tAt c 21)).1)).2=0 from hz)])),(show ¬fstE [(tSweep a).2,(sMul ((tSweep a).1) (tAt c 21)).2,(sAdd (r) ((sMul ((tSweep a).1) (tAt c 21)).1)).2]=0 from (by rw [fstE_0 (show (tSweep a).2=0 from h.q7_1 hd.1),fstE_0 (show (sMul ((tSweep a).1) (tAt c 21)).2=0 from h.z7 hd.1),fstE_1 (show ¬(sAdd (r) ((sMul ((tSweep a).1) (tAt c 21)).1)).2=0 from hz)];exact hz)),mS h.mu hb (List.Mem.head _)⟩
   ·intro L s w2 h hk hl
    refine cA ?_ (hQ2 s w2 (⟨h.mu,h.kr_rest (hl 8 (by decide)),h.z1 (hl 1 (by decide)),h.z7 (hl 7 (by decide)),h.z8 (hl 8 (by decide))⟩))
    exact fq hk
   ·intro c s w2 hc
    exact hP2 _ _ _ hc
  rotate_left
  ·rintro e l'' w' ⟨rfl,hz,h2⟩
   have hor:=HS4.out
   refine PAN.out _ _ _ (by rw [HP0.out];exact (thenE_fstC hz fun _ h=>thenE_fstC h fun _ h=>thenE_fst1 h).symm) hz (HMV.out.stepM h2 (by intro x hx;simp at hx ⊢;omega)) ((h2.same _ (lt_of_block HD.out) (notin1 (by omega))).trans HD.out)
  rintro s15 V ⟨h1,h2,z1,z2,z3⟩
  simp only [mergeL]
  obtain ⟨r1,hr1⟩:∃x,(sAdd r (sMul (tSweep a).1 (tAt c 21)).1).1=x:=⟨_,rfl⟩
  rw [hr1] at h2
  have HP1:=lh (show tProduct a c=_ from by rw [HP0.out,thenE_ok z1,thenE_ok z2,thenE_ok z3,hr1])
  have hor:=HS4.out
  replace HMV:=lh (HMV.out.stepM h1 (by intro x hx;simp at hx ⊢;omega))
  replace HA:=j1 h1 HA (by omega)
  replace HC:=j1 h1 HC (by omega)
  replace HO:=j1 h1 HO (by omega)
  replace HS:=j1 h1 HS (by omega)
  replace HD:=j1 h1 HD (by omega)
  replace HR:=lh h2
  clear h1 h2 hr1 hor z1 z2 z3
  show wpF _ _ _ _ _ _ _
  refine wpF_seq (wpF_of (n:=5) ?_)
  refine wpIn_cut_mergeP [none,none,none,none,none,none,none,none,none,none,none,none,none,none,none,none,none,none,none,none,none,none,none,none,none,none,none,none,none,none,none,none,none,none,none,none,none,none,none,none,none,none,none,none,none,none,none,none,none,none,none,none,none,none,none,none,none,none,none,none,none,none,none,none,none,none,none,none,none,none,none,none,none,none,none,some 75,some 76,some 77,some 78,some 79,some 80,some 81,some 82,some 83,none,none,none,none,none,none,none,none,none,none,none,none,none,none,none,none,none,none,none,none,none,none,none,none] (fun _ w'=>Mut [b+1+1+1+1] V w'/\w'.heap[b+1+1+1+1]?=some (cobj 90 ([(sAdd r1 (sMul (tAt a 21) (tSweep c).1).1).1]))/\(tSweep c).2=0/\(sMul (tAt a 21) ((tSweep c).1)).2=0/\(sAdd (r1) ((sMul (tAt a 21) ((tSweep c).1)).1)).2=0) (fun ch w'=>ch=brk (fstE [(tSweep c).2,(sMul (tAt a 21) ((tSweep c).1)).2,(sAdd (r1) ((sMul (tAt a 21) ((tSweep c).1)).1)).2])/\¬fstE [(tSweep c).2,(sMul (tAt a 21) ((tSweep c).1)).2,(sAdd (r1) ((sMul (tAt a 21) ((tSweep c).1)).1)).2]=0/\Mut [b+1+1+1+1] V w') ?_ ?_ ?_
  ·intro Q2 hQ2 hP2
   refine wp_region_G (b:=true) (Pn:=(fun ch w'=>ch=brk (fstE [(tSweep c).2,(sMul (tAt a 21) ((tSweep c).1)).2,(sAdd (r1) ((sMul (tAt a 21) ((tSweep c).1)).1)).2])/\¬fstE [(tSweep c).2,(sMul (tAt a 21) ((tSweep c).1)).2,(sAdd (r1) ((sMul (tAt a 21) ((tSweep c).1)).1)).2]=0/\Mut [b+1+1+1+1] V w')) (Pg16 V b a c r1) (by kernel_rfl) (by kernel_rfl) ?_ ?_ ?_ ?_
   ·exact ⟨Mut.start _ true _,fun _=>HR.out,nB,nB,nB,nB,nB,nB,nB,nB,nB,nB,nB,nB,nB,nB,nB⟩
   ·refine aC ?_ (aC ?_ (aC ?_ (aC ?_ (aC ?_ (aC ?_ (aC ?_ (aC ?_ (aC ?_ aN))))))))
    ·intro L s w2 h hk hd hn K hK
     exact rs_field rfl (hk 2) (fl_model1 _ _) (hK {h with e0:=rF})
    ·intro L s w2 h hk hd hn K hK
     have kb:=kY h.mu HA (by omega)
     exact rs_load rfl (h.e0 hd.1) (sp_load (p:=21) kb (by have:=HL.out;omega)) (hK {h with e1:=rF})
    ·intro L s w2 h hk hd hn K hK
     have kb:=kY h.mu HC (by omega)
     exact rs_load rfl (hk 3) (md_load kb HLC.out) (hK {h with e2:=rF})
    ·intro L s w2 h hk hd hn K hK
     have s77:=h.e2 hd.1
     go_simp
     refine (tay_sweep c HLC.out _).mono ?_
     rintro e w3 ⟨⟨hz,rfl⟩ | ⟨hz,rfl⟩,hb⟩
     ·exact .inl ⟨_,rfl,hK {h with mu:=h.mu.step hb,kt_rest:=fun a=>bk hb (h.kt_rest a),kr_rest:=fun a=>bk hb (h.kr_rest a),e3:=rF,z3:=fun _=>hz}⟩
     ·exact .inr ⟨_,rfl,congrArg brk (show (tSweep c).2=fstE [(tSweep c).2,(sMul (tAt a 21) ((tSweep c).1)).2,(sAdd (r1) ((sMul (tAt a 21) ((tSweep c).1)).1)).2] from (by rw [fstE_1 (show ¬(tSweep c).2=0 from hz)])),(show ¬fstE [(tSweep c).2,(sMul (tAt a 21) ((tSweep c).1)).2,(sAdd (r1) ((sMul (tAt a 21) ((tSweep c).1)).1)).2]=0 from (by rw [fstE_1 (show ¬(tSweep c).2=0 from hz)];exact hz)),h.mu.step hb⟩
    ·intro L s w2 h hk hd hn K hK
     have s76:=h.e1 hd.1
     have s78:=h.e3 hd.2.1
     go_simp
     refine (tm_mul (tAt a 21) ((tSweep c).1) _).mono ?_
     rintro e w3 ⟨rfl,hb⟩
     exact .inl ⟨_,rfl,hK {h with mu:=h.mu.step hb,kt_rest:=fun a=>bk hb (h.kt_rest a),kr_rest:=fun a=>bk hb (h.kr_rest a),e4:=rF,q4_3:=fun _=>h.z3 hd.2.1}⟩
    ·intro L s w2 h hk hd hn K hK
     exact rs_extract rfl (h.e4 hd.1) rfl (hK {h with e5:=rF,q5_3:=fun _=>h.q4_3 hd.1})
    ·intro L s w2 h hk hd hn K hK
     exact rs_extract rfl (h.e4 hd.1) rfl (hK {h with e6:=rF})
    ·intro L s w2 h hk hd hn K hK
     have s80:=h.e5 hd.1
     have s81:=h.e6 hd.2.1
     go_simp
     refine (tm_must ((sMul (tAt a 21) ((tSweep c).1)).1) ((sMul (tAt a 21) ((tSweep c).1)).2) _).mono ?_
     rintro e w3 ⟨⟨hz,rfl⟩ | ⟨hz,rfl⟩,hb⟩
     ·exact .inl ⟨_,rfl,hK {h with mu:=h.mu.step hb,kt_rest:=fun a=>bk hb (h.kt_rest a),kr_rest:=fun a=>bk hb (h.kr_rest a),e7:=rF,z7:=fun _=>hz,q7_3:=fun _=>h.q5_3 hd.1}⟩
     ·exact .inr ⟨_,rfl,congrArg brk (show (sMul (tAt a 21) ((tSweep c).1)).2=fstE [(tSweep c).2,(sMul (tAt a 21) ((tSweep c).1)).2,(sAdd (r1) ((sMul (tAt a 21) ((tSweep c).1)).1)).2] from (by rw [fstE_0 (show (tSweep c).2=0 from h.q5_3 hd.1),fstE_1 (show ¬(sMul (tAt a 21) ((tSweep c).1)).2=0 from hz)])),(show ¬fstE [(tSweep c).2,(sMul (tAt a 21) ((tSweep c).1)).2,(sAdd (r1) ((sMul (tAt a 21) ((tSweep c).1)).1)).2]=0 from (by rw [fstE_0 (show (tSweep c).2=0 from h.q5_3 hd.1),fstE_1 (show ¬(sMul (tAt a 21) ((tSweep c).1)).2=0 from hz)];exact hz)),h.mu.step hb⟩
    ·intro L s w2 h hk hd hn K hK
     have s6:s 6=_:=hk 6
     have s82:=h.e7 hd.1
     have kb:=h.kt_rest hn
     go_simp
     refine (tm_grow (b+1+1+1+1) _ [r1] (0) (by simp) ((sMul (tAt a 21) ((tSweep c).1)).1) _ kb).mono ?_
     rintro e w3 ⟨⟨hz,⟨v,rfl⟩,hkr⟩ | ⟨hz,rfl⟩,hb⟩
     ·exact .inl ⟨_,rfl,hK {h with mu:=mS h.mu hb (List.Mem.head _),z8:=fun _=>hz,kt_rest:=nF,kr_rest:=fun _=>hkr}⟩
     ·exact .inr ⟨_,rfl,congrArg brk (show (sAdd (r1) ((sMul (tAt a 21) ((tSweep c).1)).1)).2=fstE [(tSweep c).2,(sMul (tAt a 21) ((tSweep c).1)).2,(sAdd (r1) ((sMul (tAt a 21) ((tSweep c).1)).1)).2] from (by rw [fstE_0 (show (tSweep c).2=0 from h.q7_3 hd.1),fstE_0 (show (sMul (tAt a 21) ((tSweep c).1)).2=0 from h.z7 hd.1),fstE_1 (show ¬(sAdd (r1) ((sMul (tAt a 21) ((tSweep c).1)).1)).2=0 from hz)])),(show ¬fstE [(tSweep c).2,(sMul (tAt a 21) ((tSweep c).1)).2,(sAdd (r1) ((sMul (tAt a 21) ((tSweep c).1)).1)).2]=0 from (by rw [fstE_0 (show (tSweep c).2=0 from h.q7_3 hd.1),fstE_0 (show (sMul (tAt a 21) ((tSweep c).1)).2=0 from h.z7 hd.1),fstE_1 (show ¬(sAdd (r1) ((sMul (tAt a 21) ((tSweep c).1)).1)).2=0 from hz)];exact hz)),mS h.mu hb (List.Mem.head _)⟩
   ·intro L s w2 h hk hl
    refine cA ?_ (hQ2 s w2 (⟨h.mu,h.kr_rest (hl 8 (by decide)),h.z3 (hl 3 (by decide)),h.z7 (hl 7 (by decide)),h.z8 (hl 8 (by decide))⟩))
    exact fq hk
   ·intro c s w2 hc
    exact hP2 _ _ _ hc
  rotate_left
  ·rintro e l'' w' ⟨rfl,hz,h2⟩
   have hor:=HS4.out
   refine PAN.out _ _ _ (by rw [HP1.out];exact (thenE_fstC hz fun _ h=>thenE_fstC h fun _ h=>thenE_fst1 h).symm) hz (HMV.out.stepM h2 (by intro x hx;simp at hx ⊢;omega)) ((h2.same _ (lt_of_block HD.out) (notin1 (by omega))).trans HD.out)
  rintro s16 V ⟨h1,h2,z1,z2,z3⟩
  simp only [mergeL]
  obtain ⟨r2,hr1⟩:∃x,(sAdd r1 (sMul (tAt a 21) (tSweep c).1).1).1=x:=⟨_,rfl⟩
  rw [hr1] at h2
  have HP2:=lh (show tProduct a c=_ from by rw [HP1.out,thenE_ok z1,thenE_ok z2,thenE_ok z3,hr1])
  have hor:=HS4.out
  replace HMV:=lh (HMV.out.stepM h1 (by intro x hx;simp at hx ⊢;omega))
  replace HA:=j1 h1 HA (by omega)
  replace HC:=j1 h1 HC (by omega)
  replace HO:=j1 h1 HO (by omega)
  replace HS:=j1 h1 HS (by omega)
  replace HD:=j1 h1 HD (by omega)
  replace HR:=lh h2
  clear h1 h2 hr1 hor z1 z2 z3
  show wpF _ _ _ _ _ _ _
  refine wpF_seq (wpF_of (n:=5) ?_)
  refine wpIn_cut_mergeP [none,none,none,none,none,none,none,none,none,none,none,none,none,none,none,none,none,none,none,none,none,none,none,none,none,none,none,none,none,none,none,none,none,none,none,none,none,none,none,none,none,none,none,none,none,none,none,none,none,none,none,none,none,none,none,none,none,none,none,none,none,none,none,none,none,none,none,none,none,none,none,none,none,none,none,none,none,none,none,none,none,none,none,none,some 84,some 85,some 86,some 87,some 88,some 89,some 90,some 91,some 92,none,none,none,none,none,none,none,none,none,none,none,none,none,none,none] (fun _ w'=>Mut [b+1+1+1+1] V w'/\w'.heap[b+1+1+1+1]?=some (cobj 90 ([(sAdd r2 (sMul (tAt a 21) (tAt c 21)).1).1]))/\(sMul (tAt a 21) (tAt c 21)).2=0/\(sAdd (r2) ((sMul (tAt a 21) (tAt c 21)).1)).2=0) (fun ch w'=>ch=brk (fstE [(sMul (tAt a 21) (tAt c 21)).2,(sAdd (r2) ((sMul (tAt a 21) (tAt c 21)).1)).2])/\¬fstE [(sMul (tAt a 21) (tAt c 21)).2,(sAdd (r2) ((sMul (tAt a 21) (tAt c 21)).1)).2]=0/\Mut [b+1+1+1+1] V w') ?_ ?_ ?_
  ·intro Q2 hQ2 hP2
   refine wp_region_G (b:=false) (Pn:=(fun ch w'=>ch=brk (fstE [(sMul (tAt a 21) (tAt c 21)).2,(sAdd (r2) ((sMul (tAt a 21) (tAt c 21)).1)).2])/\¬fstE [(sMul (tAt a 21) (tAt c 21)).2,(sAdd (r2) ((sMul (tAt a 21) (tAt c 21)).1)).2]=0/\Mut [b+1+1+1+1] V w')) (Pg17 V b a c r2) (by kernel_rfl) (by kernel_rfl) ?_ ?_ ?_ ?_
   ·exact ⟨Mut.start _ false _,fun _=>HR.out,nB,nB,nB,nB,nB,nB,nB,nB,nB,nB,nB⟩
   ·refine aC ?_ (aC ?_ (aC ?_ (aC ?_ (aC ?_ (aC ?_ (aC ?_ (aC ?_ (aC ?_ aN))))))))
    ·intro L s w2 h hk hd hn K hK
     exact rs_field rfl (hk 2) (fl_model1 _ _) (hK {h with e0:=rF})
    ·intro L s w2 h hk hd hn K hK
     have kb:=kY h.mu HA (by omega)
     exact rs_load rfl (h.e0 hd.1) (sp_load (p:=21) kb (by have:=HL.out;omega)) (hK {h with e1:=rF})
    ·intro L s w2 h hk hd hn K hK
     exact rs_field rfl (hk 3) (fl_model1 _ _) (hK {h with e2:=rF})
    ·intro L s w2 h hk hd hn K hK
     have kb:=kY h.mu HC (by omega)
     exact rs_load rfl (h.e2 hd.1) (sp_load (p:=21) kb (by have:=HLC.out;omega)) (hK {h with e3:=rF})
    ·intro L s w2 h hk hd hn K hK
     have s85:=h.e1 hd.1
     have s87:=h.e3 hd.2.1
     go_simp
     refine (tm_mul (tAt a 21) (tAt c 21) _).mono ?_
     rintro e w3 ⟨rfl,hb⟩
     exact .inl ⟨_,rfl,hK {h with mu:=h.mu.step hb,kt_rest:=fun a=>bk hb (h.kt_rest a),kr_rest:=fun a=>bk hb (h.kr_rest a),e4:=rF}⟩
    ·intro L s w2 h hk hd hn K hK
     exact rs_extract rfl (h.e4 hd.1) rfl (hK {h with e5:=rF})
    ·intro L s w2 h hk hd hn K hK
     exact rs_extract rfl (h.e4 hd.1) rfl (hK {h with e6:=rF})
    ·intro L s w2 h hk hd hn K hK
     have s89:=h.e5 hd.1
     have s90:=h.e6 hd.2.1
     go_simp
     refine (tm_must ((sMul (tAt a 21) (tAt c 21)).1) ((sMul (tAt a 21) (tAt c 21)).2) _).mono ?_
     rintro e w3 ⟨⟨hz,rfl⟩ | ⟨hz,rfl⟩,hb⟩
     ·exact .inl ⟨_,rfl,hK {h with mu:=h.mu.step hb,kt_rest:=fun a=>bk hb (h.kt_rest a),kr_rest:=fun a=>bk hb (h.kr_rest a),e7:=rF,z7:=fun _=>hz}⟩
     ·exact .inr ⟨_,rfl,congrArg brk (show (sMul (tAt a 21) (tAt c 21)).2=fstE [(sMul (tAt a 21) (tAt c 21)).2,(sAdd (r2) ((sMul (tAt a 21) (tAt c 21)).1)).2] from (by rw [fstE_1 (show ¬(sMul (tAt a 21) (tAt c 21)).2=0 from hz)])),(show ¬fstE [(sMul (tAt a 21) (tAt c 21)).2,(sAdd (r2) ((sMul (tAt a 21) (tAt c 21)).1)).2]=0 from (by rw [fstE_1 (show ¬(sMul (tAt a 21) (tAt c 21)).2=0 from hz)];exact hz)),h.mu.step hb⟩
    ·intro L s w2 h hk hd hn K hK
     have s6:s 6=_:=hk 6
     have s91:=h.e7 hd.1
     have kb:=h.kt_rest hn
     go_simp
     refine (tm_grow (b+1+1+1+1) _ [r2] (0) (by simp) ((sMul (tAt a 21) (tAt c 21)).1) _ kb).mono ?_
     rintro e w3 ⟨⟨hz,⟨v,rfl⟩,hkr⟩ | ⟨hz,rfl⟩,hb⟩
     ·exact .inl ⟨_,rfl,hK {h with mu:=mS h.mu hb (List.Mem.head _),z8:=fun _=>hz,kt_rest:=nF,kr_rest:=fun _=>hkr}⟩
     ·exact .inr ⟨_,rfl,congrArg brk (show (sAdd (r2) ((sMul (tAt a 21) (tAt c 21)).1)).2=fstE [(sMul (tAt a 21) (tAt c 21)).2,(sAdd (r2) ((sMul (tAt a 21) (tAt c 21)).1)).2] from (by rw [fstE_0 (show (sMul (tAt a 21) (tAt c 21)).2=0 from h.z7 hd.1),fstE_1 (show ¬(sAdd (r2) ((sMul (tAt a 21) (tAt c 21)).1)).2=0 from hz)])),(show ¬fstE [(sMul (tAt a 21) (tAt c 21)).2,(sAdd (r2) ((sMul (tAt a 21) (tAt c 21)).1)).2]=0 from (by rw [fstE_0 (show (sMul (tAt a 21) (tAt c 21)).2=0 from h.z7 hd.1),fstE_1 (show ¬(sAdd (r2) ((sMul (tAt a 21) (tAt c 21)).1)).2=0 from hz)];exact hz)),mS h.mu hb (List.Mem.head _)⟩
   ·intro L s w2 h hk hl
    refine cA ?_ (hQ2 s w2 (⟨h.mu,h.kr_rest (hl 8 (by decide)),h.z7 (hl 7 (by decide)),h.z8 (hl 8 (by decide))⟩))
    exact fq hk
   ·intro c s w2 hc
    exact hP2 _ _ _ hc
  rotate_left
  ·rintro e l'' w' ⟨rfl,hz,h2⟩
   have hor:=HS4.out
   refine PAN.out _ _ _ (by rw [HP2.out];exact (thenE_fstC hz fun _ h=>thenE_fst1 h).symm) hz (HMV.out.stepM h2 (by intro x hx;simp at hx ⊢;omega)) ((h2.same _ (lt_of_block HD.out) (notin1 (by omega))).trans HD.out)
  rintro s17 V ⟨h1,h2,z1,z2⟩
  simp only [mergeL]
  obtain ⟨r3,hr1⟩:∃x,(sAdd r2 (sMul (tAt a 21) (tAt c 21)).1).1=x:=⟨_,rfl⟩
  rw [hr1] at h2
  have HP3:=lh (show tProduct a c=_ from by rw [HP2.out,thenE_ok z1,thenE_ok z2,hr1])
  have hor:=HS4.out
  replace HMV:=lh (HMV.out.stepM h1 (by intro x hx;simp at hx ⊢;omega))
  replace HA:=j1 h1 HA (by omega)
  replace HC:=j1 h1 HC (by omega)
  replace HO:=j1 h1 HO (by omega)
  replace HS:=j1 h1 HS (by omega)
  replace HD:=j1 h1 HD (by omega)
  replace HR:=lh h2
  clear h1 h2 hr1 hor z1 z2
  show wpF _ _ _ _ _ _ _
  refine wpF_of (n:=5) ?_
  gi_wp2_with fail
  gi_loopw [93] (fun x wr=>∃n:Nat,n<=21/\x=.int .i64 n/\Hid (Mut [b+1+1] V wr/\wr.heap[b+1+1]?=some (cobj 34 (T.take n++List.replicate (22-n) (0,0))))) (fun x _=>21-(intOf x).toNat)
  case atStart=>exact ⟨0,by omega,rfl,lh ⟨Mut.refl _ _,HO.out⟩⟩
  case round =>
   obtain ⟨n,hn,rfl,HG⟩:=hrel
   rename_i Q' K hK
   have HK:=lh hK
   clear hK
   have hor:=HS4.out
   rcases Nat.lt_or_ge n 21 with hn' | hn'
   ·have HSr:=lh ((HG.out.1.same _ (lt_of_block HS.out) (notin1 (by omega))).trans HS.out)
    have HTN:=lh (take_step HTL.out hn')
    have HG1:=lh HG.out.1
    have hg2:=HG.out.2
    have HOL:=lh (show (T.take n++List.replicate (22-n) (0,0)).length=22 by rw [List.length_append,List.length_take,List.length_replicate,HTL.out];omega)
    generalize T.take n++List.replicate (22-n) (0,0)=O at hg2 HOL HTN
    have HOr:=lh hg2
    have HN:=lh hn'
    have hd:decide ((n:Int)<21)=true:=by simp;omega
    have hlt:(n:Int)<21:=by omega
    have hn0:(0:Int)<=n:=by omega
    clear hg2 HG hn hn' hor
    refine wpIn_seq_k fun K1 hK1=>?_
    have HK1:=lh hK1
    clear hK1
    gi_wp2_with fail
    refine HK1.out _ _ ?_
    refine wpIn_seq_k fun K2 hK2=>?_
    have HK2:=lh hK2
    clear hK2
    gi_wp2_with fail
    refine HK2.out _ _ ?_
    refine wpIn_seq_k fun K3 hK3=>?_
    have HK3:=lh hK3
    clear hK3
    refine wpIn_block ?_
    refine wpIn_seq_k fun K4 hK4=>?_
    have HK4:=lh hK4
    clear hK4
    gi_wp2_with fail
    refine HK4.out _ _ ?_
    refine wpIn_cut_mergeP [none,none,none,none,none,none,none,none,none,none,none,none,none,none,none,none,none,none,none,none,none,none,none,none,none,none,none,none,none,none,none,none,none,none,none,none,none,none,none,none,none,none,none,none,none,none,none,none,none,none,none,none,none,none,none,none,none,none,none,none,none,none,none,none,none,none,none,none,none,none,none,none,none,none,none,none,none,none,none,none,none,none,none,none,none,none,none,none,none,none,none,none,none,none,none,none,some 96,some 97,some 98,some 99,some 100,some 101,some 102,none,none,none,none,none] (fun _ w'=>Mut [b+1+1] wr w'/\w'.heap[b+1+1]?=some (cobj 34 (O.set n (tAt T n)))) (fun _ _=>False) ?_ ?_ ?_
    ·intro Q2 hQ2 hP2
     refine wI (Pg21 wr b T O n) ?_ ?_ ?_
     ·exact ⟨Mut.start _ false _,fun _=>HOr.out,nB,nB,nB,nB,nB,nB,nB,nB⟩
     ·refine aC ?_ (aC ?_ (aC ?_ (aC ?_ (aC ?_ (aC ?_ (aC ?_ (aC ?_ aN)))))))
      ·intro L s w2 h hk hd hn K hK
       exact rs_move rfl (hk 14) (hK {h with e0:=rF})
      ·intro L s w2 h hk hd hn K hK
       exact rs_move rfl (hk 14) (hK {h with e1:=rF})
      ·intro L s w2 h hk hd hn K hK
       exact rs_index rfl (hk 5) (h.e1 hd.1) (ix_total _ n HN.out) (hK {h with e2:=rF})
      ·intro L s w2 h hk hd hn K hK
       exact rs_field rfl (h.e2 hd.1) (fl_total _ n _) (hK {h with e3:=rF})
      ·intro L s w2 h hk hd hn K hK
       have kb:=kY h.mu HSr (by omega)
       exact rs_load rfl (h.e3 hd.1) (sp_load (p:=n) kb (by have:=HTL.out;have:=HN.out;omega)) (hK {h with e4:=rF})
      ·intro L s w2 h hk hd hn K hK
       exact rs_field rfl (hk 4) (fl_model0 _ _) (hK {h with e5:=rF})
      ·intro L s w2 h hk hd hn K hK
       exact rs_index rfl (h.e5 hd.1) (h.e0 hd.2.1) (ix_model _ n HN.out) (hK {h with e6:=rF})
      ·intro L s w2 h hk hd hn K hK
       have kb:=h.kt_out hn
       exact rs_store rfl (h.e6 hd.1) (h.e4 hd.2.1) (sp_store (p:=n) kb (by have:=HOL.out;have:=HN.out;omega) _) (hK {h with mu:=h.mu.put (List.Mem.head _) _,kt_out:=nF,kr_out:=fun _=>pH kb})
     ·intro L s w2 h hk hl
      refine cA ?_ (hQ2 s w2 (⟨h.mu,h.kr_out (hl 7)⟩))
      exact fq hk
    ·rintro s21 V3 ⟨h1,h2⟩
     simp only [mergeL]
     have HF:=lh (show Mut [b+1+1] V V3/\V3.heap[b+1+1]?=some (cobj 34 (T.take (n+1)++List.replicate (22-(n+1)) (0,0))) from ⟨HG1.out.trans h1,by rw [←HTN.out];exact h2⟩)
     clear h1 h2
     refine HK3.out _ _ ?_
     gi_wp2_with fail
     go_roundw
     case rel=>first | exact ⟨n+1,by have:=HN.out;omega,by go_num,HF⟩ | ((repeat apply Exists.intro);exact ⟨⟨n+1,by have:=HN.out;omega,by go_num,HF⟩,rfl⟩)
     case measure=>simp [intOf];omega
    ·rintro _ _ _ h
     exact h.elim
   ·obtain rfl:n=21:=by omega
    have h2:=HG.out.2
    have HOL0:=lh (show (T.take 21++List.replicate (22-21) (0,0)).length=22 by simp [HTL.out])
    have HR2:wr.heap[b+1+1+1+1]?=some (.cells #[.int .i64 r3.1,.int .i64 r3.2] 90 (0,0)):=(HG.out.1.same _ (lt_of_block HR.out) (notin1 (by omega))).trans HR.out
    have v0:=cell_two0 HR2
    have v1:=cell_two1 HR2
    have c42:=(cobj_cell h2 (21*2)).trans (mc_get _ 21 (by rw [HOL0.out];decide)).1
    have c43:=(cobj_cell h2 (21*2+1)).trans (mc_get _ 21 (by rw [HOL0.out];decide)).2
    have f42:wr.frozen? ⟨b+1+1,42,none⟩=false:=by simp [World.frozen?,h2,cobj]
    have f43:wr.frozen? ⟨b+1+1,43,none⟩=false:=by simp [World.frozen?,h2,cobj]
    rw [show 21*2=42 from rfl] at c42
    rw [show 21*2+1=43 from rfl] at c43
    have HO2:=lh h2
    have HM2:=lh HG.out.1
    have HSET:=lh (show (T.take 21++List.replicate (22-21) (0,0)).set 21 r3=T++[r3] by rw [List.take_of_length_le (by rw [HTL.out];decide)];exact set_app21 HTL.out)
    clear h2 HR2 hn hn' hor HG
    gi_wp2_with fail
    refine HK.out _ _ ?_
    refine wpIn_seq_k fun K5 hK5=>?_
    have HK5:=lh hK5
    clear hK5
    gi_wp2_with fail
    refine HK5.out _ _ ?_
    rw [show (wr.setCell ⟨b+1+1,42,none⟩ (.int .i64 r3.1)).setCell ⟨b+1+1,43,none⟩ (.int .i64 r3.2)=wr.putObj (b+1+1) (cobj 34 ((T.take 21++List.replicate (22-21) (0,0)).set 21 r3)) from sp_put (p:=21) HO2.out (by rw [HOL0.out];decide) r3,HSET.out]
    have hor:=HS4.out
    have hm3:Mut [b+1+1] V (wr.putObj (b+1+1) (cobj 34 (T++[r3]))):=HM2.out.put (by simp) _
    have ho3:(wr.putObj (b+1+1) (cobj 34 (T++[r3]))).heap[b+1+1]?=some (cobj 34 (T++[r3])):=World.putObj_heap_same (lt_of_block HO2.out)
    have HOL:=lh (show (T++[r3]).length=22 by simp [HTL.out])
    generalize wr.putObj (b+1+1) (cobj 34 (T++[r3]))=V3 at hm3 ho3 ⊢
    generalize T++[r3]=O at *
    have HO3:=lh ho3
    have HM3:=lh hm3
    clear hm3 ho3 hor c42 c43 v0 v1 f42 f43
    refine wpIn_seq_k fun K6 hK6=>?_
    have HK6:=lh hK6
    clear hK6
    refine wpIn_cut_mergeP [none,none,none,none,none,none,none,none,none,none,none,none,none,none,none,none,none,none,none,none,none,none,none,none,none,none,none,none,none,none,none,none,none,none,none,none,none,none,none,none,none,none,none,none,none,none,none,none,none,none,none,none,none,none,none,none,none,none,none,none,none,none,none,none,none,none,none,none,none,none,none,none,none,none,none,none,none,none,none,none,none,none,none,none,none,none,none,none,none,none,none,none,none,none,none,none,none,none,none,none,none,none,none,none,none,none,none,some 107] (fun _ w'=>Mut [b+1+1] V3 w'/\w'.heap[b+1+1]?=some (cobj 34 O)) (fun _ _=>False) ?_ ?_ ?_
    ·intro Q2 hQ2 hP2
     refine wI (Pg24 V3 b O) ?_ ?_ ?_
     ·exact ⟨Mut.start _ false _,fun _=>HO3.out,nB,nB,nB⟩
     ·refine aC ?_ (aC ?_ aN)
      ·intro L s w2 h hk hd hn K hK
       have kb:=(h.kt_out (bF h.b1_0 hn))
       exact rs_load rfl (hk 4) (md_load kb HOL.out) (hK {h with e0:=rF,b1_0:=rF})
      ·intro L s w2 h hk hd hn K hK
       have kb:=h.kt_out hn
       exact rs_store rfl (hk 4) (h.e0 hd.1) (md_store kb HOL.out _ HOL.out) (hK {h with mu:=h.mu.put (List.Mem.head _) _,kt_out:=nF,kr_out:=fun _=>pH kb,b1_0:=fun _=>hd.1})
     ·intro L s w2 h hk hl
      refine cA ?_ (hQ2 s w2 (⟨h.mu,h.kr_out (hl 1)⟩))
      exact fq hk
    ·rintro s24 V4 ⟨h1,h2⟩
     simp only [mergeL]
     have hor:=HS4.out
     refine HK6.out _ _ ?_
     refine wpIn_ret ?_
     have hm4:=HM3.out.trans h1
     have hd4:=(hm4.same _ (lt_of_block HD.out) (notin1 (by omega))).trans HD.out
     refine ⟨by simp,.inl ⟨_,_,rfl,run_takeDeferred hd4,?_⟩⟩
     have hq:(V4.putObj W1.heap.size (.deferred none)).heap[b+1+1]?=some (cobj 34 O):=(World.putObj_heap_other (by omega)).trans h2
     have hl:=md_loadVar hq HOL.out
     have hM5:=HMV.out.stepM hm4 (by intro x hx;simp at hx ⊢;omega)
     refine ⟨mval O,?_,.inl ⟨by rw [HP3.out],by rw [HP3.out]⟩,HB1.out.trans (put_bel (hM5.below (by omega) (by intro x hx;simp at hx;omega)) (by omega))⟩
     exact res_model Tryz.results28 rfl hl
    ·rintro _ _ _ h
     exact h.elim
 ·rintro e W ⟨rfl,hz,hM⟩ hD
  refine ⟨by simp,.inl ⟨_,_,rfl,run_takeDeferred hD,?_⟩⟩
  have he:=tProduct_bad hz
  rw [←he] at hz ⊢
  exact ⟨.inr ⟨hz,rfl⟩,HB1.out.trans (put_bel (hM.below (by have:=HS4.out;omega) (by intro x hx;simp at hx;omega)) (by have:=HS4.out;omega))⟩
end Go.Proofs.YthhkcfpljgdnhaaGreat
