/- Package taylor: contracts in the words of the printed walks; a total that lies in an array grows. Printed by wip/genTE.py. -/
import Derived.Test.YthhkcfpljgdnhaaGreatTayS
import Derived.Test.YthhkcfpljgdnhaaGreatSpanY
import Derived.Test.YthhkcfpljgdnhaaGreatTayR
namespace Go.Proofs.YthhkcfpljgdnhaaGreat
open Go.RowKit Mnc
attribute [local go_sem] RunSP_value RunSP_skip RunSP_enter evS_tmp evS_const evS_global evS_func
theorem tm_add (x y:Int×Int) (w:World):Calls Tryz.prog 43 #[sval x,sval y] w fun e w'=>e=.returned (.tuple #[sval (sAdd x y).1,.int .i64 (sAdd x y).2])/\Below w.heap.size w w':=span_Add x y w
theorem tm_mul (x y:Int×Int) (w:World):Calls Tryz.prog 52 #[sval x,sval y] w fun e w'=>e=.returned (.tuple #[sval (sMul x y).1,.int .i64 (sMul x y).2])/\Below w.heap.size w w':=span_Mul x y w
theorem tm_div (x y:Int×Int) (w:World):Calls Tryz.prog 44 #[sval x,sval y] w fun e w'=>e=.returned (.tuple #[sval (sDiv x y).1,.int .i64 (sDiv x y).2])/\Below w.heap.size w w':=span_Div x y w
theorem tm_pow (x:Int×Int) (n:Int) (w:World):Calls Tryz.prog 42 #[sval x,.int .i64 n] w fun e w'=>e=.returned (.tuple #[sval (sPow x n).1,.int .i64 (sPow x n).2])/\Below w.heap.size w w':=span_Pow x n w
theorem tm_sqrt (x:Int×Int) (w:World):Calls Tryz.prog 53 #[sval x] w fun e w'=>e=.returned (.tuple #[sval (sSqrt x).1,.int .i64 (sSqrt x).2])/\Below w.heap.size w w':=span_Sqrt x w
theorem tm_point (n:Int) (w:World):Calls Tryz.prog 54 #[.int .i64 n] w fun e w'=>e=.returned (sval (n,n))/\Below w.heap.size w w':=tay_point n w
theorem tm_reach (i j:Nat) (hi:i<=10) (hj:j<=10) (w:World):Calls Tryz.prog 64 #[.int .i64 ((i:Nat):Int),.int .i64 ((j:Nat):Int)] w fun e w'=>e=.returned (sval (tReach i j))/\Below w.heap.size w w':=tay_reach i j hi hj w
theorem tm_must (x:Int×Int) (n:Int) (w:World):Calls Tryz.prog 41 #[sval x,.int .i64 n] w fun e w'=>((n=0/\e=.returned (sval x))∨(¬n=0/\e=.panicked (brk n)))/\Below w.heap.size w w':=tay_must x n w
structure Gw1 (W:World) (T K:Nat) (ty:TypeId) (S:List (Int×Int)) (k:Nat) (u:Int×Int) (L:Nat->Bool) (s:Nat->Value) (w:World):Prop where
 mu:Mut [T] W w
 kt_t:L 12=false->w.heap[T]?=some (cobj ty S)
 kr_t:L 12->w.heap[T]?=some (cobj ty (S.set k (sAdd (tAt S k) u).1))
 e0:L 0->s 4=.pointer (some ⟨T,k*2,none⟩)
 e1:L 1->s 5=.pointer (some ⟨T,k*2,none⟩)
 e2:L 2->s 6=.pointer (some ⟨T,k*2,none⟩)
 e3:L 3->s 7=.pointer (some ⟨T,k*2,none⟩)
 e4:L 4->s 8=sval (tAt S k)
 e5:L 5->s 9=sval u
 e6:L 6->s 10=.tuple #[sval (sAdd (tAt S k) (u)).1,.int .i64 (sAdd (tAt S k) (u)).2]
 e7:L 7->s 11=sval ((sAdd (tAt S k) (u)).1)
 e8:L 8->s 12=.int .i64 ((sAdd (tAt S k) (u)).2)
 z9:L 9->(sAdd (tAt S k) u).2=0
 e9:L 9->s 13=sval ((sAdd (tAt S k) (u)).1)
 e10:L 10->s 14=.pointer (some ⟨T,k*2,none⟩)
 e11:L 11->s 15=.pointer (some ⟨T,k*2,none⟩)
 b12_4:L 12->L 4
set_option maxRecDepth 100000 in
set_option maxHeartbeats 2000000 in
theorem tm_grow (T:Nat) (ty:TypeId) (S:List (Int×Int)) (k:Nat) (hk:k<S.length) (u:Int×Int) (w:World) (h:w.heap[T]?=some (cobj ty S)) :
  Calls Tryz.prog 63 #[.pointer (some ⟨T,k*2,none⟩),sval u] w fun e w'=>(((sAdd (tAt S k) u).2=0/\(∃v,e=.returned v)/\w'.heap[T]?=some (cobj ty (S.set k (sAdd (tAt S k) u).1)))∨(¬(sAdd (tAt S k) u).2=0/\e=.panicked (brk (sAdd (tAt S k) u).2)))/\Mut [T] w w':=by
 have HK:=lh hk
 have HT:=lh (show (w.alloc (cobj 31 [u])).heap[T]?=some (cobj ty S) from heap_up _ h)
 have HS:=lh (show (w.alloc (cobj 31 [u])).heap[w.heap.size]?=some (cobj 31 [u]) from heap_at _ rfl)
 have HKS:=lh (show w.heap.size<(w.alloc (cobj 31 [u])).heap.size by simp)
 have hlt:=lt_of_block h
 have HLT:=lh hlt
 have HM:=lh (show Mut [T] w (w.alloc (cobj 31 [u])) from (Mut.refl _ _).alloc _)
 clear hk h hlt
 unfold sval
 go_enter Tryz.func63,Tryz.ntmps63
 go_upto_region 1 with (fail)
 have hw1:w.alloc (cobj 31 [u])=w.alloc (.cells #[.int .i64 u.1,.int .i64 u.2] 31):=rfl
 rw [←hw1]
 clear hw1
 generalize w.alloc (cobj 31 [u])=W at *
 refine wp_cut_mergeP (nn::nn::nn::nn::some 4::some 5::some 6::some 7::some 8::some 9::some 10::some 11::some 12::some 13::some 14::some 15::[]) (fun _ w'=>Mut [T] W w'/\w'.heap[T]?=some (cobj ty (S.set k (sAdd (tAt S k) u).1))/\(sAdd (tAt S k) u).2=0) (fun ch w'=>ch=brk (fstE [(sAdd (tAt S k) u).2])/\¬fstE [(sAdd (tAt S k) u).2]=0/\Mut [T] W w') ?_ ?_ ?_
 ·intro Q2 hQ2 hP2
  refine wH (fun ch w'=>ch=brk (fstE [(sAdd (tAt S k) u).2])/\¬fstE [(sAdd (tAt S k) u).2]=0/\Mut [T] W w') (Gw1 W T w.heap.size ty S k u) ?_ ?_ ?_ ?_
  ·exact ⟨Mut.start _ true _,fun _=>HT.out,nB,nB,nB,nB,nB,nB,nB,nB,nB,nB,nB,nB,nB,nB,nB⟩
  ·refine aC ?_ (aC ?_ (aC ?_ (aC ?_ (aC ?_ (aC ?_ (aC ?_ (aC ?_ (aC ?_ (aC ?_ (aC ?_ (aC ?_ (aC ?_ aN))))))))))))
   ·intro L s w2 h hk hd hn K hK
    exact rs_move rfl (hk 0) (hK {h with e0:=rF})
   ·intro L s w2 h hk hd hn K hK
    exact rs_move rfl (hk 0) (hK {h with e1:=rF})
   ·intro L s w2 h hk hd hn K hK
    have s5:=h.e1 hd.1
    go_simp
    exact hK {h with e2:=rF}
   ·intro L s w2 h hk hd hn K hK
    exact rs_field rfl (h.e2 hd.1) (fl_total _ k _) (hK {h with e3:=rF})
   ·intro L s w2 h hk hd hn K hK
    have kb:=(h.kt_t (bF h.b12_4 hn))
    exact rs_load rfl (h.e3 hd.1) (sp_load (p:=k) kb HK.out) (hK {h with e4:=rF,b12_4:=rF})
   ·intro L s w2 h hk hd hn K hK
    have kb:=((h.mu.same _ (HKS.out) (notin1 (by have:=HLT.out;omega))).trans HS.out)
    exact rs_load rfl (hk 3) (sp_load (p:=0) kb (by simp)) (hK {h with e5:=rF})
   ·intro L s w2 h hk hd hn K hK
    have s8:=h.e4 hd.1
    have s9:=h.e5 hd.2.1
    go_simp
    refine (tm_add (tAt S k) (u) _).mono ?_
    rintro e w3 ⟨rfl,hb⟩
    exact .inl ⟨_,rfl,hK {h with mu:=h.mu.step hb,kt_t:=fun a=>bk hb (h.kt_t a),kr_t:=fun a=>bk hb (h.kr_t a),e6:=rF}⟩
   ·intro L s w2 h hk hd hn K hK
    exact rs_extract rfl (h.e6 hd.1) rfl (hK {h with e7:=rF})
   ·intro L s w2 h hk hd hn K hK
    exact rs_extract rfl (h.e6 hd.1) rfl (hK {h with e8:=rF})
   ·intro L s w2 h hk hd hn K hK
    have s11:=h.e7 hd.1
    have s12:=h.e8 hd.2.1
    go_simp
    refine (tm_must ((sAdd (tAt S k) (u)).1) ((sAdd (tAt S k) (u)).2) _).mono ?_
    rintro e w3 ⟨⟨hz,rfl⟩ | ⟨hz,rfl⟩,hb⟩
    ·exact .inl ⟨_,rfl,hK {h with mu:=h.mu.step hb,kt_t:=fun a=>bk hb (h.kt_t a),kr_t:=fun a=>bk hb (h.kr_t a),e9:=rF,z9:=fun _=>hz}⟩
    ·exact .inr ⟨_,rfl,congrArg brk (show (sAdd (tAt S k) u).2=fstE [(sAdd (tAt S k) u).2] from (by rw [fstE_1 (show ¬(sAdd (tAt S k) u).2=0 from hz)])),(show ¬fstE [(sAdd (tAt S k) u).2]=0 from (by rw [fstE_1 (show ¬(sAdd (tAt S k) u).2=0 from hz)];exact hz)),h.mu.step hb⟩
   ·intro L s w2 h hk hd hn K hK
    have s4:=h.e0 hd.1
    go_simp
    exact hK {h with e10:=rF}
   ·intro L s w2 h hk hd hn K hK
    exact rs_field rfl (h.e10 hd.1) (fl_total _ k _) (hK {h with e11:=rF})
   ·intro L s w2 h hk hd hn K hK
    have kb:=h.kt_t hn
    exact rs_store rfl (h.e11 hd.1) (h.e9 hd.2.1) (sp_store (p:=k) kb HK.out ((sAdd (tAt S k) (u)).1)) (hK {h with mu:=h.mu.put (List.Mem.head _) _,kt_t:=nF,kr_t:=fun _=>pH kb,b12_4:=fun _=>hd.2.2.2.2.2.2.2.1})
  ·intro L s w2 h hk hl
   refine cA ?_ (hQ2 s w2 (⟨h.mu,h.kr_t (hl 12),h.z9 (hl 9)⟩))
   exact fq hk
  ·intro c s w2 hc
   exact hP2 _ _ _ hc
 ·rintro s wc ⟨h1,h2,hz⟩
  have HE:=lh (And.intro hz (And.intro h2 (HM.out.trans h1)))
  simp only [mergeL]
  clear hz h1 h2
  go_wp2_with fail
  go_end0
  exact ⟨.inl ⟨HE.out.1,⟨_,rfl⟩,HE.out.2.1⟩,HE.out.2.2⟩
 ·rintro c' l' w' ⟨rfl,hz,h2⟩
  rw [fstE_one] at hz ⊢
  exact ⟨rfl,.inr ⟨hz,rfl⟩,HM.out.trans h2⟩
end Go.Proofs.YthhkcfpljgdnhaaGreat
namespace Go.Proofs.YthhkcfpljgdnhaaGreat
open Go.RowKit Mnc
attribute [local go_sem] RunSP_value RunSP_skip RunSP_enter evS_tmp evS_const evS_global evS_func
attribute [local go_sem] Oper.semAt_some
/-- The number of the pair (i, s - i). -/
def tIdx (s i:Nat):Nat:=s*(s+1) / 2+i
theorem tIdx_drop:∀s i:Fin 6,i.1<=s.1->tPairs.drop (tIdx s.1 i.1)=(i.1,s.1-i.1)::tPairs.drop (tIdx s.1 i.1+1):=by decide
theorem tIdx_lt:∀s i:Fin 6,i.1<=s.1->tIdx s.1 i.1<21:=by decide
theorem tIdx_next:∀s:Fin 6,tIdx s.1 (s.1+1)=tIdx (s.1+1) 0:=by decide
structure Sw5 (W:World) (b:Nat) (a:List (Int×Int)) (t:Int×Int) (p i j:Nat) (L:Nat->Bool) (s:Nat->Value) (w:World):Prop where
 mu:Mut [b+1+1] W w
 kt_t:L 11=false->w.heap[b+1+1]?=some (cobj 90 ([t]))
 kr_t:L 11->w.heap[b+1+1]?=some (cobj 90 ([(sAdd t (sMul (tAt a p) (tReach i j)).1).1]))
 e0:L 0->s 9=.int .i64 ((p:Nat):Int)
 e1:L 1->s 10=.pointer (some ⟨b,0,none⟩)
 e2:L 2->s 11=.pointer (some ⟨b,p*2,none⟩)
 e3:L 3->s 12=sval (tAt a p)
 e4:L 4->s 13=.int .i64 ((i:Nat):Int)
 e5:L 5->s 14=.int .i64 ((j:Nat):Int)
 e6:L 6->s 15=sval (tReach (i) (j))
 e7:L 7->s 16=.tuple #[sval (sMul (tAt a p) (tReach (i) (j))).1,.int .i64 (sMul (tAt a p) (tReach (i) (j))).2]
 e8:L 8->s 17=sval ((sMul (tAt a p) (tReach (i) (j))).1)
 e9:L 9->s 18=.int .i64 ((sMul (tAt a p) (tReach (i) (j))).2)
 z10:L 10->(sMul (tAt a p) (tReach (i) (j))).2=0
 e10:L 10->s 19=sval ((sMul (tAt a p) (tReach (i) (j))).1)
 z11:L 11->(sAdd (t) ((sMul (tAt a p) (tReach (i) (j))).1)).2=0
/-- What holds ahead of a pair. -/
structure JSw (W1:World) (b:Nat) (a:List (Int×Int)) (s i:Nat) (t:Int×Int) (W:World):Prop where
 mu:Mut [b+1+1,b+1+1+1] W1 W
 ht:W.heap[b+1+1]?=some (cobj 90 [t])
 hp:W.heap[b+1+1+1]?=some (iobj 3 ((tIdx s i:Nat):Int))
 go:tSweepFrom a (tPairs.drop (tIdx s i)) (tIdx s i) t=tSweep a
theorem JSw.put {W1:World} {b:Nat} {a:List (Int×Int)} {s i:Nat} {t:Int×Int} {W:World} (h:JSw W1 b a s i t W) (hb:b+4<=W1.heap.size) {k:Nat} (hk:W1.heap.size<=k) (o:Obj):JSw W1 b a s i t (W.putObj k o) :=
 ⟨h.mu.putNew hk o,(World.putObj_heap_other (by omega)).trans h.ht,(World.putObj_heap_other (by omega)).trans h.hp,h.go⟩
theorem tSweepFrom_ok {a:List (Int×Int)} {i j p:Nat} {l:List (Nat×Nat)} {t:Int×Int} (h1:(sMul (tAt a p) (tReach i j)).2=0) (h2:(sAdd t (sMul (tAt a p) (tReach i j)).1).2=0) :
  tSweepFrom a ((i,j)::l) p t=tSweepFrom a l (p+1) (sAdd t (sMul (tAt a p) (tReach i j)).1).1:=by
 rw [tSweepFrom,thenE_ok h1,thenE_ok h2]
theorem tSweepFrom_bad {a:List (Int×Int)} {i j p:Nat} {l:List (Nat×Nat)} {t:Int×Int} (h:¬fstE [(sMul (tAt a p) (tReach i j)).2,(sAdd t (sMul (tAt a p) (tReach i j)).1).2]=0) :
  (tSweepFrom a ((i,j)::l) p t).2=fstE [(sMul (tAt a p) (tReach i j)).2,(sAdd t (sMul (tAt a p) (tReach i j)).1).2]:=by
 rw [tSweepFrom]
 by_cases h1:(sMul (tAt a p) (tReach i j)).2=0
 ·rw [fstE_0 h1,fstE_one] at h ⊢
  rw [thenE_ok h1,thenE_bad h]
 ·rw [thenE_bad h1,fstE_1 h1]
set_option maxRecDepth 100000 in
set_option maxHeartbeats 2000000 in
theorem tay_sweep (a:List (Int×Int)) (ha:a.length=22) (w:World) :
  Calls Tryz.prog 65 #[mval a] w fun e w'=>Ends sval (tSweep a) e/\Below w.heap.size w w':=by
 have HL:=lh ha
 refine (callsIn_wide (n:=5)).1 ?_
 refine callsIn_of_wpF Tryz.func65 rfl ?_
 simp only [Tryz.ntmps65,List.size_toArray,List.length_cons,List.length_nil,Nat.reduceAdd,Nat.reduceSub,Array.replicate_succ,Array.replicate_zero,List.push_toArray,List.append_toArray,List.nil_append,List.cons_append]
 refine wpF_seq (wpF_of (n:=5) ?_)
 gi_wp2_with fail
 rename_i x cs hc
 obtain rfl:(mc a).toArray=cs:=Value.agg.inj hc
 clear hc
 refine wpF_seq (wpF_of (n:=5) ?_)
 gi_wp2_with fail
 refine wpF_seq (wpF_of (n:=5) ?_)
 gi_wp2_with fail
 refine wpF_seq (wpF_block ?_)
 have hS:((((w.alloc (.cells (mc a).toArray 34)).alloc (.cells #[.int .i64 0,.int .i64 0] 31)).alloc (.cells #[.int .i64 0,.int .i64 0] 90)).alloc (.cells #[.int .i64 0] 3)).heap.size=w.heap.size+4:=by simp
 have hA:((((w.alloc (.cells (mc a).toArray 34)).alloc (.cells #[.int .i64 0,.int .i64 0] 31)).alloc (.cells #[.int .i64 0,.int .i64 0] 90)).alloc (.cells #[.int .i64 0] 3)).heap[w.heap.size]?=some (cobj 34 a):=heap_up _ (heap_up _ (heap_up _ (heap_at _ rfl)))
 have hR:((((w.alloc (.cells (mc a).toArray 34)).alloc (.cells #[.int .i64 0,.int .i64 0] 31)).alloc (.cells #[.int .i64 0,.int .i64 0] 90)).alloc (.cells #[.int .i64 0] 3)).heap[w.heap.size+1]?=some (cobj 31 [(0,0)]):=heap_up _ (heap_up _ (heap_at _ (by simp)))
 have hT:((((w.alloc (.cells (mc a).toArray 34)).alloc (.cells #[.int .i64 0,.int .i64 0] 31)).alloc (.cells #[.int .i64 0,.int .i64 0] 90)).alloc (.cells #[.int .i64 0] 3)).heap[w.heap.size+1+1]?=some (cobj 90 [(0,0)]):=heap_up _ (heap_at _ (by simp))
 have hP:((((w.alloc (.cells (mc a).toArray 34)).alloc (.cells #[.int .i64 0,.int .i64 0] 31)).alloc (.cells #[.int .i64 0,.int .i64 0] 90)).alloc (.cells #[.int .i64 0] 3)).heap[w.heap.size+1+1+1]?=some (iobj 3 ((tIdx 0 0:Nat):Int)):=heap_at _ (by simp)
 have hB:Below w.heap.size w ((((w.alloc (.cells (mc a).toArray 34)).alloc (.cells #[.int .i64 0,.int .i64 0] 31)).alloc (.cells #[.int .i64 0,.int .i64 0] 90)).alloc (.cells #[.int .i64 0] 3)):=below_alloc (below_alloc (below_alloc (below_alloc (Below.refl _ _) _) _) _) _
 generalize ((((w.alloc (.cells (mc a).toArray 34)).alloc (.cells #[.int .i64 0,.int .i64 0] 31)).alloc (.cells #[.int .i64 0,.int .i64 0] 90)).alloc (.cells #[.int .i64 0] 3))=W1 at *
 generalize hb:w.heap.size=b at *
 have hS4:b+4<=W1.heap.size:=by omega
 have HS4:=lh hS4
 have HA1:=lh hA
 have HR1:=lh hR
 have HB1:=lh hB
 have HBW:=lh hb
 have h00:JSw W1 b a 0 0 (0,0) W1:=⟨Mut.refl _ _,hT,hP,rfl⟩
 have H0:=lh h00
 clear hA hR hT hP hB hS h00 ha hb hS4
 refine pairs_outer 5 65 Tryz.func65 rfl (fun s i W=>∃t,JSw W1 b a s i t W) (fun _=>False) (fun c W=>c=brk (tSweep a).2/\¬(tSweep a).2=0/\Mut [b+1+1,b+1+1+1] W1 W)
  (fun s i W k o hk ⟨t,h⟩=>⟨t,h.put HS4.out hk o⟩) (fun W k o hk h=>h) ?_ ?_ ?_ ?_ (fun W h=>h.elim) ?_
 ·rintro s W hs ⟨t,h⟩
  have e:=tIdx_next ⟨s,by omega⟩
  dsimp only at e
  exact ⟨t,h.mu,h.ht,by rw [←e];exact h.hp,by rw [←e];exact h.go⟩
 ·intro o o'
  have h:=H0.out
  have hsz:=HS4.out
  exact ⟨(0,0),(h.mu.alloc _).alloc _,heap_up _ (heap_up _ h.ht),heap_up _ (heap_up _ h.hp),h.go⟩
 ·rintro l hl s i W0 hi hs ⟨t,hJ⟩ hrec
  have HJ:=lh hJ
  have HLL:=lh hl
  have hd:=tIdx_drop ⟨s,by omega⟩ ⟨i,by omega⟩ hi
  have hlt:=tIdx_lt ⟨s,by omega⟩ ⟨i,by omega⟩ hi
  dsimp only at hd hlt
  have HD:=lh hd
  have HPL:=lh hlt
  have HNX:=lh (show tIdx s (i+1)=tIdx s i+1 from rfl)
  generalize hp:tIdx s i=p at *
  have HPP:=lh hp
  obtain ⟨j,hj⟩:∃j,s-i=j:=⟨_,rfl⟩
  rw [hj] at HD ⊢
  have hi5:i<=5:=by omega
  have hj5:j<=5:=by omega
  clear hJ hl hd hlt hrec hp hj hi hs
  refine wpF_ofR (n:=5) ?_
  gi_wp2_with fail
  refine ⟨KeepA.refl _ _,fun o=>?_⟩
  obtain ⟨W,hW⟩:∃W,W=W0.putObj l (.loop o):=⟨_,rfl⟩
  rw [←hW]
  have hJ2:JSw W1 b a s i t W:=by rw [hW];exact HJ.out.put HS4.out HLL.out _
  clear hW
  have HA:=lh (show W.heap[b]?=some (cobj 34 a) from (hJ2.mu.same b (by have:=HS4.out;omega) (notin2 (by omega) (by omega))).trans HA1.out)
  have HT:=lh hJ2.ht
  have HP:=lh (show W.heap[b+1+1+1]?=some (iobj 3 ((p:Nat):Int)) by rw [←HPP.out];exact hJ2.hp)
  have HM:=lh hJ2.mu
  have HSZ:=lh (show b+4<=W.heap.size from Nat.le_trans HS4.out hJ2.mu.size)
  have HGO:=lh (show tSweepFrom a (tPairs.drop p) p t=tSweep a by rw [←HPP.out];exact hJ2.go)
  clear hJ2
  refine wpF_block (wpF_seq (wpF_ofR (n:=5) ?_))
  refine wpIn_cut_mergeP [none,none,none,none,none,none,none,none,none,some 9,some 10,some 11,some 12,some 13,some 14,some 15,some 16,some 17,some 18,some 19,some 20,none,none,none,none] (fun _ w'=>Mut [b+1+1] W w'/\w'.heap[b+1+1]?=some (cobj 90 ([(sAdd t (sMul (tAt a p) (tReach i j)).1).1]))/\(sMul (tAt a p) (tReach (i) (j))).2=0/\(sAdd (t) ((sMul (tAt a p) (tReach (i) (j))).1)).2=0) (fun ch w'=>ch=brk (fstE [(sMul (tAt a p) (tReach (i) (j))).2,(sAdd (t) ((sMul (tAt a p) (tReach (i) (j))).1)).2])/\¬fstE [(sMul (tAt a p) (tReach (i) (j))).2,(sAdd (t) ((sMul (tAt a p) (tReach (i) (j))).1)).2]=0/\Mut [b+1+1] W w') ?_ ?_ ?_
  ·intro Q2 hQ2 hP2
   refine wp_region_G (b:=true) (Pn:=(fun ch w'=>ch=brk (fstE [(sMul (tAt a p) (tReach (i) (j))).2,(sAdd (t) ((sMul (tAt a p) (tReach (i) (j))).1)).2])/\¬fstE [(sMul (tAt a p) (tReach (i) (j))).2,(sAdd (t) ((sMul (tAt a p) (tReach (i) (j))).1)).2]=0/\Mut [b+1+1] W w')) (Sw5 W b a t p i j) (by kernel_rfl) (by kernel_rfl) ?_ ?_ ?_ ?_
   ·exact ⟨Mut.start _ true _,fun _=>HT.out,nB,nB,nB,nB,nB,nB,nB,nB,nB,nB,nB,nB,nB,nB⟩
   ·refine aC ?_ (aC ?_ (aC ?_ (aC ?_ (aC ?_ (aC ?_ (aC ?_ (aC ?_ (aC ?_ (aC ?_ (aC ?_ (aC ?_ aN)))))))))))
    ·intro L s w2 h hk hd hn K hK
     have kb:=kY h.mu HP (by have:=HSZ.out;omega)
     exact rs_load rfl (hk 4) (i_load kb) (hK {h with e0:=rF})
    ·intro L s w2 h hk hd hn K hK
     exact rs_field rfl (hk 1) (fl_model0 _ _) (hK {h with e1:=rF})
    ·intro L s w2 h hk hd hn K hK
     exact rs_index rfl (h.e1 hd.1) (h.e0 hd.2.1) (ix_model _ p HPL.out) (hK {h with e2:=rF})
    ·intro L s w2 h hk hd hn K hK
     have kb:=kY h.mu HA (by have:=HSZ.out;omega)
     exact rs_load rfl (h.e2 hd.1) (sp_load (p:=p) kb (by have:=HL.out;have:=HPL.out;omega)) (hK {h with e3:=rF})
    ·intro L s w2 h hk hd hn K hK
     exact rs_move rfl (hk 5) (hK {h with e4:=rF})
    ·intro L s w2 h hk hd hn K hK
     exact rs_move rfl (hk 6) (hK {h with e5:=rF})
    ·intro L s w2 h hk hd hn K hK
     have s13:=h.e4 hd.1
     have s14:=h.e5 hd.2.1
     go_simp
     refine (tm_reach (i) (j) (by omega) (by omega) _).mono ?_
     rintro e w3 ⟨rfl,hb⟩
     exact .inl ⟨_,rfl,hK {h with mu:=h.mu.step hb,kt_t:=fun a=>bk hb (h.kt_t a),kr_t:=fun a=>bk hb (h.kr_t a),e6:=rF}⟩
    ·intro L s w2 h hk hd hn K hK
     have s12:=h.e3 hd.1
     have s15:=h.e6 hd.2.1
     go_simp
     refine (tm_mul (tAt a p) (tReach (i) (j)) _).mono ?_
     rintro e w3 ⟨rfl,hb⟩
     exact .inl ⟨_,rfl,hK {h with mu:=h.mu.step hb,kt_t:=fun a=>bk hb (h.kt_t a),kr_t:=fun a=>bk hb (h.kr_t a),e7:=rF}⟩
    ·intro L s w2 h hk hd hn K hK
     exact rs_extract rfl (h.e7 hd.1) rfl (hK {h with e8:=rF})
    ·intro L s w2 h hk hd hn K hK
     exact rs_extract rfl (h.e7 hd.1) rfl (hK {h with e9:=rF})
    ·intro L s w2 h hk hd hn K hK
     have s17:=h.e8 hd.1
     have s18:=h.e9 hd.2.1
     go_simp
     refine (tm_must ((sMul (tAt a p) (tReach (i) (j))).1) ((sMul (tAt a p) (tReach (i) (j))).2) _).mono ?_
     rintro e w3 ⟨⟨hz,rfl⟩ | ⟨hz,rfl⟩,hb⟩
     ·exact .inl ⟨_,rfl,hK {h with mu:=h.mu.step hb,kt_t:=fun a=>bk hb (h.kt_t a),kr_t:=fun a=>bk hb (h.kr_t a),e10:=rF,z10:=fun _=>hz}⟩
     ·exact .inr ⟨_,rfl,congrArg brk (show (sMul (tAt a p) (tReach (i) (j))).2=fstE [(sMul (tAt a p) (tReach (i) (j))).2,(sAdd (t) ((sMul (tAt a p) (tReach (i) (j))).1)).2] from (by rw [fstE_1 (show ¬(sMul (tAt a p) (tReach (i) (j))).2=0 from hz)])),(show ¬fstE [(sMul (tAt a p) (tReach (i) (j))).2,(sAdd (t) ((sMul (tAt a p) (tReach (i) (j))).1)).2]=0 from (by rw [fstE_1 (show ¬(sMul (tAt a p) (tReach (i) (j))).2=0 from hz)];exact hz)),h.mu.step hb⟩
    ·intro L s w2 h hk hd hn K hK
     have s3:s 3=_:=hk 3
     have s19:=h.e10 hd.1
     have kb:=h.kt_t hn
     go_simp
     refine (tm_grow (b+1+1) _ [t] (0) (by simp) ((sMul (tAt a p) (tReach (i) (j))).1) _ kb).mono ?_
     rintro e w3 ⟨⟨hz,⟨v,rfl⟩,hkr⟩ | ⟨hz,rfl⟩,hb⟩
     ·exact .inl ⟨_,rfl,hK {h with mu:=mS h.mu hb (List.Mem.head _),z11:=fun _=>hz,kt_t:=nF,kr_t:=fun _=>hkr}⟩
     ·exact .inr ⟨_,rfl,congrArg brk (show (sAdd (t) ((sMul (tAt a p) (tReach (i) (j))).1)).2=fstE [(sMul (tAt a p) (tReach (i) (j))).2,(sAdd (t) ((sMul (tAt a p) (tReach (i) (j))).1)).2] from (by rw [fstE_0 (show (sMul (tAt a p) (tReach (i) (j))).2=0 from h.z10 hd.1),fstE_1 (show ¬(sAdd (t) ((sMul (tAt a p) (tReach (i) (j))).1)).2=0 from hz)])),(show ¬fstE [(sMul (tAt a p) (tReach (i) (j))).2,(sAdd (t) ((sMul (tAt a p) (tReach (i) (j))).1)).2]=0 from (by rw [fstE_0 (show (sMul (tAt a p) (tReach (i) (j))).2=0 from h.z10 hd.1),fstE_1 (show ¬(sAdd (t) ((sMul (tAt a p) (tReach (i) (j))).1)).2=0 from hz)];exact hz)),mS h.mu hb (List.Mem.head _)⟩
   ·intro L s w2 h hk hl
    refine cA ?_ (hQ2 s w2 (⟨h.mu,h.kr_t (hl 11 (by decide)),h.z10 (hl 10 (by decide)),h.z11 (hl 11 (by decide))⟩))
    exact fq hk
   ·intro c s w2 hc
    exact hP2 _ _ _ hc
  ·rintro s' wc ⟨h1,h2,h3,h4⟩
   simp only [mergeL]
   have HP2:=(h1.same _ (by have:=HSZ.out;omega) (notin1 (by omega))).trans HP.out
   have c0:=cell_of_one HP2
   have f0:wc.frozen? ⟨b+1+1+1,0,none⟩=false:=by simp [World.frozen?,HP2,iobj]
   have H1:=lh h1
   have H2:=lh h2
   have H3:=lh h3
   have H4:=lh h4
   have HC:=lh HP2
   clear h1 h2 h3 h4 HP2
   have hp0:(0:Int)<=(p:Int):=by omega
   have hp1:(p:Int)<=20:=by have:=HPL.out;omega
   refine wpF_ofR (n:=5) ?_
   gi_wp2_with fail
   rw [show wc.setCell ⟨b+1+1+1,0,none⟩ (.int .i64 ((p:Int)+1))=wc.putObj (b+1+1+1) (iobj 3 ((p+1:Nat):Int)) from setCell_put HC.out 0 _]
   have hmu:Mut [b+1+1,b+1+1+1] W (wc.putObj (b+1+1+1) (iobj 3 ((p+1:Nat):Int))):=(H1.out.up fun x hx=>.inl (by simp at hx;simp [hx])).put (by simp) _
   refine ⟨hmu.keep (by have:=HS4.out;intro x hx;simp at hx;omega),(sAdd t (sMul (tAt a p) (tReach i j)).1).1,HM.out.trans hmu,(World.putObj_heap_other (by omega)).trans H2.out,?_,?_⟩
   ·rw [HNX.out]
    exact World.putObj_heap_same (lt_of_block HC.out)
   ·rw [HNX.out,←HGO.out,HD.out,tSweepFrom_ok H3.out H4.out]
  ·rintro c l' w' ⟨rfl,hz,h2⟩
   have hg:=HGO.out
   rw [HD.out] at hg
   have he:=tSweepFrom_bad (l:=tPairs.drop (p+1)) hz
   rw [hg] at he
   have h3:=h2.up (S':=[b+1+1,b+1+1+1]) fun x hx=>.inl (by simp at hx;simp [hx])
   refine ⟨rfl,h3.keep (by have:=HS4.out;intro x hx;simp at hx;omega),by rw [he],by rw [he];exact hz,HM.out.trans h3⟩
 ·rintro W ⟨t,hJ⟩ hD
  have hT2:W.heap[b+1+1]?=some (.cells #[.int .i64 t.1,.int .i64 t.2] 90 (0,0)):=hJ.ht
  have hR2:W.heap[b+1]?=some (.cells #[.int .i64 0,.int .i64 0] 31 (0,0)):=(hJ.mu.same _ (by have:=HS4.out;omega) (notin2 (by omega) (by omega))).trans HR1.out
  have v0:=cell_two0 hT2
  have v1:=cell_two1 hT2
  have r0:=cell_two0 hR2
  have r1:=cell_two1 hR2
  have g0:=free_two (i:=0) hR2
  have g1:=free_two (i:=1) hR2
  have HGO:=lh (show tSweep a=(t,0) from hJ.go.symm)
  have HRR:=lh hR2
  have HM:=lh hJ.mu
  have HD:=lh hD
  have HDS:=lh (lt_of_block hD)
  clear hJ hT2 hR2 hD
  show wpF _ _ _ _ _ _ _
  refine wpF_seq (wpF_of (n:=5) ?_)
  gi_wp2_with fail
  refine wpF_of (n:=5) (wpIn_ret ?_)
  rw [show (W.setCell ⟨b+1,0,none⟩ (.int .i64 t.1)).setCell ⟨b+1,1,none⟩ (.int .i64 t.2)=W.putObj (b+1) (cobj 31 [t]) from sp_put (p:=0) (a:=[(0,0)]) HRR.out (by simp) t]
  have hK2:(W.putObj (b+1) (cobj 31 [t])).heap[W1.heap.size]?=some (.deferred (some [])):=(World.putObj_heap_other (by have:=HS4.out;omega)).trans HD.out
  refine ⟨by simp,.inl ⟨_,_,rfl,run_takeDeferred hK2,?_⟩⟩
  have hq:((W.putObj (b+1) (cobj 31 [t])).putObj W1.heap.size (.deferred none)).heap[b+1]?=some (.cells #[.int .i64 t.1,.int .i64 t.2] 31 (0,0)):=(World.putObj_heap_other (by have:=HS4.out;omega)).trans (World.putObj_heap_same (lt_of_block HRR.out))
  have q0:=cell_two0 hq
  have q1:=cell_two1 hq
  refine ⟨sval t,?_,.inl ⟨by rw [HGO.out],by rw [HGO.out]⟩,?_⟩
  ·simp [results,Tryz.results65,go_sem,q0,q1,sval]
  ·refine HB1.out.trans (put_bel (put_bel (HM.out.below (by have:=HS4.out;omega) (by intro x hx;simp at hx;omega)) (by omega)) (by have:=HS4.out;omega))
 ·rintro c W ⟨rfl,hz,hM⟩ hD
  refine ⟨by simp,.inl ⟨_,_,rfl,run_takeDeferred hD,?_⟩⟩
  exact ⟨.inr ⟨hz,rfl⟩,HB1.out.trans (put_bel (hM.below (by have:=HS4.out;omega) (by intro x hx;simp at hx;omega)) (by have:=HS4.out;omega))⟩
end Go.Proofs.YthhkcfpljgdnhaaGreat
