/- Package taylor: relative, series. Printed by wip/genTI.py. -/
import Derived.Test.YthhkcfpljgdnhaaGreatTayH
set_option maxRecDepth 100000
set_option maxHeartbeats 4000000
namespace Go.Proofs.YthhkcfpljgdnhaaGreat
open Go.RowKit Mnc
attribute [local go_sem] RunSP_value RunSP_skip RunSP_enter evS_tmp evS_const evS_global evS_func
theorem sp_loadVar {W:World} {B:Nat} {t:TypeId} {x:Int×Int} (h:W.heap[B]?=some (cobj t [x])):(loadVar 31 ⟨B,0,none⟩).run Tryz.prog W=.ok (sval x) W:=by
 obtain ⟨d,hd⟩:=Option.isSome_iff_exists.1 (show (Tryz.prog.underlying 31).isSome=true by kernel_rfl)
 have hr:d.isRow=true:=by
  have hm:(Tryz.prog.underlying 31).map TypeDesc.isRow=some true:=by kernel_rfl
  rw [hd] at hm
  exact Option.some.inj hm
 exact run_loadVar_mid W B 0 _ _ d (cobj_range h (p:=0) (by simp)) hd hr (by kernel_rfl)
theorem res_three {fn:Func} {tmps:Array Value} {i j k B C D:Nat} {t u v:TypeId} {W:World} {x y z:Value} (hf:fn.results=#[.cell i t,.cell j u,.cell k v]) (hi:tmps.getD i undef=.pointer (some ⟨B,0,none⟩)) (hj:tmps.getD j undef=.pointer (some ⟨C,0,none⟩)) (hk:tmps.getD k undef=.pointer (some ⟨D,0,none⟩))
  (hl:(loadVar t ⟨B,0,none⟩).run Tryz.prog W=.ok x W) (hm:(loadVar u ⟨C,0,none⟩).run Tryz.prog W=.ok y W) (hn:(loadVar v ⟨D,0,none⟩).run Tryz.prog W=.ok z W):(results fn tmps).run Tryz.prog W=.ok (.tuple #[x,y,z]) W:=by
 unfold results
 rw [hf]
 simp only [Array.mapM_eq_mapM_toList,List.mapM_cons,List.mapM_nil,hi,hj,hk,asAddr,pure_bind,map_eq_pure_bind,bind_assoc,Sem.run_bind,hl,hm,hn,Result.andThen,Sem.run_pure]
 rfl
/-- What relative hands back. -/
def r3val (r:List (Int×Int)×(Int×Int)×(Int×Int)):Value:=.tuple #[mval r.1,sval r.2.1,sval r.2.2]
structure Re1 (V:World) (b:Nat) (a:List (Int×Int)) (L:Nat->Bool) (s:Nat->Value) (w:World):Prop where
 mu:Mut [b+1] V w
 kt_h:L 1=false->w.heap[b+1]?=some (cobj 34 zeroM)
 kr_h:L 1->w.heap[b+1]?=some (cobj 34 a)
 e0:L 0->s 5=mval a
structure Re2 (V:World) (b:Nat) (a:List (Int×Int)) (L:Nat->Bool) (s:Nat->Value) (w:World):Prop where
 mu:Mut [b+1] V w
 kt_h:L 3=false->w.heap[b+1]?=some (cobj 34 a)
 kr_h:L 3->w.heap[b+1]?=some (cobj 34 (a.set 0 (0,0)))
 e0:L 0->s 6=sval (0,0)
 e1:L 1->s 7=.pointer (some ⟨b+1,0,none⟩)
 e2:L 2->s 8=.pointer (some ⟨b+1,0*2,none⟩)
structure Re3 (V:World) (b:Nat) (a:List (Int×Int)) (H0:List (Int×Int)) (L:Nat->Bool) (s:Nat->Value) (w:World):Prop where
 mu:Mut [b+1] V w
 kt_h:L 5=false->w.heap[b+1]?=some (cobj 34 H0)
 kr_h:L 5->w.heap[b+1]?=some (cobj 34 ((tBy sDiv H0 (tAt a 0)).1))
 e0:L 0->s 9=mval H0
 e1:L 1->s 10=.pointer (some ⟨b,0,none⟩)
 e2:L 2->s 11=.pointer (some ⟨b,0*2,none⟩)
 e3:L 3->s 12=sval (tAt a 0)
 z4:L 4->(tBy sDiv H0 (tAt a 0)).2=0
 e4:L 4->s 13=mval ((tBy sDiv H0 (tAt a 0)).1)
 b5_0:L 5->L 0
structure Re4 (V:World) (b:Nat) (a:List (Int×Int)) (H1:List (Int×Int)) (L:Nat->Bool) (s:Nat->Value) (w:World):Prop where
 mu:Mut [b+1+1] V w
 kt_bb:L 2=false->w.heap[b+1+1]?=some (cobj 31 ([(0,0)]))
 kr_bb:L 2->w.heap[b+1+1]?=some (cobj 31 ([(tBound H1).1]))
 e0:L 0->s 14=mval H1
 z1:L 1->(tBound H1).2=0
 e1:L 1->s 15=sval ((tBound H1).1)
structure Re5 (V:World) (b:Nat) (a:List (Int×Int)) (H1:List (Int×Int)) (bb:Int×Int) (L:Nat->Bool) (s:Nat->Value) (w:World):Prop where
 mu:Mut [b+1,b+1+1,b+1+1+1] V w
 kt_h:L 13=false->w.heap[b+1]?=some (cobj 34 H1)
 kr_h:L 13->w.heap[b+1]?=some (cobj 34 H1)
 kt_bb:L 14=false->w.heap[b+1+1]?=some (cobj 31 ([bb]))
 kr_bb:L 14->w.heap[b+1+1]?=some (cobj 31 ([bb]))
 kt_ee:L 15=false->w.heap[b+1+1+1]?=some (cobj 31 ([(0,0)]))
 kr_ee:L 15->w.heap[b+1+1+1]?=some (cobj 31 ([(sAdd (4294967296,4294967296) (sMul ((0,4294967296):Int×Int) bb).1).1]))
 e0:L 0->s 16=mval H1
 e1:L 1->s 17=sval bb
 e2:L 2->s 18=sval (4294967296,4294967296)
 e3:L 3->s 19=sval ((0,4294967296):Int×Int)
 e4:L 4->s 20=sval bb
 e5:L 5->s 21=.tuple #[sval (sMul ((0,4294967296):Int×Int) (bb)).1,.int .i64 (sMul ((0,4294967296):Int×Int) (bb)).2]
 e6:L 6->s 22=sval ((sMul ((0,4294967296):Int×Int) (bb)).1)
 e7:L 7->s 23=.int .i64 ((sMul ((0,4294967296):Int×Int) (bb)).2)
 z8:L 8->(sMul ((0,4294967296):Int×Int) (bb)).2=0
 e8:L 8->s 24=sval ((sMul ((0,4294967296):Int×Int) (bb)).1)
 e9:L 9->s 25=.tuple #[sval (sAdd (4294967296,4294967296) ((sMul ((0,4294967296):Int×Int) (bb)).1)).1,.int .i64 (sAdd (4294967296,4294967296) ((sMul ((0,4294967296):Int×Int) (bb)).1)).2]
 e10:L 10->s 26=sval ((sAdd (4294967296,4294967296) ((sMul ((0,4294967296):Int×Int) (bb)).1)).1)
 e11:L 11->s 27=.int .i64 ((sAdd (4294967296,4294967296) ((sMul ((0,4294967296):Int×Int) (bb)).1)).2)
 z12:L 12->(sAdd (4294967296,4294967296) ((sMul ((0,4294967296):Int×Int) (bb)).1)).2=0
 e12:L 12->s 28=sval ((sAdd (4294967296,4294967296) ((sMul ((0,4294967296):Int×Int) (bb)).1)).1)
 q10_8:L 10->(sMul ((0,4294967296):Int×Int) (bb)).2=0
 q9_8:L 9->(sMul ((0,4294967296):Int×Int) (bb)).2=0
 b13_0:L 13->L 0
 b14_1:L 14->L 1
 b14_4:L 14->L 4
theorem tay_relative (a:List (Int×Int)) (ha:a.length=22) (w:World) :
  Calls Tryz.prog 39 #[mval a] w fun e w'=>Ends r3val (tRelative a) e/\Below w.heap.size w w':=by
 have HL:=lh ha
 have HP0:=lh (show tRelative a=_ from by rw [tRelative])
 clear ha
 go_enter Tryz.func39,Tryz.ntmps39
 refine wsk fun K0 HK0=>?_
 go_wp2_with fail
 rename_i x1 cs1 hc1
 obtain rfl:(mc a).toArray=cs1:=Value.agg.inj hc1
 clear hc1
 obtain ⟨b,hb⟩:∃b,w.heap.size=b:=⟨_,rfl⟩
 refine HK0.out _ _ ?_
 refine wp_world (fun W=>Mut [] w W/\W.heap[b]?=some (cobj 34 a)/\W.heap[b+1]?=some (cobj 34 zeroM)/\W.heap[b+1+1]?=some (cobj 31 [(0,0)])/\W.heap[b+1+1+1]?=some (cobj 31 [(0,0)])) ?_
  (by
   rw [←hb]
   exact ⟨((((Mut.refl _ _).alloc _).alloc _).alloc _).alloc _,heap_up _ (heap_up _ (heap_up _ (heap_at _ rfl))),heap_up _ (heap_up _ (heap_at (cobj 34 zeroM) (by simp))),heap_up _ (heap_at _ (by simp)),heap_at _ (by simp)⟩)
 rintro V ⟨hm,hA,hH,hBB,hEE⟩
 rw [hb]
 have HM:=lh hm
 have HBW:=lh hb
 have HA:=lh hA
 have HH:=lh hH
 have HBB:=lh hBB
 have HEE:=lh hEE
 clear hm hA hH hBB hEE hb HK0
 refine wsk fun K1 HK1=>?_
 refine wc (nn::nn::nn::nn::nn::some 5::n8 (n8 (nn::nn::nn::nn::nn::nn::nn::[]))) (fun _ w'=>Mut [b+1] V w'/\w'.heap[b+1]?=some (cobj 34 a)) ?_ ?_
 ·intro Q2 hQ2
  refine wG (Re1 V b a) ?_ ?_ ?_
  ·exact ⟨Mut.start _ false _,fun _=>HH.out,nB,nB⟩
  ·refine aC ?_ (aC ?_ aN)
   ·intro L s w2 h hk hd hn K hK
    have kb:=kY h.mu HA (by omega)
    exact rs_load rfl (hk 1) (md_load kb HL.out) (hK {h with e0:=rF})
   ·intro L s w2 h hk hd hn K hK
    have kb:=h.kt_h hn
    exact rs_store rfl (hk 2) (h.e0 hd.1) (md_store kb rfl _ HL.out) (hK {h with mu:=h.mu.put (List.Mem.head _) _,kt_h:=nF,kr_h:=fun _=>pH kb})
  ·intro L s w2 h hk hl
   refine cA ?_ (hQ2 s w2 (⟨h.mu,h.kr_h (hl 1)⟩))
   exact fq hk
 rintro s1 V ⟨h1,c_h⟩
 simp only [mergeL]
 replace HM:=mB HM h1 (by have:=HBW.out;simp;omega)
 replace HA:=j1 h1 HA (by omega)
 replace HH:=lh c_h
 replace HBB:=j1 h1 HBB (by omega)
 replace HEE:=j1 h1 HEE (by omega)
 clear h1 c_h
 refine HK1.out _ _ ?_
 refine wsk fun K2 HK2=>?_
 refine wc (nn::nn::nn::nn::nn::nn::some 6::some 7::some 8::n8 (n8 (nn::nn::nn::nn::[]))) (fun _ w'=>Mut [b+1] V w'/\w'.heap[b+1]?=some (cobj 34 (a.set 0 (0,0)))) ?_ ?_
 ·intro Q2 hQ2
  refine wG (Re2 V b a) ?_ ?_ ?_
  ·exact ⟨Mut.start _ false _,fun _=>HH.out,nB,nB,nB,nB⟩
  ·refine aC ?_ (aC ?_ (aC ?_ (aC ?_ aN)))
   ·intro L s w2 h hk hd hn K hK
    go_simp
    refine (tm_point 0 _).mono ?_
    rintro e w3 ⟨rfl,hb⟩
    exact .inl ⟨_,rfl,hK {h with mu:=h.mu.step hb,kt_h:=fun a=>bk hb (h.kt_h a),kr_h:=fun a=>bk hb (h.kr_h a),e0:=rF}⟩
   ·intro L s w2 h hk hd hn K hK
    exact rs_field rfl (hk 2) (fl_model0 _ _) (hK {h with e1:=rF})
   ·intro L s w2 h hk hd hn K hK
    exact rs_index rfl (h.e1 hd.1) rfl (ix_model _ 0 (by omega)) (hK {h with e2:=rF})
   ·intro L s w2 h hk hd hn K hK
    have kb:=h.kt_h hn
    exact rs_store rfl (h.e2 hd.1) (h.e0 hd.2.1) (sp_store (p:=0) kb (by have:=(HL.out:a.length=22);omega) _) (hK {h with mu:=h.mu.put (List.Mem.head _) _,kt_h:=nF,kr_h:=fun _=>pH kb})
  ·intro L s w2 h hk hl
   refine cA ?_ (hQ2 s w2 (⟨h.mu,h.kr_h (hl 3)⟩))
   exact fq hk
 rintro s2 V ⟨h1,c_h⟩
 simp only [mergeL]
 obtain ⟨H0,hr0⟩:∃x,a.set 0 (0,0)=x:=⟨_,rfl⟩
 try rw [hr0] at c_h
 replace HM:=mB HM h1 (by have:=HBW.out;simp;omega)
 replace HA:=j1 h1 HA (by omega)
 replace HH:=lh c_h
 replace HBB:=j1 h1 HBB (by omega)
 replace HEE:=j1 h1 HEE (by omega)
 rw [hr0] at HP0
 have HL0:=lh (show H0.length=22 by rw [←hr0,List.length_set];exact HL.out)
 have HLEN:=lh (show (tBy sDiv H0 (tAt a 0)).2=0->(tBy sDiv H0 (tAt a 0)).1.length=22 from fun h=>(tEach_len rfl h).trans HL0.out)
 clear h1 c_h hr0
 refine HK2.out _ _ ?_
 refine wsk fun K3 HK3=>?_
 refine wp_cut_mergeP (n8 (nn::some 9::some 10::some 11::some 12::some 13::n8 (nn::nn::nn::nn::nn::nn::nn::[]))) (fun _ w'=>Mut [b+1] V w'/\w'.heap[b+1]?=some (cobj 34 ((tBy sDiv H0 (tAt a 0)).1))/\(tBy sDiv H0 (tAt a 0)).2=0) (fun ch w'=>ch=brk (fstE [(tBy sDiv H0 (tAt a 0)).2])/\¬fstE [(tBy sDiv H0 (tAt a 0)).2]=0/\Mut [b+1] V w') ?_ ?_ ?_
 ·intro Q2 hQ2 hP2
  refine wH (fun ch w'=>ch=brk (fstE [(tBy sDiv H0 (tAt a 0)).2])/\¬fstE [(tBy sDiv H0 (tAt a 0)).2]=0/\Mut [b+1] V w') (Re3 V b a H0) ?_ ?_ ?_ ?_
  ·exact ⟨Mut.start _ false _,fun _=>HH.out,nB,nB,nB,nB,nB,nB,nB,nB⟩
  ·refine aC ?_ (aC ?_ (aC ?_ (aC ?_ (aC ?_ (aC ?_ aN)))))
   ·intro L s w2 h hk hd hn K hK
    have kb:=(h.kt_h (bF h.b5_0 hn))
    exact rs_load rfl (hk 2) (md_load kb HL0.out) (hK {h with e0:=rF,b5_0:=rF})
   ·intro L s w2 h hk hd hn K hK
    exact rs_field rfl (hk 1) (fl_model0 _ _) (hK {h with e1:=rF})
   ·intro L s w2 h hk hd hn K hK
    exact rs_index rfl (h.e1 hd.1) rfl (ix_model _ 0 (by omega)) (hK {h with e2:=rF})
   ·intro L s w2 h hk hd hn K hK
    have kb:=kY h.mu HA (by omega)
    exact rs_load rfl (h.e2 hd.1) (sp_load (p:=0) kb (by have:=HL.out;omega)) (hK {h with e3:=rF})
   ·intro L s w2 h hk hd hn K hK
    have s9:=h.e0 hd.1
    have s12:=h.e3 hd.2.1
    go_simp
    refine (tay_by_Div H0 HL0.out (tAt a 0) _).mono ?_
    rintro e w3 ⟨⟨hz,rfl⟩ | ⟨hz,rfl⟩,hb⟩
    ·exact .inl ⟨_,rfl,hK {h with mu:=h.mu.step hb,kt_h:=fun a=>bk hb (h.kt_h a),kr_h:=fun a=>bk hb (h.kr_h a),e4:=rF,z4:=fun _=>hz}⟩
    ·exact .inr ⟨_,rfl,congrArg brk (by rw [fstE_1 (hz)]),(by rw [fstE_1 (hz)];exact hz),h.mu.step hb⟩
   ·intro L s w2 h hk hd hn K hK
    have kb:=h.kt_h hn
    exact rs_store rfl (hk 2) (h.e4 hd.1) (md_store kb HL0.out _ (HLEN.out (h.z4 hd.1))) (hK {h with mu:=h.mu.put (List.Mem.head _) _,kt_h:=nF,kr_h:=fun _=>pH kb,b5_0:=fun _=>hd.2.2.1})
  ·intro L s w2 h hk hl
   refine cA ?_ (hQ2 s w2 (⟨h.mu,h.kr_h (hl 5),h.z4 (hl 4)⟩))
   exact fq hk
  ·intro c s w2 hc
   exact hP2 _ _ _ hc
 rotate_left
 ·rintro e l'' w' ⟨rfl,hz,h2⟩
  have he:(tRelative a).2=fstE [(tBy sDiv H0 (tAt a 0)).2]:=by
   have h:=hz
   rw [HP0.out]
   exact thenE_fst1 h
  rw [←he] at hz ⊢
  exact ⟨rfl,.inr ⟨hz,rfl⟩,(by rw [←HBW.out];exact (HM.out.stepM h2 (by have:=HBW.out;intro x hx;simp at hx;right;omega)).to0)⟩
 rintro s3 V ⟨h1,c_h,z1⟩
 simp only [mergeL]
 obtain ⟨H1,hr0⟩:∃x,(tBy sDiv H0 (tAt a 0)).1=x:=⟨_,rfl⟩
 try rw [hr0] at c_h
 have HP1:=lh (show (tRelative a)=_ from by rw [HP0.out,thenE_ok z1,hr0])
 replace HM:=mB HM h1 (by have:=HBW.out;simp;omega)
 replace HA:=j1 h1 HA (by omega)
 replace HH:=lh c_h
 replace HBB:=j1 h1 HBB (by omega)
 replace HEE:=j1 h1 HEE (by omega)
 have HL1:=lh (show H1.length=22 by rw [←hr0];exact HLEN.out z1)
 clear h1 c_h z1 hr0
 refine HK3.out _ _ ?_
 refine wsk fun K4 HK4=>?_
 refine wp_cut_mergeP (n8 (nn::nn::nn::nn::nn::nn::some 14::some 15::n8 (nn::nn::nn::nn::nn::[]))) (fun _ w'=>Mut [b+1+1] V w'/\w'.heap[b+1+1]?=some (cobj 31 ([(tBound H1).1]))/\(tBound H1).2=0) (fun ch w'=>ch=brk (fstE [(tBound H1).2])/\¬fstE [(tBound H1).2]=0/\Mut [b+1+1] V w') ?_ ?_ ?_
 ·intro Q2 hQ2 hP2
  refine wH (fun ch w'=>ch=brk (fstE [(tBound H1).2])/\¬fstE [(tBound H1).2]=0/\Mut [b+1+1] V w') (Re4 V b a H1) ?_ ?_ ?_ ?_
  ·exact ⟨Mut.start _ false _,fun _=>HBB.out,nB,nB,nB,nB⟩
  ·refine aC ?_ (aC ?_ (aC ?_ aN))
   ·intro L s w2 h hk hd hn K hK
    have kb:=kY h.mu HH (by omega)
    exact rs_load rfl (hk 2) (md_load kb HL1.out) (hK {h with e0:=rF})
   ·intro L s w2 h hk hd hn K hK
    have s14:=h.e0 hd.1
    go_simp
    refine (tay_bound H1 HL1.out _).mono ?_
    rintro e w3 ⟨⟨hz,rfl⟩ | ⟨hz,rfl⟩,hb⟩
    ·exact .inl ⟨_,rfl,hK {h with mu:=h.mu.step hb,kt_bb:=fun a=>bk hb (h.kt_bb a),kr_bb:=fun a=>bk hb (h.kr_bb a),e1:=rF,z1:=fun _=>hz}⟩
    ·exact .inr ⟨_,rfl,congrArg brk (by rw [fstE_1 (hz)]),(by rw [fstE_1 (hz)];exact hz),h.mu.step hb⟩
   ·intro L s w2 h hk hd hn K hK
    have kb:=h.kt_bb hn
    exact rs_store rfl (hk 3) (h.e1 hd.1) (sp_store (p:=0) kb (by simp) _) (hK {h with mu:=h.mu.put (List.Mem.head _) _,kt_bb:=nF,kr_bb:=fun _=>pH kb})
  ·intro L s w2 h hk hl
   refine cA ?_ (hQ2 s w2 (⟨h.mu,h.kr_bb (hl 2),h.z1 (hl 1)⟩))
   exact fq hk
  ·intro c s w2 hc
   exact hP2 _ _ _ hc
 rotate_left
 ·rintro e l'' w' ⟨rfl,hz,h2⟩
  have he:(tRelative a).2=fstE [(tBound H1).2]:=by
   have h:=hz
   rw [HP1.out]
   exact thenE_fst1 h
  rw [←he] at hz ⊢
  exact ⟨rfl,.inr ⟨hz,rfl⟩,(by rw [←HBW.out];exact (HM.out.stepM h2 (by have:=HBW.out;intro x hx;simp at hx;right;omega)).to0)⟩
 rintro s4 V ⟨h1,c_bb,z1⟩
 simp only [mergeL]
 obtain ⟨bb,hr0⟩:∃x,(tBound H1).1=x:=⟨_,rfl⟩
 try rw [hr0] at c_bb
 have HP2:=lh (show (tRelative a)=_ from by rw [HP1.out,thenE_ok z1,hr0])
 replace HM:=mB HM h1 (by have:=HBW.out;simp;omega)
 replace HA:=j1 h1 HA (by omega)
 replace HH:=j1 h1 HH (by omega)
 replace HBB:=lh c_bb
 replace HEE:=j1 h1 HEE (by omega)
 clear h1 c_bb z1 hr0
 refine HK4.out _ _ ?_
 refine wsk fun K5 HK5=>?_
 refine wp_cut_mergeP (n8 (n8 (some 16::some 17::some 18::some 19::some 20::some 21::some 22::some 23::some 24::some 25::some 26::some 27::some 28::[]))) (fun _ w'=>Mut [b+1,b+1+1,b+1+1+1] V w'/\w'.heap[b+1]?=some (cobj 34 H1)/\w'.heap[b+1+1]?=some (cobj 31 ([bb]))/\w'.heap[b+1+1+1]?=some (cobj 31 ([(sAdd (4294967296,4294967296) (sMul ((0,4294967296):Int×Int) bb).1).1]))/\(sMul ((0,4294967296):Int×Int) (bb)).2=0/\(sAdd (4294967296,4294967296) ((sMul ((0,4294967296):Int×Int) (bb)).1)).2=0) (fun ch w'=>ch=brk (fstE [(sMul ((0,4294967296):Int×Int) (bb)).2,(sAdd (4294967296,4294967296) ((sMul ((0,4294967296):Int×Int) (bb)).1)).2])/\¬fstE [(sMul ((0,4294967296):Int×Int) (bb)).2,(sAdd (4294967296,4294967296) ((sMul ((0,4294967296):Int×Int) (bb)).1)).2]=0/\Mut [b+1,b+1+1,b+1+1+1] V w') ?_ ?_ ?_
 ·intro Q2 hQ2 hP2
  refine wH (fun ch w'=>ch=brk (fstE [(sMul ((0,4294967296):Int×Int) (bb)).2,(sAdd (4294967296,4294967296) ((sMul ((0,4294967296):Int×Int) (bb)).1)).2])/\¬fstE [(sMul ((0,4294967296):Int×Int) (bb)).2,(sAdd (4294967296,4294967296) ((sMul ((0,4294967296):Int×Int) (bb)).1)).2]=0/\Mut [b+1,b+1+1,b+1+1+1] V w') (Re5 V b a H1 bb) ?_ ?_ ?_ ?_
  ·exact ⟨Mut.start _ true _,fun _=>HH.out,nB,fun _=>HBB.out,nB,fun _=>HEE.out,nB,nB,nB,nB,nB,nB,nB,nB,nB,nB,nB,nB,nB,nB,nB,nB,nB,nB,nB,nB,nB⟩
  ·refine aC ?_ (aC ?_ (aC ?_ (aC ?_ (aC ?_ (aC ?_ (aC ?_ (aC ?_ (aC ?_ (aC ?_ (aC ?_ (aC ?_ (aC ?_ (aC ?_ (aC ?_ (aC ?_ aN)))))))))))))))
   ·intro L s w2 h hk hd hn K hK
    have kb:=(h.kt_h (bF h.b13_0 hn))
    exact rs_load rfl (hk 2) (md_load kb HL1.out) (hK {h with e0:=rF,b13_0:=rF})
   ·intro L s w2 h hk hd hn K hK
    have kb:=(h.kt_bb (bF h.b14_1 hn))
    exact rs_load rfl (hk 3) (sp_load (p:=0) kb (by simp)) (hK {h with e1:=rF,b14_1:=rF})
   ·intro L s w2 h hk hd hn K hK
    go_simp
    refine (tm_point 4294967296 _).mono ?_
    rintro e w3 ⟨rfl,hb⟩
    exact .inl ⟨_,rfl,hK {h with mu:=h.mu.step hb,kt_h:=fun a=>bk hb (h.kt_h a),kr_h:=fun a=>bk hb (h.kr_h a),kt_bb:=fun a=>bk hb (h.kt_bb a),kr_bb:=fun a=>bk hb (h.kr_bb a),kt_ee:=fun a=>bk hb (h.kt_ee a),kr_ee:=fun a=>bk hb (h.kr_ee a),e2:=rF}⟩
   ·intro L s w2 h hk hd hn K hK
    go_simp
    exact hK {h with e3:=rF}
   ·intro L s w2 h hk hd hn K hK
    have kb:=(h.kt_bb (bF h.b14_4 hn))
    exact rs_load rfl (hk 3) (sp_load (p:=0) kb (by simp)) (hK {h with e4:=rF,b14_4:=rF})
   ·intro L s w2 h hk hd hn K hK
    have s19:=h.e3 hd.1
    have s20:=h.e4 hd.2.1
    go_simp
    refine (tm_mul ((0,4294967296):Int×Int) (bb) _).mono ?_
    rintro e w3 ⟨rfl,hb⟩
    exact .inl ⟨_,rfl,hK {h with mu:=h.mu.step hb,kt_h:=fun a=>bk hb (h.kt_h a),kr_h:=fun a=>bk hb (h.kr_h a),kt_bb:=fun a=>bk hb (h.kt_bb a),kr_bb:=fun a=>bk hb (h.kr_bb a),kt_ee:=fun a=>bk hb (h.kt_ee a),kr_ee:=fun a=>bk hb (h.kr_ee a),e5:=rF}⟩
   ·intro L s w2 h hk hd hn K hK
    exact rs_extract rfl (h.e5 hd.1) rfl (hK {h with e6:=rF})
   ·intro L s w2 h hk hd hn K hK
    exact rs_extract rfl (h.e5 hd.1) rfl (hK {h with e7:=rF})
   ·intro L s w2 h hk hd hn K hK
    have s22:=h.e6 hd.1
    have s23:=h.e7 hd.2.1
    go_simp
    refine (tm_must ((sMul ((0,4294967296):Int×Int) (bb)).1) ((sMul ((0,4294967296):Int×Int) (bb)).2) _).mono ?_
    rintro e w3 ⟨⟨hz,rfl⟩ | ⟨hz,rfl⟩,hb⟩
    ·exact .inl ⟨_,rfl,hK {h with mu:=h.mu.step hb,kt_h:=fun a=>bk hb (h.kt_h a),kr_h:=fun a=>bk hb (h.kr_h a),kt_bb:=fun a=>bk hb (h.kt_bb a),kr_bb:=fun a=>bk hb (h.kr_bb a),kt_ee:=fun a=>bk hb (h.kt_ee a),kr_ee:=fun a=>bk hb (h.kr_ee a),e8:=rF,z8:=fun _=>hz}⟩
    ·exact .inr ⟨_,rfl,congrArg brk (by rw [fstE_1 (hz)]),(by rw [fstE_1 (hz)];exact hz),h.mu.step hb⟩
   ·intro L s w2 h hk hd hn K hK
    have s18:=h.e2 hd.1
    have s24:=h.e8 hd.2.1
    go_simp
    refine (tm_add (4294967296,4294967296) ((sMul ((0,4294967296):Int×Int) (bb)).1) _).mono ?_
    rintro e w3 ⟨rfl,hb⟩
    exact .inl ⟨_,rfl,hK {h with mu:=h.mu.step hb,kt_h:=fun a=>bk hb (h.kt_h a),kr_h:=fun a=>bk hb (h.kr_h a),kt_bb:=fun a=>bk hb (h.kt_bb a),kr_bb:=fun a=>bk hb (h.kr_bb a),kt_ee:=fun a=>bk hb (h.kt_ee a),kr_ee:=fun a=>bk hb (h.kr_ee a),e9:=rF,q9_8:=fun _=>h.z8 hd.2.1}⟩
   ·intro L s w2 h hk hd hn K hK
    exact rs_extract rfl (h.e9 hd.1) rfl (hK {h with e10:=rF,q10_8:=fun _=>h.q9_8 hd.1})
   ·intro L s w2 h hk hd hn K hK
    exact rs_extract rfl (h.e9 hd.1) rfl (hK {h with e11:=rF})
   ·intro L s w2 h hk hd hn K hK
    have s26:=h.e10 hd.1
    have s27:=h.e11 hd.2.1
    go_simp
    refine (tm_must ((sAdd (4294967296,4294967296) ((sMul ((0,4294967296):Int×Int) (bb)).1)).1) ((sAdd (4294967296,4294967296) ((sMul ((0,4294967296):Int×Int) (bb)).1)).2) _).mono ?_
    rintro e w3 ⟨⟨hz,rfl⟩ | ⟨hz,rfl⟩,hb⟩
    ·exact .inl ⟨_,rfl,hK {h with mu:=h.mu.step hb,kt_h:=fun a=>bk hb (h.kt_h a),kr_h:=fun a=>bk hb (h.kr_h a),kt_bb:=fun a=>bk hb (h.kt_bb a),kr_bb:=fun a=>bk hb (h.kr_bb a),kt_ee:=fun a=>bk hb (h.kt_ee a),kr_ee:=fun a=>bk hb (h.kr_ee a),e12:=rF,z12:=fun _=>hz}⟩
    ·exact .inr ⟨_,rfl,congrArg brk (by rw [fstE_0 (h.q10_8 hd.1),fstE_1 (hz)]),(by rw [fstE_0 (h.q10_8 hd.1),fstE_1 (hz)];exact hz),h.mu.step hb⟩
   ·intro L s w2 h hk hd hn K hK
    have kb:=h.kt_h hn
    exact rs_store rfl (hk 2) (h.e0 hd.1) (md_store kb HL1.out _ HL1.out) (hK {h with mu:=h.mu.put (List.Mem.head _) _,kt_bb:=fun a=>pO (by omega) (h.kt_bb a),kr_bb:=fun a=>pO (by omega) (h.kr_bb a),kt_ee:=fun a=>pO (by omega) (h.kt_ee a),kr_ee:=fun a=>pO (by omega) (h.kr_ee a),kt_h:=nF,kr_h:=fun _=>pH kb,b13_0:=fun _=>hd.1})
   ·intro L s w2 h hk hd hn K hK
    have kb:=h.kt_bb hn
    exact rs_store rfl (hk 3) (h.e1 hd.1) (sp_store (p:=0) kb (by simp) bb) (hK {h with mu:=h.mu.put (List.Mem.tail _ (List.Mem.head _)) _,kt_h:=fun a=>pO (by omega) (h.kt_h a),kr_h:=fun a=>pO (by omega) (h.kr_h a),kt_ee:=fun a=>pO (by omega) (h.kt_ee a),kr_ee:=fun a=>pO (by omega) (h.kr_ee a),kt_bb:=nF,kr_bb:=fun _=>pH kb,b14_1:=fun _=>hd.1,b14_4:=fun _=>hd.2.2.2.2.2.2.1})
   ·intro L s w2 h hk hd hn K hK
    have kb:=h.kt_ee hn
    exact rs_store rfl (hk 4) (h.e12 hd.1) (sp_store (p:=0) kb (by simp) ((sAdd (4294967296,4294967296) ((sMul ((0,4294967296):Int×Int) (bb)).1)).1)) (hK {h with mu:=h.mu.put (List.Mem.tail _ (List.Mem.tail _ (List.Mem.head _))) _,kt_h:=fun a=>pO (by omega) (h.kt_h a),kr_h:=fun a=>pO (by omega) (h.kr_h a),kt_bb:=fun a=>pO (by omega) (h.kt_bb a),kr_bb:=fun a=>pO (by omega) (h.kr_bb a),kt_ee:=nF,kr_ee:=fun _=>pH kb})
  ·intro L s w2 h hk hl
   refine cA ?_ (hQ2 s w2 (⟨h.mu,h.kr_h (hl 13),h.kr_bb (hl 14),h.kr_ee (hl 15),h.z8 (hl 8),h.z12 (hl 12)⟩))
   exact fq hk
  ·intro c s w2 hc
   exact hP2 _ _ _ hc
 rotate_left
 ·rintro e l'' w' ⟨rfl,hz,h2⟩
  have he:(tRelative a).2=fstE [(sMul ((0,4294967296):Int×Int) (bb)).2,(sAdd (4294967296,4294967296) ((sMul ((0,4294967296):Int×Int) (bb)).1)).2]:=by
   have h:=hz
   rw [HP2.out]
   exact thenE_fstC h fun _ h=>thenE_fst1 h
  rw [←he] at hz ⊢
  exact ⟨rfl,.inr ⟨hz,rfl⟩,(by rw [←HBW.out];exact (HM.out.stepM h2 (by have:=HBW.out;intro x hx;simp at hx;right;omega)).to0)⟩
 rintro s5 V ⟨h1,c_h,c_bb,c_ee,z1,z2⟩
 simp only [mergeL]
 obtain ⟨ee,hr0⟩:∃x,(sAdd (4294967296,4294967296) (sMul ((0,4294967296):Int×Int) bb).1).1=x:=⟨_,rfl⟩
 try rw [hr0] at c_h
 try rw [hr0] at c_bb
 try rw [hr0] at c_ee
 have HP3:=lh (show (tRelative a)=_ from by rw [HP2.out,thenE_ok z1,thenE_ok z2,hr0])
 replace HM:=mB HM h1 (by have:=HBW.out;simp;omega)
 replace HA:=lh ((h1.same _ (lt_of_block HA.out) (notin3 (by omega) (by omega) (by omega))).trans HA.out)
 replace HH:=lh c_h
 replace HBB:=lh c_bb
 replace HEE:=lh c_ee
 clear h1 c_h c_bb c_ee z1 z2 hr0
 refine HK5.out _ _ ?_
 refine wp_ret ?_
 exact bodyPost_ret (v:=r3val (H1,bb,ee)) (res_three Tryz.results39 rfl rfl rfl (md_loadVar HH.out HL1.out) (sp_loadVar HBB.out) (sp_loadVar HEE.out)) rfl ⟨.inl ⟨by rw [HP3.out],by rw [HP3.out]⟩,by rw [←HBW.out];exact HM.out.to0⟩
end Go.Proofs.YthhkcfpljgdnhaaGreat

/- Package taylor: series. Printed by wip/genTJ.py. -/
namespace Mnc
open Go
theorem thenE_ind {α β:Type} {z:β} {x:α×Int} {f:α->β×Int} (p:β->Prop) (h:(thenE z x f).2=0) (hp:∀v,x=(v,0)->(f v).2=0->p (f v).1):p (thenE z x f).1:=by
 by_cases h1:x.2=0
 ·rw [thenE_ok h1] at h ⊢
  exact hp x.1 (Prod.ext rfl h1) h
 ·rw [thenE_bad h1] at h
  exact absurd h h1
theorem tStep_len {a b:List (Int×Int)} {i j k l p q:Nat} {S:List (Int×Int)} (hS:S.length=22) (h:(tStep a b i j k l p q S).2=0):(tStep a b i j k l p q S).1.length=22:=by
 unfold tStep at h ⊢
 refine thenE_ind (fun x=>x.length=22) h fun v _ h=>?_
 by_cases h5:5<i+j+k+l
 ·simp only [if_pos h5] at h ⊢
  refine thenE_ind (fun x=>x.length=22) h fun v _ h=>?_
  refine thenE_ind (fun x=>x.length=22) h fun v _ h=>?_
  simp [hS]
 ·simp only [if_neg h5] at h ⊢
  refine thenE_ind (fun x=>x.length=22) h fun v _ h=>?_
  simp [hS]
theorem tInner_len {a b:List (Int×Int)} {i j p:Nat}:∀{l:List (Nat×Nat)} {q:Nat} {S:List (Int×Int)},S.length=22->(tInner a b i j p l q S).2=0->(tInner a b i j p l q S).1.length=22:=by
 intro l
 induction l with
 | nil=>intro q S hS _;exact hS
 | cons x l ih =>
  obtain ⟨k,m⟩:=x
  intro q S hS h
  rw [tInner] at h ⊢
  exact thenE_ind (fun x=>x.length=22) h fun v hv h=>ih (by have:=tStep_len hS (by rw [hv]);rw [hv] at this;exact this) h
theorem tOuter_len {a b:List (Int×Int)}:∀{l:List (Nat×Nat)} {p:Nat} {S:List (Int×Int)},S.length=22->(tOuter a b l p S).2=0->(tOuter a b l p S).1.length=22:=by
 intro l
 induction l with
 | nil=>intro q S hS _;exact hS
 | cons x l ih =>
  obtain ⟨k,m⟩:=x
  intro q S hS h
  rw [tOuter] at h ⊢
  exact thenE_ind (fun x=>x.length=22) h fun v hv h=>ih (by have:=tInner_len hS (by rw [hv]);rw [hv] at this;exact this) h
theorem tGrow_len {S:List (Int×Int)} {x y:Int×Int} (hS:S.length=22) (h:(tGrow S x y).2=0):(tGrow S x y).1.length=22:=by
 unfold tGrow at h ⊢
 refine thenE_ind (fun x=>x.length=22) h fun v _ h=>?_
 refine thenE_ind (fun x=>x.length=22) h fun v _ h=>?_
 simp [hS]
theorem tProduct_len {a b:List (Int×Int)} (h:(tProduct a b).2=0):(tProduct a b).1.length=22:=by
 unfold tProduct at h ⊢
 refine thenE_ind (fun x=>x.length=22) h fun S hS h=>?_
 have h1:S.length=22:=by have:=tOuter_len (a:=a) (b:=b) (l:=tPairs) (p:=0) (S:=List.replicate 22 (0,0)) (by simp) (by rw [hS]);rw [hS] at this;exact this
 refine thenE_ind (fun x=>x.length=22) h fun v _ h=>?_
 refine thenE_ind (fun x=>x.length=22) h fun S2 hS2 h=>?_
 have h2:S2.length=22:=by have:=tGrow_len h1 (by rw [hS2]);rw [hS2] at this;exact this
 refine thenE_ind (fun x=>x.length=22) h fun v _ h=>?_
 refine thenE_ind (fun x=>x.length=22) h fun S3 hS3 h=>?_
 have h3:S3.length=22:=by have:=tGrow_len h2 (by rw [hS3]);rw [hS3] at this;exact this
 exact tGrow_len h3 h
theorem tSeries_len {h:List (Int×Int)}:∀{l:List Int} {m:List (Int×Int)},m.length=22->(tSeries h l m).2=0->(tSeries h l m).1.length=22:=by
 intro l
 induction l with
 | nil=>intro m hm _;exact hm
 | cons s l ih =>
  intro m hm hz
  rw [tSeries] at hz ⊢
  refine thenE_ind (fun x=>x.length=22) hz fun v hv hz=>?_
  have h1:v.length=22:=by have:=tProduct_len (a:=h) (b:=m) (by rw [hv]);rw [hv] at this;exact this
  exact thenE_ind (fun x=>x.length=22) hz fun c hc hz=>ih (by simpa using h1) hz
end Mnc
namespace Go.Proofs.YthhkcfpljgdnhaaGreat
open Go.RowKit Mnc
attribute [local go_sem] RunSP_value RunSP_skip RunSP_enter evS_tmp evS_const evS_global evS_func
structure Se5 (wr:World) (b:Nat) (hh m:List (Int×Int)) (L:Nat->Bool) (s:Nat->Value) (w:World):Prop where
 mu:Mut [b+1+1] wr w
 kt_m:L 3=false->w.heap[b+1+1]?=some (cobj 34 m)
 kr_m:L 3->w.heap[b+1+1]?=some (cobj 34 ((tProduct hh m).1))
 e0:L 0->s 14=mval hh
 e1:L 1->s 15=mval m
 z2:L 2->(tProduct hh m).2=0
 e2:L 2->s 16=mval ((tProduct hh m).1)
 b3_1:L 3->L 1
structure Sf6 (V:World) (b:Nat) (hh m:List (Int×Int)) (sk:Int) (L:Nat->Bool) (s:Nat->Value) (w:World):Prop where
 mu:Mut [b+1+1] V w
 kt_m:L 11=false->w.heap[b+1+1]?=some (cobj 34 m)
 kr_m:L 11->w.heap[b+1+1]?=some (cobj 34 (m.set 0 (sAdd (tAt m 0) (sk,sk)).1))
 e0:L 0->s 17=.pointer (some ⟨b+1+1,0,none⟩)
 e1:L 1->s 18=.pointer (some ⟨b+1+1,0*2,none⟩)
 e2:L 2->s 19=sval (tAt m 0)
 e3:L 3->s 20=.int .i64 sk
 e4:L 4->s 21=sval (sk,sk)
 e5:L 5->s 22=.tuple #[sval (sAdd (tAt m 0) (sk,sk)).1,.int .i64 (sAdd (tAt m 0) (sk,sk)).2]
 e6:L 6->s 23=sval ((sAdd (tAt m 0) (sk,sk)).1)
 e7:L 7->s 24=.int .i64 ((sAdd (tAt m 0) (sk,sk)).2)
 z8:L 8->(sAdd (tAt m 0) (sk,sk)).2=0
 e8:L 8->s 25=sval ((sAdd (tAt m 0) (sk,sk)).1)
 e9:L 9->s 26=.pointer (some ⟨b+1+1,0,none⟩)
 e10:L 10->s 27=.pointer (some ⟨b+1+1,0*2,none⟩)
 b11_2:L 11->L 2
structure Se6 (wr:World) (b:Nat) (hh m:List (Int×Int)) (sk:Int) (L:Nat->Bool) (s:Nat->Value) (w:World):Prop where
 mu:Mut [b+1+1] wr w
 kt_m:L 11=false->w.heap[b+1+1]?=some (cobj 34 m)
 kr_m:L 11->w.heap[b+1+1]?=some (cobj 34 (m.set 0 (sAdd (tAt m 0) (sk,sk)).1))
 e0:L 0->s 17=.pointer (some ⟨b+1+1,0,none⟩)
 e1:L 1->s 18=.pointer (some ⟨b+1+1,0*2,none⟩)
 e2:L 2->s 19=sval (tAt m 0)
 e3:L 3->s 20=.int .i64 sk
 e4:L 4->s 21=sval (sk,sk)
 e5:L 5->s 22=.tuple #[sval (sAdd (tAt m 0) (sk,sk)).1,.int .i64 (sAdd (tAt m 0) (sk,sk)).2]
 e6:L 6->s 23=sval ((sAdd (tAt m 0) (sk,sk)).1)
 e7:L 7->s 24=.int .i64 ((sAdd (tAt m 0) (sk,sk)).2)
 z8:L 8->(sAdd (tAt m 0) (sk,sk)).2=0
 e8:L 8->s 25=sval ((sAdd (tAt m 0) (sk,sk)).1)
 e9:L 9->s 26=.pointer (some ⟨b+1+1,0,none⟩)
 e10:L 10->s 27=.pointer (some ⟨b+1+1,0*2,none⟩)
 b11_2:L 11->L 2
structure Se8 (wr:World) (b:Nat) (hh m:List (Int×Int)) (L:Nat->Bool) (s:Nat->Value) (w:World):Prop where
 mu:Mut [b+1+1] wr w
 kt_m:L 1=false->w.heap[b+1+1]?=some (cobj 34 m)
 kr_m:L 1->w.heap[b+1+1]?=some (cobj 34 m)
 e0:L 0->s 29=mval m
 b1_0:L 1->L 0
theorem tay_series (hh:List (Int×Int)) (ha:hh.length=22) (n0 n1 n2 n3 n4 n5:Int) (hz0:sAdd (0,0) (n0,n0)=((n0,n0),0)) (w:World) :
  Calls Tryz.prog 40 #[mval hh,.agg #[.int .i64 n0,.int .i64 n1,.int .i64 n2,.int .i64 n3,.int .i64 n4,.int .i64 n5]] w fun e w'=>Ends mval (tSeries hh [n1,n2,n3,n4,n5] (zeroM.set 0 (n0,n0))) e/\Below w.heap.size w w':=by
 have HL:=lh ha
 have HZ0:=lh hz0
 have HIX:=lh (show ∀k:Nat,k<6->∀W,(Instr.index 74 (.agg #[.int .i64 n0,.int .i64 n1,.int .i64 n2,.int .i64 n3,.int .i64 n4,.int .i64 n5]) (.int .i64 (k:Int))).run Tryz.prog W=.ok (.int .i64 ([n0,n1,n2,n3,n4,n5].getD k 0)) W from by
  intro k hk W
  rcases k with _ | _ | _ | _ | _ | _ | k<;>first | omega | kernel_rfl)
 obtain ⟨tgt,htgt⟩:∃t,tSeries hh [n1,n2,n3,n4,n5] (zeroM.set 0 (n0,n0))=t:=⟨_,rfl⟩
 have HT:=lh htgt
 rw [htgt]
 clear ha hz0 htgt
 go_enter Tryz.func40,Tryz.ntmps40
 go_wp2_with fail
 rename_i x1 cs1 hc1
 obtain rfl:(mc hh).toArray=cs1:=Value.agg.inj hc1
 clear hc1
 obtain ⟨b,hb⟩:∃b,w.heap.size=b:=⟨_,rfl⟩
 refine wp_world (fun W=>Mut [] w W/\b+3<=W.heap.size/\W.heap[b]?=some (cobj 34 hh)/\W.heap[b+1+1]?=some (cobj 34 zeroM)) ?_
  (by
   rw [←hb]
   exact ⟨(((Mut.refl _ _).alloc _).alloc _).alloc _,by simp,heap_up _ (heap_up _ (heap_at _ rfl)),heap_at (cobj 34 zeroM) (by simp)⟩)
 rintro W1 ⟨hm,hs,hA,hO⟩
 rw [hb]
 rename_i Q' K hK
 have HK:=lh hK
 have HBW:=lh hb
 have HS4:=lh hs
 have HA1:=lh hA
 have HM1:=lh hm
 clear hK hm hs hA hb
 go_loopw [8] (fun x wr=>∃k:Nat,k<=6/\x=.int .i64 k/\Hid (∃m:List (Int×Int),m.length=22/\Mut [b+1+1] W1 wr/\wr.heap[b+1+1]?=some (cobj 34 m)/\(k=0->m=zeroM)/\(1<=k->tSeries hh ([n0,n1,n2,n3,n4,n5].drop k) m=tgt))) (fun x _=>6-(intOf x).toNat)
 case atStart=>exact ⟨0,by omega,rfl,lh ⟨zeroM,rfl,Mut.refl _ _,hO,fun _=>rfl,fun h=>by omega⟩⟩
 case round =>
  clear hO
  obtain ⟨k,hn,rfl,HG⟩:=hrel
  obtain ⟨m,hol,hmu,ho,hg0,hgo⟩:=HG.out
  have hsz:=HS4.out
  have HML:=lh hol
  have HMM:=lh ho
  have HMU:=lh hmu
  have HM:=lh ((HM1.out.up (S':=[b+1+1]) (by simp)).trans hmu)
  have HG0:=lh hg0
  have HGO:=lh hgo
  have HH:=lh ((hmu.same _ (lt_of_block HA1.out) (notin1 (by omega))).trans HA1.out)
  clear HG hol hmu ho hgo hg0 hsz
  rcases Nat.lt_or_ge k 6 with hk | hk
  ·have HKL:=lh hk
   have hix:=HIX.out k hk
   obtain ⟨sk,hsk⟩:∃s,[n0,n1,n2,n3,n4,n5].getD k 0=s:=⟨_,rfl⟩
   rw [hsk] at hix
   have HSK:=lh hsk
   have hd:decide ((k:Int)<6)=true:=by simp;omega
   have hlt:(k:Int)<6:=by omega
   have hk0:(0:Int)<=k:=by omega
   clear hn hk hsk
   refine wsk fun K1 HK1=>?_
   go_wp2_with fail
   refine HK1.out _ _ ?_
   refine wsk fun K2 HK2=>?_
   go_wp2_with fail
   refine HK2.out _ _ ?_
   refine wsk fun K3 HK3=>?_
   refine wp_block ?_
   refine wsk fun K4 HK4=>?_
   go_wp2_with fail
   refine HK4.out _ _ ?_
   refine wsk fun K5 HK5=>?_
   refine wsk fun K6 HK6=>?_
   go_wp2_with fail
   refine HK6.out _ _ ?_
   by_cases hkz:k=0
   ·have hd0:decide ((0:Int)<(k:Int))=false:=by simp;omega
    go_wp2_with fail
    refine HK5.out _ _ ?_
    have HKZ:=lh hkz
    clear hkz hd0
    refine wp_cut_mergeP (n8 (n8 (nn::some 17::some 18::some 19::some 20::some 21::some 22::some 23::some 24::some 25::some 26::some 27::nn::nn::[]))) (fun _ w'=>Mut [b+1+1] wr w'/\w'.heap[b+1+1]?=some (cobj 34 (m.set 0 (sAdd (tAt m 0) (sk,sk)).1))/\(sAdd (tAt m 0) (sk,sk)).2=0) (fun ch w'=>ch=brk (fstE [(sAdd (tAt m 0) (sk,sk)).2])/\¬fstE [(sAdd (tAt m 0) (sk,sk)).2]=0/\Mut [b+1+1] wr w') ?_ ?_ ?_
    ·intro Q2 hQ2 hP2
     refine wH (fun ch w'=>ch=brk (fstE [(sAdd (tAt m 0) (sk,sk)).2])/\¬fstE [(sAdd (tAt m 0) (sk,sk)).2]=0/\Mut [b+1+1] wr w') (Se6 wr b hh m sk) ?_ ?_ ?_ ?_
     ·exact ⟨Mut.start _ true _,fun _=>HMM.out,nB,nB,nB,nB,nB,nB,nB,nB,nB,nB,nB,nB,nB,nB⟩
     ·refine aC ?_ (aC ?_ (aC ?_ (aC ?_ (aC ?_ (aC ?_ (aC ?_ (aC ?_ (aC ?_ (aC ?_ (aC ?_ (aC ?_ aN)))))))))))
      ·intro L s w2 h hk hd hn K hK
       exact rs_field rfl (hk 4) (fl_model0 _ _) (hK {h with e0:=rF})
      ·intro L s w2 h hk hd hn K hK
       exact rs_index rfl (h.e0 hd.1) rfl (ix_model _ 0 (by omega)) (hK {h with e1:=rF})
      ·intro L s w2 h hk hd hn K hK
       have kb:=(h.kt_m (bF h.b11_2 hn))
       exact rs_load rfl (h.e1 hd.1) (sp_load (p:=0) kb (by have:=(HML.out:m.length=22);omega)) (hK {h with e2:=rF,b11_2:=rF})
      ·intro L s w2 h hk hd hn K hK
       exact rs_move rfl (hk 6) (hK {h with e3:=rF})
      ·intro L s w2 h hk hd hn K hK
       have s20:=h.e3 hd.1
       go_simp
       refine (tm_point sk _).mono ?_
       rintro e w3 ⟨rfl,hb⟩
       exact .inl ⟨_,rfl,hK {h with mu:=h.mu.step hb,kt_m:=fun a=>bk hb (h.kt_m a),kr_m:=fun a=>bk hb (h.kr_m a),e4:=rF}⟩
      ·intro L s w2 h hk hd hn K hK
       have s19:=h.e2 hd.1
       have s21:=h.e4 hd.2.1
       go_simp
       refine (tm_add (tAt m 0) (sk,sk) _).mono ?_
       rintro e w3 ⟨rfl,hb⟩
       exact .inl ⟨_,rfl,hK {h with mu:=h.mu.step hb,kt_m:=fun a=>bk hb (h.kt_m a),kr_m:=fun a=>bk hb (h.kr_m a),e5:=rF}⟩
      ·intro L s w2 h hk hd hn K hK
       exact rs_extract rfl (h.e5 hd.1) rfl (hK {h with e6:=rF})
      ·intro L s w2 h hk hd hn K hK
       exact rs_extract rfl (h.e5 hd.1) rfl (hK {h with e7:=rF})
      ·intro L s w2 h hk hd hn K hK
       have s23:=h.e6 hd.1
       have s24:=h.e7 hd.2.1
       go_simp
       refine (tm_must ((sAdd (tAt m 0) (sk,sk)).1) ((sAdd (tAt m 0) (sk,sk)).2) _).mono ?_
       rintro e w3 ⟨⟨hz,rfl⟩ | ⟨hz,rfl⟩,hb⟩
       ·exact .inl ⟨_,rfl,hK {h with mu:=h.mu.step hb,kt_m:=fun a=>bk hb (h.kt_m a),kr_m:=fun a=>bk hb (h.kr_m a),e8:=rF,z8:=fun _=>hz}⟩
       ·exact .inr ⟨_,rfl,congrArg brk (by rw [fstE_1 (hz)]),(by rw [fstE_1 (hz)];exact hz),h.mu.step hb⟩
      ·intro L s w2 h hk hd hn K hK
       exact rs_field rfl (hk 4) (fl_model0 _ _) (hK {h with e9:=rF})
      ·intro L s w2 h hk hd hn K hK
       exact rs_index rfl (h.e9 hd.1) rfl (ix_model _ 0 (by omega)) (hK {h with e10:=rF})
      ·intro L s w2 h hk hd hn K hK
       have kb:=h.kt_m hn
       exact rs_store rfl (h.e10 hd.1) (h.e8 hd.2.1) (sp_store (p:=0) kb (by have:=(HML.out:m.length=22);omega) _) (hK {h with mu:=h.mu.put (List.Mem.head _) _,kt_m:=nF,kr_m:=fun _=>pH kb,b11_2:=fun _=>hd.2.2.2.2.2.1})
     ·intro L s w2 h hk hl
      refine cA ?_ (hQ2 s w2 (⟨h.mu,h.kr_m (hl 11),h.z8 (hl 8)⟩))
      exact fq hk
     ·intro c s w2 hc
      exact hP2 _ _ _ hc
    ·rintro s6 VV ⟨h1,h2,z1⟩
     simp only [mergeL]
     have HE:=lh (show ∃m':List (Int×Int),m'.length=22/\Mut [b+1+1] W1 VV/\VV.heap[b+1+1]?=some (cobj 34 m')/\(k+1=0->m'=zeroM)/\(1<=k+1->tSeries hh ([n0,n1,n2,n3,n4,n5].drop (k+1)) m'=tgt) from
      ⟨_,by rw [List.length_set];exact HML.out,HMU.out.trans h1,h2,fun h=>by omega,fun _=>by
       have hm:=HG0.out HKZ.out
       have hs:=HSK.out
       rw [HKZ.out] at hs
       rw [HKZ.out,hm]
       have hs':n0=sk:=hs
       rw [←hs',show tAt zeroM 0=(0,0) from rfl,HZ0.out]
       exact HT.out⟩)
     clear h1 h2 z1
     refine HK3.out _ _ ?_
     go_wp2_with fail
     go_roundw
     case rel=>first | exact ⟨k+1,by have:=HKL.out;omega,by go_num,HE⟩ | ((repeat apply Exists.intro);exact ⟨⟨k+1,by have:=HKL.out;omega,by go_num,HE⟩,rfl⟩)
     case measure=>simp [intOf];omega
    ·rintro e l'' w' ⟨rfl,hz,h2⟩
     rw [fstE_one] at hz ⊢
     have hm:=HG0.out HKZ.out
     have hs:=HSK.out
     rw [HKZ.out] at hs
     have hs':n0=sk:=hs
     rw [hm,←hs',show tAt zeroM 0=(0,0) from rfl,HZ0.out] at hz
     exact absurd rfl hz
   ·have HKZ:=lh hkz
    have hgt:(0:Int)<(k:Int):=by omega
    have hdg:decide ((0:Int)<(k:Int))=true:=by simp;omega
    clear hkz
    refine wp_cond_true (by first | rfl | exact congrArg Value.bool hdg | exact congrArg Value.bool (decide_eq_true (show 0<k by omega))) ?_
    have HLEN:=lh (show (tProduct hh m).2=0->(tProduct hh m).1.length=22 from tProduct_len)
    have HDR:=lh (show [n0,n1,n2,n3,n4,n5].drop k=sk::[n0,n1,n2,n3,n4,n5].drop (k+1) from by
     have h1:k<6:=HKL.out
     have h2:=HSK.out
     rw [←h2,List.drop_eq_getElem_cons (by simpa using h1)]
     simp [List.getD,List.getElem?_eq_getElem (show k<[n0,n1,n2,n3,n4,n5].length by simpa using h1)])
    replace HGO:=lh (show tgt=thenE [] (tProduct hh m) fun m=>thenE [] (sAdd (tAt m 0) (sk,sk)) fun c=>tSeries hh ([n0,n1,n2,n3,n4,n5].drop (k+1)) (m.set 0 c) from by
     have hg:=HGO.out (by have:=HKZ.out;omega)
     rw [HDR.out,tSeries] at hg
     exact hg.symm)
    refine wp_cut_mergeP (n8 (nn::nn::nn::nn::nn::nn::some 14::some 15::some 16::n8 (nn::nn::nn::nn::nn::[]))) (fun _ w'=>Mut [b+1+1] wr w'/\w'.heap[b+1+1]?=some (cobj 34 ((tProduct hh m).1))/\(tProduct hh m).2=0) (fun ch w'=>ch=brk (fstE [(tProduct hh m).2])/\¬fstE [(tProduct hh m).2]=0/\Mut [b+1+1] wr w') ?_ ?_ ?_
    ·intro Q2 hQ2 hP2
     refine wH (fun ch w'=>ch=brk (fstE [(tProduct hh m).2])/\¬fstE [(tProduct hh m).2]=0/\Mut [b+1+1] wr w') (Se5 wr b hh m) ?_ ?_ ?_ ?_
     ·exact ⟨Mut.start _ false _,fun _=>HMM.out,nB,nB,nB,nB,nB,nB⟩
     ·refine aC ?_ (aC ?_ (aC ?_ (aC ?_ aN)))
      ·intro L s w2 h hk hd hn K hK
       have kb:=kY h.mu HH (by omega)
       exact rs_load rfl (hk 2) (md_load kb HL.out) (hK {h with e0:=rF})
      ·intro L s w2 h hk hd hn K hK
       have kb:=(h.kt_m (bF h.b3_1 hn))
       exact rs_load rfl (hk 4) (md_load kb HML.out) (hK {h with e1:=rF,b3_1:=rF})
      ·intro L s w2 h hk hd hn K hK
       have s14:=h.e0 hd.1
       have s15:=h.e1 hd.2.1
       go_simp
       refine (tay_product hh m HL.out HML.out _).mono ?_
       rintro e w3 ⟨⟨hz,rfl⟩ | ⟨hz,rfl⟩,hb⟩
       ·exact .inl ⟨_,rfl,hK {h with mu:=h.mu.step hb,kt_m:=fun a=>bk hb (h.kt_m a),kr_m:=fun a=>bk hb (h.kr_m a),e2:=rF,z2:=fun _=>hz}⟩
       ·exact .inr ⟨_,rfl,congrArg brk (by rw [fstE_1 (hz)]),(by rw [fstE_1 (hz)];exact hz),h.mu.step hb⟩
      ·intro L s w2 h hk hd hn K hK
       have kb:=h.kt_m hn
       exact rs_store rfl (hk 4) (h.e2 hd.1) (md_store kb HML.out _ (HLEN.out (h.z2 hd.1))) (hK {h with mu:=h.mu.put (List.Mem.head _) _,kt_m:=nF,kr_m:=fun _=>pH kb,b3_1:=fun _=>hd.2.2.2.1})
     ·intro L s w2 h hk hl
      refine cA ?_ (hQ2 s w2 (⟨h.mu,h.kr_m (hl 3),h.z2 (hl 2)⟩))
      exact fq hk
     ·intro c s w2 hc
      exact hP2 _ _ _ hc
    rotate_left
    ·rintro e l'' w' ⟨rfl,hz,h2⟩
     rw [fstE_one] at hz ⊢
     have he:tgt.2=(tProduct hh m).2:=by rw [HGO.out,thenE_bad hz]
     rw [←he] at hz ⊢
     exact ⟨rfl,.inr ⟨hz,rfl⟩,by have hX:=(HM.out.trans h2).below (Nat.le_refl _) (by have:=HBW.out;intro x hx;simp at hx;omega);first | exact hX | (rw [HBW.out] at hX;exact hX)⟩
    rintro s5 V ⟨h1,h2,z1⟩
    simp only [mergeL]
    have HP:=lh (show tgt=_ from by rw [HGO.out,thenE_ok z1])
    replace HML:=lh (HLEN.out z1)
    generalize (tProduct hh m).1=m at *
    replace HMM:=lh h2
    replace HMU:=lh (HMU.out.trans h1)
    replace HM:=lh (HM.out.trans h1)
    replace HH:=j1 h1 HH (by omega)
    clear h1 h2 z1
    refine HK5.out _ _ ?_
    refine wp_cut_mergeP (n8 (n8 (nn::some 17::some 18::some 19::some 20::some 21::some 22::some 23::some 24::some 25::some 26::some 27::nn::nn::[]))) (fun _ w'=>Mut [b+1+1] V w'/\w'.heap[b+1+1]?=some (cobj 34 (m.set 0 (sAdd (tAt m 0) (sk,sk)).1))/\(sAdd (tAt m 0) (sk,sk)).2=0) (fun ch w'=>ch=brk (fstE [(sAdd (tAt m 0) (sk,sk)).2])/\¬fstE [(sAdd (tAt m 0) (sk,sk)).2]=0/\Mut [b+1+1] V w') ?_ ?_ ?_
    ·intro Q2 hQ2 hP2
     refine wH (fun ch w'=>ch=brk (fstE [(sAdd (tAt m 0) (sk,sk)).2])/\¬fstE [(sAdd (tAt m 0) (sk,sk)).2]=0/\Mut [b+1+1] V w') (Sf6 V b hh m sk) ?_ ?_ ?_ ?_
     ·exact ⟨Mut.start _ true _,fun _=>HMM.out,nB,nB,nB,nB,nB,nB,nB,nB,nB,nB,nB,nB,nB,nB⟩
     ·refine aC ?_ (aC ?_ (aC ?_ (aC ?_ (aC ?_ (aC ?_ (aC ?_ (aC ?_ (aC ?_ (aC ?_ (aC ?_ (aC ?_ aN)))))))))))
      ·intro L s w2 h hk hd hn K hK
       exact rs_field rfl (hk 4) (fl_model0 _ _) (hK {h with e0:=rF})
      ·intro L s w2 h hk hd hn K hK
       exact rs_index rfl (h.e0 hd.1) rfl (ix_model _ 0 (by omega)) (hK {h with e1:=rF})
      ·intro L s w2 h hk hd hn K hK
       have kb:=(h.kt_m (bF h.b11_2 hn))
       exact rs_load rfl (h.e1 hd.1) (sp_load (p:=0) kb (by have:=(HML.out:m.length=22);omega)) (hK {h with e2:=rF,b11_2:=rF})
      ·intro L s w2 h hk hd hn K hK
       exact rs_move rfl (hk 6) (hK {h with e3:=rF})
      ·intro L s w2 h hk hd hn K hK
       have s20:=h.e3 hd.1
       go_simp
       refine (tm_point sk _).mono ?_
       rintro e w3 ⟨rfl,hb⟩
       exact .inl ⟨_,rfl,hK {h with mu:=h.mu.step hb,kt_m:=fun a=>bk hb (h.kt_m a),kr_m:=fun a=>bk hb (h.kr_m a),e4:=rF}⟩
      ·intro L s w2 h hk hd hn K hK
       have s19:=h.e2 hd.1
       have s21:=h.e4 hd.2.1
       go_simp
       refine (tm_add (tAt m 0) (sk,sk) _).mono ?_
       rintro e w3 ⟨rfl,hb⟩
       exact .inl ⟨_,rfl,hK {h with mu:=h.mu.step hb,kt_m:=fun a=>bk hb (h.kt_m a),kr_m:=fun a=>bk hb (h.kr_m a),e5:=rF}⟩
      ·intro L s w2 h hk hd hn K hK
       exact rs_extract rfl (h.e5 hd.1) rfl (hK {h with e6:=rF})
      ·intro L s w2 h hk hd hn K hK
       exact rs_extract rfl (h.e5 hd.1) rfl (hK {h with e7:=rF})
      ·intro L s w2 h hk hd hn K hK
       have s23:=h.e6 hd.1
       have s24:=h.e7 hd.2.1
       go_simp
       refine (tm_must ((sAdd (tAt m 0) (sk,sk)).1) ((sAdd (tAt m 0) (sk,sk)).2) _).mono ?_
       rintro e w3 ⟨⟨hz,rfl⟩ | ⟨hz,rfl⟩,hb⟩
       ·exact .inl ⟨_,rfl,hK {h with mu:=h.mu.step hb,kt_m:=fun a=>bk hb (h.kt_m a),kr_m:=fun a=>bk hb (h.kr_m a),e8:=rF,z8:=fun _=>hz}⟩
       ·exact .inr ⟨_,rfl,congrArg brk (by rw [fstE_1 (hz)]),(by rw [fstE_1 (hz)];exact hz),h.mu.step hb⟩
      ·intro L s w2 h hk hd hn K hK
       exact rs_field rfl (hk 4) (fl_model0 _ _) (hK {h with e9:=rF})
      ·intro L s w2 h hk hd hn K hK
       exact rs_index rfl (h.e9 hd.1) rfl (ix_model _ 0 (by omega)) (hK {h with e10:=rF})
      ·intro L s w2 h hk hd hn K hK
       have kb:=h.kt_m hn
       exact rs_store rfl (h.e10 hd.1) (h.e8 hd.2.1) (sp_store (p:=0) kb (by have:=(HML.out:m.length=22);omega) _) (hK {h with mu:=h.mu.put (List.Mem.head _) _,kt_m:=nF,kr_m:=fun _=>pH kb,b11_2:=fun _=>hd.2.2.2.2.2.1})
     ·intro L s w2 h hk hl
      refine cA ?_ (hQ2 s w2 (⟨h.mu,h.kr_m (hl 11),h.z8 (hl 8)⟩))
      exact fq hk
     ·intro c s w2 hc
      exact hP2 _ _ _ hc
    ·rintro s6 VV ⟨h1,h2,z1⟩
     simp only [mergeL]
     have HE:=lh (show ∃m':List (Int×Int),m'.length=22/\Mut [b+1+1] W1 VV/\VV.heap[b+1+1]?=some (cobj 34 m')/\(k+1=0->m'=zeroM)/\(1<=k+1->tSeries hh ([n0,n1,n2,n3,n4,n5].drop (k+1)) m'=tgt) from
      ⟨_,by rw [List.length_set];exact HML.out,HMU.out.trans h1,h2,fun h=>by omega,fun _=>by
       have hp:=HP.out
       rw [thenE_ok z1] at hp
       exact hp.symm⟩)
     clear h1 h2 z1
     refine HK3.out _ _ ?_
     go_wp2_with fail
     go_roundw
     case rel=>first | exact ⟨k+1,by have:=HKL.out;omega,by go_num,HE⟩ | ((repeat apply Exists.intro);exact ⟨⟨k+1,by have:=HKL.out;omega,by go_num,HE⟩,rfl⟩)
     case measure=>simp [intOf];omega
    ·rintro e l'' w' ⟨rfl,hz,h2⟩
     rw [fstE_one] at hz ⊢
     have he:tgt.2=(sAdd (tAt m 0) (sk,sk)).2:=by rw [HP.out,thenE_bad hz]
     rw [←he] at hz ⊢
     exact ⟨rfl,.inr ⟨hz,rfl⟩,by have hX:=(HM.out.trans h2).below (Nat.le_refl _) (by have:=HBW.out;intro x hx;simp at hx;omega);first | exact hX | (rw [HBW.out] at hX;exact hX)⟩
  ·obtain rfl:k=6:=by omega
   have hg:tSeries hh [] m=tgt:=HGO.out (by omega)
   have HGT:=lh (show tgt=(m,0) from hg.symm)
   clear hk hn hg
   go_wp2_with fail
   refine HK.out _ _ ?_
   refine wsk fun K8 HK8=>?_
   refine wp_cut_mergeP (n8 (n8 (n8 (nn::nn::nn::nn::nn::some 29::[])))) (fun _ w'=>Mut [b+1+1] wr w'/\w'.heap[b+1+1]?=some (cobj 34 m)) (fun _ _=>False) ?_ ?_ ?_
   ·intro Q2 hQ2 hP2
    refine wG (Se8 wr b hh m) ?_ ?_ ?_
    ·exact ⟨Mut.start _ false _,fun _=>HMM.out,nB,nB,nB⟩
    ·refine aC ?_ (aC ?_ aN)
     ·intro L s w2 h hk hd hn K hK
      have kb:=(h.kt_m (bF h.b1_0 hn))
      exact rs_load rfl (hk 4) (md_load kb HML.out) (hK {h with e0:=rF,b1_0:=rF})
     ·intro L s w2 h hk hd hn K hK
      have kb:=h.kt_m hn
      exact rs_store rfl (hk 4) (h.e0 hd.1) (md_store kb HML.out _ HML.out) (hK {h with mu:=h.mu.put (List.Mem.head _) _,kt_m:=nF,kr_m:=fun _=>pH kb,b1_0:=fun _=>hd.1})
    ·intro L s w2 h hk hl
     refine cA ?_ (hQ2 s w2 (⟨h.mu,h.kr_m (hl 1)⟩))
     exact fq hk
   ·rintro s8 VV ⟨h1,h2⟩
    simp only [mergeL]
    refine HK8.out _ _ ?_
    refine wp_ret ?_
    exact bodyPost_ret (v:=mval m) (res_model Tryz.results40 rfl (md_loadVar h2 HML.out)) rfl ⟨.inl ⟨by rw [HGT.out],by rw [HGT.out]⟩,by have hX:=(HM.out.trans h1).below (Nat.le_refl _) (by have:=HBW.out;intro x hx;simp at hx;omega);first | exact hX | (rw [HBW.out] at hX;exact hX)⟩
   ·rintro _ _ _ h
    exact h.elim
end Go.Proofs.YthhkcfpljgdnhaaGreat
