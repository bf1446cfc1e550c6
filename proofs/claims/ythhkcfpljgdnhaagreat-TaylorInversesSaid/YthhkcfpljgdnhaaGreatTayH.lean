/- Package taylor: by, relative, series. Printed by wip/genTH.py. -/
import Derived.Shelf.Abstract
import Derived.Test.YthhkcfpljgdnhaaGreatTayF
import Derived.Test.YthhkcfpljgdnhaaGreatTayG
namespace Go.Proofs.YthhkcfpljgdnhaaGreat
open Go.RowKit Mnc
attribute [local go_sem] RunSP_value RunSP_skip RunSP_enter evS_tmp evS_const evS_global evS_func
section
variable {P:Program} {Pn:List PanicEntry->World->Prop} {K:Value->World->Prop} {s:Nat->Value} {w:World} {o:Oper}
theorem rs_makeFunc {fn:Fn} {caps:Array Operand} {cs:Array Value} (ho:o.op=.makeFunc fn #[] caps) (hc:caps.map (evS s)=cs) (hK:K (.func fn #[] cs) w):RunSP P Pn K ((execOp (evS s) o).run P w):=by
 have e:(execOp (evS s) o).run P w=.ok (.value (.func fn #[] cs)) w:=by
  have hm:(Instr.makeFunc fn #[] cs).run P w=.ok (.func fn #[] cs) w:=rfl
  unfold execOp;rw [ho];subst hc
  simp only [Array.map_empty,Sem.run_bind,hm,Result.andThen,Sem.run_pure]
 rw [e]
 exact hK
end
theorem tEach_len {F:Int×Int->Int×Int->(Int×Int)×Int}:∀{a c:List (Int×Int)},a.length=c.length->(tEach F a c).2=0->(tEach F a c).1.length=a.length:=by
 intro a
 induction a with
 | nil=>intro c _ _;rfl
 | cons x a ih =>
  intro c hl h
  cases c with
  | nil=>simp at hl
  | cons y c =>
   rw [tEach] at h ⊢
   by_cases h1:(F x y).2=0
   ·rw [thenE_ok h1] at h ⊢
    by_cases h2:(tEach F a c).2=0
    ·rw [thenE_ok h2]
     simp [ih (by simpa using hl) h2]
    ·rw [thenE_bad h2] at h
     exact absurd h h2
   ·rw [thenE_bad h1] at h
    exact absurd h h1
theorem tay_by1_Div (s x y:Int×Int) (B2 B3:Nat) (w:World) (h2:w.heap[B2]?=some (.cells #[.func (.func 44) #[] #[]] 77 (0,0))) (h3:w.heap[B3]?=some (cobj 31 [s])) :
  Calls Tryz.prog 81 (#[sval x,sval y]++#[.pointer (some ⟨B2,0,none⟩),.pointer (some ⟨B3,0,none⟩)]) w fun e w'=>e=.returned (.tuple #[sval (sDiv x s).1,.int .i64 (sDiv x s).2])/\Below w.heap.size w w':=by
 have h2':(((w.alloc (.cells #[.int .i64 x.1,.int .i64 x.2] 31)).alloc (.cells #[.int .i64 y.1,.int .i64 y.2] 31)).alloc (.cells #[.int .i64 0,.int .i64 0] 31)).heap[B2]?=some (.cells #[.func (.func 44) #[] #[]] 77 (0,0)):=heap_up _ (heap_up _ (heap_up _ h2))
 have h3':(((w.alloc (.cells #[.int .i64 x.1,.int .i64 x.2] 31)).alloc (.cells #[.int .i64 y.1,.int .i64 y.2] 31)).alloc (.cells #[.int .i64 0,.int .i64 0] 31)).heap[B3]?=some (.cells #[.int .i64 s.1,.int .i64 s.2] 31 (0,0)):=heap_up _ (heap_up _ (heap_up _ h3))
 have c0:=cell_of_one h2'
 have d0:=cell_two0 h3'
 have d1:=cell_two1 h3'
 have l2:=lt_of_block h2
 have l3:=lt_of_block h3
 have HB:=lh (show (((w.alloc (.cells #[.int .i64 x.1,.int .i64 x.2] 31)).alloc (.cells #[.int .i64 y.1,.int .i64 y.2] 31)).alloc (.cells #[.int .i64 0,.int .i64 0] 31)).heap[w.heap.size+1+1]?=some (.cells #[.int .i64 0,.int .i64 0] 31 (0,0)) from heap_at _ (by simp))
 have HW:=lh (show Below w.heap.size w (((w.alloc (.cells #[.int .i64 x.1,.int .i64 x.2] 31)).alloc (.cells #[.int .i64 y.1,.int .i64 y.2] 31)).alloc (.cells #[.int .i64 0,.int .i64 0] 31)) from below_alloc (below_alloc (below_alloc (Below.refl _ _) _) _) _)
 clear h2 h3 h2' h3'
 unfold sval
 go_enter Tryz.func81,Tryz.ntmps81
 go_wp2_with fail
 refine (span_Div x s _).mono ?_;rintro e w1 ⟨rfl,hb⟩
 have b:=(hb.block _ (lt_of_block HB.out)).trans HB.out
 have c0:=cell_two0 b
 have c1:=cell_two1 b
 have f0:=free_two (i:=0) b
 have f1:=free_two (i:=1) b
 have l:=lt_of_block b
 have HE:=lh (below_set2 (below_step HW.out hb) (by omega) (.int .i64 (sDiv x s).1.1) (.int .i64 (sDiv x s).1.2) (b:=w.heap.size+1+1))
 clear b hb
 go_wp2_with fail
 exact bodyPost_ret (v:=.tuple #[sval (sDiv x s).1,.int .i64 (sDiv x s).2]) (by simp [results,Tryz.results81,go_sem,c0,c1,sval]) rfl ⟨rfl,HE.out⟩
structure ByDiv (W:World) (b:Nat) (a:List (Int×Int)) (sp:Int×Int) (L:Nat->Bool) (s:Nat->Value) (w:World):Prop where
 mu:Mut [b+1+1+1] W w
 kt_out:L 4=false->w.heap[b+1+1+1]?=some (cobj 34 zeroM)
 kr_out:L 4->w.heap[b+1+1+1]?=some (cobj 34 ((tBy sDiv a sp).1))
 e0:L 0->s 7=mval a
 e1:L 1->s 8=mval a
 e2:L 2->s 9=.func (.func 81) #[] #[.pointer (some ⟨b+1+1,0,none⟩),.pointer (some ⟨b+1,0,none⟩)]
 z3:L 3->(tBy sDiv a sp).2=0
 e3:L 3->s 10=mval ((tBy sDiv a sp).1)
set_option maxRecDepth 100000 in
set_option maxHeartbeats 2000000 in
theorem tay_by_Div (a:List (Int×Int)) (ha:a.length=22) (sp:Int×Int) (w:World) :
  Calls Tryz.prog 45 #[mval a,sval sp,.func (.func 44) #[] #[]] w fun e w'=>Ends mval (tBy sDiv a sp) e/\Below w.heap.size w w':=by
 have HL:=lh ha
 have HLEN:=lh (show (tBy sDiv a sp).2=0->(tBy sDiv a sp).1.length=22 from fun h=>(tEach_len rfl h).trans ha)
 clear ha
 rw [show sval sp=.agg #[.int .i64 sp.1,.int .i64 sp.2] from rfl]
 go_enter Tryz.func45,Tryz.ntmps45
 refine wsk fun K1 HK1=>?_
 go_wp2_with fail
 rename_i x1 cs1 hc1
 obtain rfl:(mc a).toArray=cs1:=Value.agg.inj hc1
 clear hc1
 obtain ⟨b,hb⟩:∃b,w.heap.size=b:=⟨_,rfl⟩
 refine HK1.out _ _ ?_
 refine wp_world (fun W=>Mut [] w W/\b+4<=W.heap.size/\W.heap[b]?=some (cobj 34 a)/\W.heap[b+1]?=some (cobj 31 [sp])/\W.heap[b+1+1]?=some (.cells #[.func (.func 44) #[] #[]] 77 (0,0))/\W.heap[b+1+1+1]?=some (cobj 34 zeroM)) ?_
  (by
   rw [←hb]
   exact ⟨((((Mut.refl _ _).alloc _).alloc _).alloc _).alloc _,by simp,heap_up _ (heap_up _ (heap_up _ (heap_at _ rfl))),heap_up _ (heap_up _ (heap_at _ (by simp))),heap_up _ (heap_at _ (by simp)),heap_at (cobj 34 zeroM) (by simp)⟩)
 rintro W ⟨hm,hs,hA,hS,hD,hO⟩
 rw [hb]
 have HM:=lh hm
 have HBW:=lh hb
 have HA:=lh hA
 have HS:=lh hS
 have HDO:=lh hD
 have HO:=lh hO
 clear hm hs hA hS hD hO hb HK1
 refine wsk fun K2 HK2=>?_
 refine wp_cut_mergeP (nn::nn::nn::nn::nn::nn::nn::some 7::some 8::some 9::some 10::[]) (fun _ w'=>Mut [b+1+1+1] W w'/\w'.heap[b+1+1+1]?=some (cobj 34 ((tBy sDiv a sp).1))/\(tBy sDiv a sp).2=0) (fun ch w'=>ch=brk (fstE [(tBy sDiv a sp).2])/\¬fstE [(tBy sDiv a sp).2]=0/\Mut [b+1+1+1] W w') ?_ ?_ ?_
 ·intro Q2 hQ2 hP2
  refine wH (fun ch w'=>ch=brk (fstE [(tBy sDiv a sp).2])/\¬fstE [(tBy sDiv a sp).2]=0/\Mut [b+1+1+1] W w') (ByDiv W b a sp) ?_ ?_ ?_ ?_
  ·exact ⟨Mut.start _ false _,fun _=>HO.out,nB,nB,nB,nB,nB,nB⟩
  ·refine aC ?_ (aC ?_ (aC ?_ (aC ?_ (aC ?_ aN))))
   ·intro L s w2 h hk hd hn K hK
    have kb:=kY h.mu HA (by omega)
    exact rs_load rfl (hk 3) (md_load kb HL.out) (hK {h with e0:=rF})
   ·intro L s w2 h hk hd hn K hK
    have kb:=kY h.mu HA (by omega)
    exact rs_load rfl (hk 3) (md_load kb HL.out) (hK {h with e1:=rF})
   ·intro L s w2 h hk hd hn K hK
    exact rs_makeFunc rfl (cs:=#[.pointer (some ⟨b+1+1,0,none⟩),.pointer (some ⟨b+1,0,none⟩)]) (by simp [evS_tmp,(hk 5),(hk 4)]) (hK {h with e2:=rF})
   ·intro L s w2 h hk hd hn K hK
    have s7:=h.e0 hd.1
    have s8:=h.e1 hd.2.1
    have s9:=h.e2 hd.2.2.1
    go_simp
    have k2:=(h.mu.same _ (lt_of_block HDO.out) (notin1 (by omega))).trans HDO.out
    have k1:=(h.mu.same _ (lt_of_block HS.out) (notin1 (by omega))).trans HS.out
    refine (tay_each (fun x _=>sDiv x sp) _ _ a a HL.out HL.out _ (fun x y W=>enters_of Tryz.func81 (by kernel_rfl) rfl _ W) (fun x y W' hB=>tay_by1_Div sp x y (b+1+1) (b+1) W' ((hB.block _ (lt_of_block k2)).trans k2) ((hB.block _ (lt_of_block k1)).trans k1))).mono ?_
    rintro e w3 ⟨⟨hz,rfl⟩ | ⟨hz,rfl⟩,hb⟩
    ·exact .inl ⟨_,rfl,hK {h with mu:=h.mu.step hb,kt_out:=fun a=>bk hb (h.kt_out a),kr_out:=fun a=>bk hb (h.kr_out a),e3:=rF,z3:=fun _=>hz}⟩
    ·exact .inr ⟨_,rfl,congrArg brk (show (tBy sDiv a sp).2=fstE [(tBy sDiv a sp).2] from (by rw [fstE_1 (show ¬(tBy sDiv a sp).2=0 from hz)])),(show ¬fstE [(tBy sDiv a sp).2]=0 from (by rw [fstE_1 (show ¬(tBy sDiv a sp).2=0 from hz)];exact hz)),h.mu.step hb⟩
   ·intro L s w2 h hk hd hn K hK
    have kb:=h.kt_out hn
    exact rs_store rfl (hk 6) (h.e3 hd.1) (md_store kb rfl _ (HLEN.out (h.z3 hd.1))) (hK {h with mu:=h.mu.put (List.Mem.head _) _,kt_out:=nF,kr_out:=fun _=>pH kb})
  ·intro L s w2 h hk hl
   refine cA ?_ (hQ2 s w2 (⟨h.mu,h.kr_out (hl 4),h.z3 (hl 3)⟩))
   exact fq hk
  ·intro c s w2 hc
   exact hP2 _ _ _ hc
 ·rintro s1 V ⟨h1,h2,z1⟩
  simp only [mergeL]
  refine HK2.out _ _ ?_
  have hl:=md_loadVar h2 (HLEN.out z1)
  refine wp_ret ?_
  exact bodyPost_ret (v:=mval (tBy sDiv a sp).1) (res_model Tryz.results45 rfl hl) rfl ⟨.inl ⟨z1,rfl⟩,(by rw [←HBW.out];exact (HM.out.stepM h1 (by have:=HBW.out;intro x hx;simp at hx;right;omega)).to0)⟩
 ·rintro e l'' w' ⟨rfl,hz,h2⟩
  rw [fstE_one] at hz ⊢
  exact ⟨rfl,.inr ⟨hz,rfl⟩,(by rw [←HBW.out];exact (HM.out.stepM h2 (by have:=HBW.out;intro x hx;simp at hx;right;omega)).to0)⟩
theorem tay_by1_Mul (s x y:Int×Int) (B2 B3:Nat) (w:World) (h2:w.heap[B2]?=some (.cells #[.func (.func 52) #[] #[]] 77 (0,0))) (h3:w.heap[B3]?=some (cobj 31 [s])) :
  Calls Tryz.prog 81 (#[sval x,sval y]++#[.pointer (some ⟨B2,0,none⟩),.pointer (some ⟨B3,0,none⟩)]) w fun e w'=>e=.returned (.tuple #[sval (sMul x s).1,.int .i64 (sMul x s).2])/\Below w.heap.size w w':=by
 have h2':(((w.alloc (.cells #[.int .i64 x.1,.int .i64 x.2] 31)).alloc (.cells #[.int .i64 y.1,.int .i64 y.2] 31)).alloc (.cells #[.int .i64 0,.int .i64 0] 31)).heap[B2]?=some (.cells #[.func (.func 52) #[] #[]] 77 (0,0)):=heap_up _ (heap_up _ (heap_up _ h2))
 have h3':(((w.alloc (.cells #[.int .i64 x.1,.int .i64 x.2] 31)).alloc (.cells #[.int .i64 y.1,.int .i64 y.2] 31)).alloc (.cells #[.int .i64 0,.int .i64 0] 31)).heap[B3]?=some (.cells #[.int .i64 s.1,.int .i64 s.2] 31 (0,0)):=heap_up _ (heap_up _ (heap_up _ h3))
 have c0:=cell_of_one h2'
 have d0:=cell_two0 h3'
 have d1:=cell_two1 h3'
 have l2:=lt_of_block h2
 have l3:=lt_of_block h3
 have HB:=lh (show (((w.alloc (.cells #[.int .i64 x.1,.int .i64 x.2] 31)).alloc (.cells #[.int .i64 y.1,.int .i64 y.2] 31)).alloc (.cells #[.int .i64 0,.int .i64 0] 31)).heap[w.heap.size+1+1]?=some (.cells #[.int .i64 0,.int .i64 0] 31 (0,0)) from heap_at _ (by simp))
 have HW:=lh (show Below w.heap.size w (((w.alloc (.cells #[.int .i64 x.1,.int .i64 x.2] 31)).alloc (.cells #[.int .i64 y.1,.int .i64 y.2] 31)).alloc (.cells #[.int .i64 0,.int .i64 0] 31)) from below_alloc (below_alloc (below_alloc (Below.refl _ _) _) _) _)
 clear h2 h3 h2' h3'
 unfold sval
 go_enter Tryz.func81,Tryz.ntmps81
 go_wp2_with fail
 refine (span_Mul x s _).mono ?_;rintro e w1 ⟨rfl,hb⟩
 have b:=(hb.block _ (lt_of_block HB.out)).trans HB.out
 have c0:=cell_two0 b
 have c1:=cell_two1 b
 have f0:=free_two (i:=0) b
 have f1:=free_two (i:=1) b
 have l:=lt_of_block b
 have HE:=lh (below_set2 (below_step HW.out hb) (by omega) (.int .i64 (sMul x s).1.1) (.int .i64 (sMul x s).1.2) (b:=w.heap.size+1+1))
 clear b hb
 go_wp2_with fail
 exact bodyPost_ret (v:=.tuple #[sval (sMul x s).1,.int .i64 (sMul x s).2]) (by simp [results,Tryz.results81,go_sem,c0,c1,sval]) rfl ⟨rfl,HE.out⟩
structure ByMul (W:World) (b:Nat) (a:List (Int×Int)) (sp:Int×Int) (L:Nat->Bool) (s:Nat->Value) (w:World):Prop where
 mu:Mut [b+1+1+1] W w
 kt_out:L 4=false->w.heap[b+1+1+1]?=some (cobj 34 zeroM)
 kr_out:L 4->w.heap[b+1+1+1]?=some (cobj 34 ((tBy sMul a sp).1))
 e0:L 0->s 7=mval a
 e1:L 1->s 8=mval a
 e2:L 2->s 9=.func (.func 81) #[] #[.pointer (some ⟨b+1+1,0,none⟩),.pointer (some ⟨b+1,0,none⟩)]
 z3:L 3->(tBy sMul a sp).2=0
 e3:L 3->s 10=mval ((tBy sMul a sp).1)
set_option maxRecDepth 100000 in
set_option maxHeartbeats 2000000 in
theorem tay_by_Mul (a:List (Int×Int)) (ha:a.length=22) (sp:Int×Int) (w:World) :
  Calls Tryz.prog 45 #[mval a,sval sp,.func (.func 52) #[] #[]] w fun e w'=>Ends mval (tBy sMul a sp) e/\Below w.heap.size w w':=by
 have HL:=lh ha
 have HLEN:=lh (show (tBy sMul a sp).2=0->(tBy sMul a sp).1.length=22 from fun h=>(tEach_len rfl h).trans ha)
 clear ha
 rw [show sval sp=.agg #[.int .i64 sp.1,.int .i64 sp.2] from rfl]
 go_enter Tryz.func45,Tryz.ntmps45
 refine wsk fun K1 HK1=>?_
 go_wp2_with fail
 rename_i x1 cs1 hc1
 obtain rfl:(mc a).toArray=cs1:=Value.agg.inj hc1
 clear hc1
 obtain ⟨b,hb⟩:∃b,w.heap.size=b:=⟨_,rfl⟩
 refine HK1.out _ _ ?_
 refine wp_world (fun W=>Mut [] w W/\b+4<=W.heap.size/\W.heap[b]?=some (cobj 34 a)/\W.heap[b+1]?=some (cobj 31 [sp])/\W.heap[b+1+1]?=some (.cells #[.func (.func 52) #[] #[]] 77 (0,0))/\W.heap[b+1+1+1]?=some (cobj 34 zeroM)) ?_
  (by
   rw [←hb]
   exact ⟨((((Mut.refl _ _).alloc _).alloc _).alloc _).alloc _,by simp,heap_up _ (heap_up _ (heap_up _ (heap_at _ rfl))),heap_up _ (heap_up _ (heap_at _ (by simp))),heap_up _ (heap_at _ (by simp)),heap_at (cobj 34 zeroM) (by simp)⟩)
 rintro W ⟨hm,hs,hA,hS,hD,hO⟩
 rw [hb]
 have HM:=lh hm
 have HBW:=lh hb
 have HA:=lh hA
 have HS:=lh hS
 have HDO:=lh hD
 have HO:=lh hO
 clear hm hs hA hS hD hO hb HK1
 refine wsk fun K2 HK2=>?_
 refine wp_cut_mergeP (nn::nn::nn::nn::nn::nn::nn::some 7::some 8::some 9::some 10::[]) (fun _ w'=>Mut [b+1+1+1] W w'/\w'.heap[b+1+1+1]?=some (cobj 34 ((tBy sMul a sp).1))/\(tBy sMul a sp).2=0) (fun ch w'=>ch=brk (fstE [(tBy sMul a sp).2])/\¬fstE [(tBy sMul a sp).2]=0/\Mut [b+1+1+1] W w') ?_ ?_ ?_
 ·intro Q2 hQ2 hP2
  refine wH (fun ch w'=>ch=brk (fstE [(tBy sMul a sp).2])/\¬fstE [(tBy sMul a sp).2]=0/\Mut [b+1+1+1] W w') (ByMul W b a sp) ?_ ?_ ?_ ?_
  ·exact ⟨Mut.start _ false _,fun _=>HO.out,nB,nB,nB,nB,nB,nB⟩
  ·refine aC ?_ (aC ?_ (aC ?_ (aC ?_ (aC ?_ aN))))
   ·intro L s w2 h hk hd hn K hK
    have kb:=kY h.mu HA (by omega)
    exact rs_load rfl (hk 3) (md_load kb HL.out) (hK {h with e0:=rF})
   ·intro L s w2 h hk hd hn K hK
    have kb:=kY h.mu HA (by omega)
    exact rs_load rfl (hk 3) (md_load kb HL.out) (hK {h with e1:=rF})
   ·intro L s w2 h hk hd hn K hK
    exact rs_makeFunc rfl (cs:=#[.pointer (some ⟨b+1+1,0,none⟩),.pointer (some ⟨b+1,0,none⟩)]) (by simp [evS_tmp,(hk 5),(hk 4)]) (hK {h with e2:=rF})
   ·intro L s w2 h hk hd hn K hK
    have s7:=h.e0 hd.1
    have s8:=h.e1 hd.2.1
    have s9:=h.e2 hd.2.2.1
    go_simp
    have k2:=(h.mu.same _ (lt_of_block HDO.out) (notin1 (by omega))).trans HDO.out
    have k1:=(h.mu.same _ (lt_of_block HS.out) (notin1 (by omega))).trans HS.out
    refine (tay_each (fun x _=>sMul x sp) _ _ a a HL.out HL.out _ (fun x y W=>enters_of Tryz.func81 (by kernel_rfl) rfl _ W) (fun x y W' hB=>tay_by1_Mul sp x y (b+1+1) (b+1) W' ((hB.block _ (lt_of_block k2)).trans k2) ((hB.block _ (lt_of_block k1)).trans k1))).mono ?_
    rintro e w3 ⟨⟨hz,rfl⟩ | ⟨hz,rfl⟩,hb⟩
    ·exact .inl ⟨_,rfl,hK {h with mu:=h.mu.step hb,kt_out:=fun a=>bk hb (h.kt_out a),kr_out:=fun a=>bk hb (h.kr_out a),e3:=rF,z3:=fun _=>hz}⟩
    ·exact .inr ⟨_,rfl,congrArg brk (show (tBy sMul a sp).2=fstE [(tBy sMul a sp).2] from (by rw [fstE_1 (show ¬(tBy sMul a sp).2=0 from hz)])),(show ¬fstE [(tBy sMul a sp).2]=0 from (by rw [fstE_1 (show ¬(tBy sMul a sp).2=0 from hz)];exact hz)),h.mu.step hb⟩
   ·intro L s w2 h hk hd hn K hK
    have kb:=h.kt_out hn
    exact rs_store rfl (hk 6) (h.e3 hd.1) (md_store kb rfl _ (HLEN.out (h.z3 hd.1))) (hK {h with mu:=h.mu.put (List.Mem.head _) _,kt_out:=nF,kr_out:=fun _=>pH kb})
  ·intro L s w2 h hk hl
   refine cA ?_ (hQ2 s w2 (⟨h.mu,h.kr_out (hl 4),h.z3 (hl 3)⟩))
   exact fq hk
  ·intro c s w2 hc
   exact hP2 _ _ _ hc
 ·rintro s1 V ⟨h1,h2,z1⟩
  simp only [mergeL]
  refine HK2.out _ _ ?_
  have hl:=md_loadVar h2 (HLEN.out z1)
  refine wp_ret ?_
  exact bodyPost_ret (v:=mval (tBy sMul a sp).1) (res_model Tryz.results45 rfl hl) rfl ⟨.inl ⟨z1,rfl⟩,(by rw [←HBW.out];exact (HM.out.stepM h1 (by have:=HBW.out;intro x hx;simp at hx;right;omega)).to0)⟩
 ·rintro e l'' w' ⟨rfl,hz,h2⟩
  rw [fstE_one] at hz ⊢
  exact ⟨rfl,.inr ⟨hz,rfl⟩,(by rw [←HBW.out];exact (HM.out.stepM h2 (by have:=HBW.out;intro x hx;simp at hx;right;omega)).to0)⟩
end Go.Proofs.YthhkcfpljgdnhaaGreat
