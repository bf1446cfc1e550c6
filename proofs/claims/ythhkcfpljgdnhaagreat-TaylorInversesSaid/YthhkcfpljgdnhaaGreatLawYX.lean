/- Law 21's helpers: point, line, same. Printed by wip/genLY.py. -/
import Derived.Test.YthhkcfpljgdnhaaGreatTayO
import Derived.Test.YthhkcfpljgdnhaaGreatTayM
import Derived.Test.YthhkcfpljgdnhaaGreatTayQ
import Derived.Test.YthhkcfpljgdnhaaGreatTayG
set_option maxRecDepth 100000
set_option maxHeartbeats 4000000
namespace Go.Proofs.YthhkcfpljgdnhaaGreat
open Go.RowKit Mnc
attribute [local go_sem] RunSP_value RunSP_skip RunSP_enter evS_tmp evS_const evS_global evS_func
theorem law21_pt (n:Int) (w:World) :
  Calls Tryz.prog 23 #[.int .i64 n] w fun e w'=>e=.returned (sval (n,n))/\Below w.heap.size w w':=by
 go_enter Tryz.func23,Tryz.ntmps23
 go_wp2
 exact bodyPost_ret (v:=sval (n,n)) (by simp [results,Tryz.results23,go_sem,sval]) rfl ⟨rfl,below_alloc (Below.refl _ _) _⟩
theorem tLine_len (t:Int):(tLine t).length=22:=by simp [tLine,zeroM]
theorem wr_mul16 {t:Int} (h:-16<=t/\t<=16):IntKind.i64.wrap (t*4294967296)=t*4294967296:=by
 simp [IntKind.wrap,IntKind.bits,IntKind.signed]
 omega
theorem quo16 (t:Int):(t*4294967296).tdiv 16=t*268435456:=by
 rw [show t*4294967296=(t*268435456)*16 by omega,Int.mul_tdiv_cancel _ (by decide)]
theorem wr_quo16 {t:Int} (h:-16<=t/\t<=16):IntKind.i64.wrap (t*268435456)=t*268435456:=by
 simp [IntKind.wrap,IntKind.bits,IntKind.signed]
 omega
structure Ln2 (V:World) (t:Int) (b:Nat) (g0:Nat) (L:Nat->Bool) (s:Nat->Value) (w:World):Prop where
 mu:Mut [g0] V w
 kt_a:L 7=false->w.heap[g0]?=some (cobj 34 zeroM)
 km_a:L 7->L 10=false->w.heap[g0]?=some (cobj 34 (zeroM.set 0 (4294967296,4294967296)))
 kr_a:L 10->w.heap[g0]?=some (cobj 34 (tLine t))
 e0:L 0->s 4=sval (4294967296,4294967296)
 e1:L 1->s 5=.int .i64 t
 e2:L 2->s 6=.int .i64 (t*4294967296)
 e3:L 3->s 7=.int .i64 (t*268435456)
 e4:L 4->s 8=sval (t*268435456,t*268435456)
 e5:L 5->s 9=.pointer (some ⟨g0,0,none⟩)
 e6:L 6->s 10=.pointer (some ⟨g0,0*2,none⟩)
 e8:L 8->s 11=.pointer (some ⟨g0,0,none⟩)
 e9:L 9->s 12=.pointer (some ⟨g0,2*2,none⟩)
 b10_7:L 10->L 7
structure Ln3 (V:World) (t:Int) (b:Nat) (g0:Nat) (L:Nat->Bool) (s:Nat->Value) (w:World):Prop where
 mu:Mut [b] V w
 kt_r:L 1=false->w.heap[b]?=some (cobj 34 zeroM)
 kr_r:L 1->w.heap[b]?=some (cobj 34 (tLine t))
 e0:L 0->s 13=mval (tLine t)
theorem law21_line (t:Int) (ht:-16<=t/\t<=16) (w:World):Calls Tryz.prog 24 #[.int .i64 t] w fun e w'=>e=.returned (mval (tLine t))/\Below w.heap.size w w':=by
 have HT:=lh ht
 clear ht
 go_enter Tryz.func24,Tryz.ntmps24
 refine wsk fun K0 HK0=>?_
 go_wp2_with fail
 obtain ⟨b,hb⟩:∃b,w.heap.size=b:=⟨_,rfl⟩
 refine HK0.out _ _ ?_
 refine wp_world (fun V=>Mut [] w V/\V.heap[b]?=some (cobj 34 zeroM)) ?_
  (by
   rw [←hb]
   exact ⟨((Mut.refl _ _).alloc _),heap_at (cobj 34 zeroM) (by simp)⟩)
 rintro V ⟨hm,hHR⟩
 rw [hb]
 have HM:=lh hm
 have HBW:=lh hb
 have HLT:=lh trivial
 have HR:=lh hHR
 clear hm hHR hb HK0
 refine wsk fun K1 HK1=>?_
 go_wp2_with fail
 refine HK1.out _ _ ?_
 obtain ⟨g0,hg⟩:∃g,V.heap.size=g:=⟨_,rfl⟩
 refine wp_world (fun V2=>Mut [] w V2/\b<=g0/\V2.heap[b]?=some (cobj 34 zeroM)/\V2.heap[g0]?=some (cobj 34 zeroM)) ?_
  (by
   rw [←hg]
   exact ⟨HM.out.alloc _,by have:=HM.out.size;have:=HBW.out;omega,heap_up _ HR.out,heap_at (cobj 34 zeroM) (by simp)⟩)
 replace HLT:=lh (show b<=g0/\b<g0 from by
  have hlt:=HLT.out
  have hbw:=HM.out.size
  have hbw2:=HBW.out
  have:=lt_of_block HR.out
  omega)
 rintro V2 ⟨hm,-,qHR,hnew⟩
 rw [hg]
 replace HM:=lh hm
 replace HR:=lh qHR
 have HA:=lh hnew
 clear hm hnew hg qHR HK1
 clear V
 rename World=>V
 refine wsk fun K2 HK2=>?_
 refine wc (nn::nn::nn::nn::some 4::some 5::some 6::some 7::some 8::some 9::some 10::some 11::some 12::nn::[]) (fun _ w'=>Mut [g0] V w'/\w'.heap[g0]?=some (cobj 34 (tLine t))) ?_ ?_
 ·intro Q2 hQ2
  refine wG (Ln2 V t b g0) ?_ ?_ ?_
  ·exact ⟨Mut.start _ false _,fun _=>HA.out,nB,nB,nB,nB,nB,nB,nB,nB,nB,nB,nB,nB⟩
  ·refine aC ?_ (aC ?_ (aC ?_ (aC ?_ (aC ?_ (aC ?_ (aC ?_ (aC ?_ (aC ?_ (aC ?_ (aC ?_ aN))))))))))
   ·intro L s w2 h hk hd hn K hK
    go_simp
    refine (law21_pt 4294967296 _).mono ?_
    rintro e w3 ⟨rfl,hb⟩
    exact .inl ⟨_,rfl,hK {h with mu:=h.mu.step hb,kt_a:=fun a=>bk hb (h.kt_a a),km_a:=fun a c=>bk hb (h.km_a a c),kr_a:=fun a=>bk hb (h.kr_a a),e0:=rF}⟩
   ·intro L s w2 h hk hd hn K hK
    exact rs_move rfl (hk 0) (hK {h with e1:=rF})
   ·intro L s w2 h hk hd hn K hK
    have s5:=h.e1 hd.1
    go_simp
    exact hK {h with e2:=fun _=>congrArg (Value.int .i64) (wr_mul16 HT.out)}
   ·intro L s w2 h hk hd hn K hK
    have s6:=h.e2 hd.1
    have e1:=quo16 t
    have e2:=wr_quo16 HT.out
    go_simp
    exact hK {h with e3:=rF}
   ·intro L s w2 h hk hd hn K hK
    have s7:=h.e3 hd.1
    go_simp
    refine (law21_pt (t*268435456) _).mono ?_
    rintro e w3 ⟨rfl,hb⟩
    exact .inl ⟨_,rfl,hK {h with mu:=h.mu.step hb,kt_a:=fun a=>bk hb (h.kt_a a),km_a:=fun a c=>bk hb (h.km_a a c),kr_a:=fun a=>bk hb (h.kr_a a),e4:=rF}⟩
   ·intro L s w2 h hk hd hn K hK
    exact rs_field rfl (hk 3) (fl_model0 _ _) (hK {h with e5:=rF})
   ·intro L s w2 h hk hd hn K hK
    exact rs_index rfl (h.e5 hd.1) rfl (ix_model _ 0 (by omega)) (hK {h with e6:=rF})
   ·intro L s w2 h hk hd hn K hK
    have kb:=h.kt_a hn
    exact rs_store rfl (h.e6 hd.1) (h.e0 hd.2.1) (sp_store (p:=0) kb (by decide) _) (hK {h with mu:=h.mu.put (List.Mem.head _) _,kt_a:=nF,km_a:=fun _ _=>pH kb,kr_a:=fun a=>aB (h.b10_7 a) hn,b10_7:=rF})
   ·intro L s w2 h hk hd hn K hK
    exact rs_field rfl (hk 3) (fl_model0 _ _) (hK {h with e8:=rF})
   ·intro L s w2 h hk hd hn K hK
    exact rs_index rfl (h.e8 hd.1) rfl (ix_model _ 2 (by omega)) (hK {h with e9:=rF})
   ·intro L s w2 h hk hd hn K hK
    have kb:=h.km_a hd.2.2.1 hn
    exact rs_store rfl (h.e9 hd.1) (h.e4 hd.2.1) (sp_store (p:=2) kb (by decide) _) (hK {h with mu:=h.mu.put (List.Mem.head _) _,kt_a:=fun a=>absurd (a.symm.trans (hd.2.2.1)) bft,km_a:=fun _ a=>absurd a.symm bft,kr_a:=fun _=>pH kb,b10_7:=fun _=>hd.2.2.1})
  ·intro L s w2 h hk hl
   refine cA ?_ (hQ2 s w2 (⟨h.mu,h.kr_a (hl 10)⟩))
   exact fq hk
 rintro s2 V ⟨h1,c_a⟩
 simp only [mergeL]
 replace HR:=j1 h1 HR (by have:=HLT.out;omega)
 replace HA:=lh c_a
 replace HM:=mB HM h1 (by have:=HBW.out;have:=HLT.out;simp;omega)
 clear h1 c_a
 refine HK2.out _ _ ?_
 refine wsk fun K3 HK3=>?_
 refine wc (n8 (nn::nn::nn::nn::nn::some 13::[])) (fun _ w'=>Mut [b] V w'/\w'.heap[b]?=some (cobj 34 (tLine t))) ?_ ?_
 ·intro Q2 hQ2
  refine wG (Ln3 V t b g0) ?_ ?_ ?_
  ·exact ⟨Mut.start _ false _,fun _=>HR.out,nB,nB⟩
  ·refine aC ?_ (aC ?_ aN)
   ·intro L s w2 h hk hd hn K hK
    have kb:=kY h.mu HA (by have:=HLT.out;omega)
    exact rs_load rfl (hk 3) (md_load kb (tLine_len t)) (hK {h with e0:=rF})
   ·intro L s w2 h hk hd hn K hK
    have kb:=h.kt_r hn
    exact rs_store rfl (hk 2) (h.e0 hd.1) (md_store kb rfl _ (tLine_len t)) (hK {h with mu:=h.mu.put (List.Mem.head _) _,kt_r:=nF,kr_r:=fun _=>pH kb})
  ·intro L s w2 h hk hl
   refine cA ?_ (hQ2 s w2 (⟨h.mu,h.kr_r (hl 1)⟩))
   exact fq hk
 rintro s3 V ⟨h1,c_r⟩
 simp only [mergeL]
 replace HR:=lh c_r
 replace HA:=j1 h1 HA (by have:=HLT.out;omega)
 replace HM:=mB HM h1 (by have:=HBW.out;have:=HLT.out;simp;omega)
 clear h1 c_r
 refine HK3.out _ _ ?_
 refine wp_ret ?_
 exact bodyPost_ret (v:=mval (tLine t)) (res_model Tryz.results24 rfl (md_loadVar HR.out (tLine_len t))) rfl ⟨rfl,by rw [←HBW.out];exact HM.out.to0⟩
structure Sa1 (V:World) (a:List (Int×Int)) (n:Int) (b:Nat) (L:Nat->Bool) (s:Nat->Value) (w:World):Prop where
 mu:Mut [] V w
 e0:L 0->s 9=mval a
 e1:L 1->s 10=mval a
 e2:L 2->s 11=.bool true
 e3:L 3->s 12=.bool true
 e4:L 4->s 13=.int .i64 n
 e5:L 5->s 14=.int .i64 n
 e6:L 6->s 15=.bool true
 e7:L 7->s 16=.bool true
 e8:L 8->s 8=.bool true
theorem law21_same (a:List (Int×Int)) (n:Int) (ha:a.length=22) (w:World):Calls Tryz.prog 12 #[mval a,.int .i64 n,mval a,.int .i64 n] w fun e w'=>e=.returned (.bool true)/\Below w.heap.size w w':=by
 have HL:=lh ha
 clear ha
 go_enter Tryz.func12,Tryz.ntmps12
 refine wsk fun K0 HK0=>?_
 go_wp2_with fail
 rename_i x1 cs1 hc1
 obtain rfl:(mc a).toArray=cs1:=Value.agg.inj hc1
 clear hc1
 obtain ⟨b,hb⟩:∃b,w.heap.size=b:=⟨_,rfl⟩
 refine HK0.out _ _ ?_
 refine wp_world (fun V=>Mut [] w V/\V.heap[b]?=some (cobj 34 a)/\V.heap[b+1]?=some (cobj 34 a)) ?_
  (by
   rw [←hb]
   exact ⟨(((Mut.refl _ _).alloc _).alloc _),heap_up _ (heap_at (cobj 34 a) (by simp)),heap_at (cobj 34 a) (by simp)⟩)
 rintro V ⟨hm,hHA,hHD⟩
 rw [hb]
 have HM:=lh hm
 have HBW:=lh hb
 have HLT:=lh trivial
 have HA:=lh hHA
 have HD:=lh hHD
 clear hm hHA hHD hb HK0
 refine wsk fun K1 HK1=>?_
 refine wc (n8 (some 8::some 9::some 10::some 11::some 12::some 13::some 14::some 15::some 16::[])) (fun s w'=>Mut [] V w'/\s 8=.bool true) ?_ ?_
 ·intro Q2 hQ2
  refine wG (Sa1 V a n b) ?_ ?_ ?_
  ·exact ⟨Mut.start _ false _,nB,nB,nB,nB,nB,nB,nB,nB,nB⟩
  ·refine aC ?_ (aC ?_ (aD ?_ (aC ?_ (aD ?_ (aD ?_ (aD ?_ (aC ?_ (aC ?_ aN))))))))
   ·intro L s w2 h hk hd hn K hK
    have kb:=kZ h.mu HA
    exact rs_load rfl (hk 4) (md_load kb HL.out) (hK {h with e0:=rF})
   ·intro L s w2 h hk hd hn K hK
    have kb:=kZ h.mu HD
    exact rs_load rfl (hk 6) (md_load kb HL.out) (hK {h with e1:=rF})
   ·intro L s w2 h hk hd hn
    have s9:=h.e0 hd.1
    have s10:=h.e1 hd.2.1
    have hq:=bin_eqM a a HL.out HL.out
    have hg:=guard_eqM a a
    rw [show decide (a=a)=true from decide_eq_true rfl] at hq
    refine sP fun K hK=>?_
    go_simp
    exact hK _ _ {h with e2:=rF}
   ·intro L s w2 h hk hd hn K hK
    exact rs_move rfl (h.e2 hd.1) (hK {h with e3:=rF})
   ·intro L s w2 h hk hd hn
    have gq:=h.e3 hd.1
    have s1:s 1=_:=hk 1
    refine stepSP (by simp [Region.wanted,yieldS,gq]) fun K hK=>?_
    exact rs_move rfl s1 (hK _ _ {h with e4:=rF})
   ·intro L s w2 h hk hd hn
    have gq:=h.e3 hd.1
    have s3:s 3=_:=hk 3
    refine stepSP (by simp [Region.wanted,yieldS,gq]) fun K hK=>?_
    exact rs_move rfl s3 (hK _ _ {h with e5:=rF})
   ·intro L s w2 h hk hd hn
    have gq:=h.e3 hd.2.2.1
    have s13:=h.e4 hd.1
    have s14:=h.e5 hd.2.1
    refine stepSP (by simp [Region.wanted,yieldS,gq]) fun K hK=>?_
    go_simp
    exact hK _ _ {h with e6:=fun _=>congrArg Value.bool (by simp)}
   ·intro L s w2 h hk hd hn K hK
    have s12:=h.e3 hd.1
    have s15:=h.e6 hd.2.1
    go_simp
    exact hK {h with e7:=rF}
   ·intro L s w2 h hk hd hn K hK
    exact rs_assign rfl (h.e7 hd.1) (hK {h with e8:=rF})
  ·intro L s w2 h hk hl
   refine cA ?_ (hQ2 s w2 (⟨h.mu,h.e8 (hl 8)⟩))
   exact fq hk
 rintro s1 V ⟨h1,k8⟩
 simp only [mergeL]
 rw [k8]
 replace HA:=sm h1 HA
 replace HD:=sm h1 HD
 replace HM:=mE HM h1
 clear h1 k8
 refine HK1.out _ _ ?_
 refine wp_ret ?_
 exact bodyPost_ret (v:=.bool true) (by simp [results,Tryz.results12,go_sem]) rfl ⟨rfl,by rw [←HBW.out];exact HM.out.to0⟩
theorem pl_00 (w:World):Calls Tryz.prog 20 #[.int .i64 0,.int .i64 0] w fun e w'=>e=.returned (.tuple #[.int .i64 0,.int .i64 0])/\Below w.heap.size w w':=by
 have h:=taw_Place 0 0 w
 rw [show xPlace 0 0=(0,0) from by decide +kernel] at h
 exact h
theorem pl_10 (w:World):Calls Tryz.prog 20 #[.int .i64 1,.int .i64 0] w fun e w'=>e=.returned (.tuple #[.int .i64 2,.int .i64 0])/\Below w.heap.size w w':=by
 have h:=taw_Place 1 0 w
 rw [show xPlace 1 0=(2,0) from by decide +kernel] at h
 exact h
theorem pl_05 (w:World):Calls Tryz.prog 20 #[.int .i64 0,.int .i64 5] w fun e w'=>e=.returned (.tuple #[.int .i64 15,.int .i64 0])/\Below w.heap.size w w':=by
 have h:=taw_Place 0 5 w
 rw [show xPlace 0 5=(15,0) from by decide +kernel] at h
 exact h
theorem pl_50 (w:World):Calls Tryz.prog 20 #[.int .i64 5,.int .i64 0] w fun e w'=>e=.returned (.tuple #[.int .i64 20,.int .i64 0])/\Below w.heap.size w w':=by
 have h:=taw_Place 5 0 w
 rw [show xPlace 5 0=(20,0) from by decide +kernel] at h
 exact h
theorem pl_33 (w:World):Calls Tryz.prog 20 #[.int .i64 3,.int .i64 3] w fun e w'=>e=.returned (.tuple #[.int .i64 0,.int .i64 2])/\Below w.heap.size w w':=by
 have h:=taw_Place 3 3 w
 rw [show xPlace 3 3=(0,2) from by decide +kernel] at h
 exact h
def mUV:List (Int×Int):=zeroM.set 4 (4294967296,4294967296)
def mUU:List (Int×Int):=zeroM.set 5 (4294967296,4294967296)
def mInv:List (Int×Int):=(xInverse (tLine (-8))).1
theorem ex_uv:xMul xU xV=(mUV,0):=by decide +kernel
theorem ex_bu:xBound xU=((-4294967296,4294967296),0):=by decide +kernel
theorem ex_uu:xMul xU xU=(mUU,0):=by decide +kernel
theorem ex_bs:xBound mUU=((0,4294967296),0):=by decide +kernel
theorem ex_inv:(xInverse (tLine (-8))).2=0/\tAt (xInverse (tLine (-8))).1 5=(1073741824,1073741824):=by decide +kernel
theorem ex_iu:xInverse xU=(zeroM,7):=by decide +kernel
theorem ex_iz:xInverse zeroM=(zeroM,7):=by decide +kernel
theorem mInv_def:(xInverse (tLine (-8))).1=mInv:=by rw [mInv]
theorem ex_invp:xInverse (tLine (-8))=(mInv,0):=by rw [←mInv_def,←ex_inv.1]
theorem mInv_len:mInv.length=22:=xInverseLen _ (tLine_len _)
theorem gMul {a d m:List (Int×Int)} {n:Int} (ha:a.length=22) (hd:d.length=22) (h:xMul a d=(m,n)) (w:World):Calls Tryz.prog 8 #[mval a,mval d] w fun e w'=>e=.returned (.tuple #[mval m,.int .i64 n])/\Below w.heap.size w w':=by
 have h2:=taw_Mul a d ha hd w
 rw [h] at h2
 exact h2
theorem gBound {a:List (Int×Int)} {m:Int×Int} {n:Int} (ha:a.length=22) (h:xBound a=(m,n)) (w:World):Calls Tryz.prog 10 #[mval a] w fun e w'=>e=.returned (.tuple #[sval m,.int .i64 n])/\Below w.heap.size w w':=by
 have h2:=taw_Bound a ha w
 rw [h] at h2
 exact h2
theorem gInverse {a m:List (Int×Int)} {n:Int} (ha:a.length=22) (h:xInverse a=(m,n)) (w:World):Calls Tryz.prog 16 #[mval a] w fun e w'=>e=.returned (.tuple #[mval m,.int .i64 n])/\Below w.heap.size w w':=by
 have h2:=taw_Inverse a ha w
 rw [h] at h2
 exact h2
theorem cw_uv (w:World):Calls Tryz.prog 8 #[mval xU,mval xV] w fun e w'=>e=.returned (.tuple #[mval mUV,.int .i64 0])/\Below w.heap.size w w':=gMul rfl rfl ex_uv w
theorem cw_uu (w:World):Calls Tryz.prog 8 #[mval xU,mval xU] w fun e w'=>e=.returned (.tuple #[mval mUU,.int .i64 0])/\Below w.heap.size w w':=gMul rfl rfl ex_uu w
theorem cw_bu (w:World):Calls Tryz.prog 10 #[mval xU] w fun e w'=>e=.returned (.tuple #[sval (-4294967296,4294967296),.int .i64 0])/\Below w.heap.size w w':=gBound rfl ex_bu w
theorem cw_bs (w:World):Calls Tryz.prog 10 #[mval mUU] w fun e w'=>e=.returned (.tuple #[sval (0,4294967296),.int .i64 0])/\Below w.heap.size w w':=gBound rfl ex_bs w
theorem cw_inv (w:World):Calls Tryz.prog 16 #[mval (tLine (-8))] w fun e w'=>e=.returned (.tuple #[mval mInv,.int .i64 0])/\Below w.heap.size w w':=gInverse (tLine_len _) ex_invp w
theorem cw_iu (w:World):Calls Tryz.prog 16 #[mval xU] w fun e w'=>e=.returned (.tuple #[mval zeroM,.int .i64 7])/\Below w.heap.size w w':=gInverse rfl ex_iu w
theorem cw_iz (w:World):Calls Tryz.prog 16 #[mval zeroM] w fun e w'=>e=.returned (.tuple #[mval zeroM,.int .i64 7])/\Below w.heap.size w w':=gInverse rfl ex_iz w
structure Wk5_0 (V:World) (b:Nat) (L:Nat->Bool) (s:Nat->Value) (w:World):Prop where
 mu:Mut [] V w
 e0:L 0->s 35=.int .i64 ((0:Nat):Int)
 e1:L 1->s 36=.pointer (some ⟨b,0,none⟩)
 e2:L 2->s 37=.pointer (some ⟨b,0,none⟩)
 e3:L 3->s 38=.int .i64 ((0:Nat):Int)
 e4:L 4->s 39=.int .i64 ((0:Nat):Int)
 e5:L 5->s 40=.pointer (some ⟨b,0,none⟩)
 e6:L 6->s 41=.pointer (some ⟨b,1,none⟩)
 e7:L 7->s 42=.int .i64 ((0:Nat):Int)
 e8:L 8->s 43=.tuple #[.int .i64 0,.int .i64 0]
 e9:L 9->s 34=.tuple #[.int .i64 0,.int .i64 0]
 e10:L 10->s 44=.int .i64 0
 e11:L 11->s 45=.int .i64 0
 e12:L 12->s 4=.int .i64 0
 e13:L 13->s 5=.int .i64 0
structure Wk5_1 (V:World) (b:Nat) (L:Nat->Bool) (s:Nat->Value) (w:World):Prop where
 mu:Mut [] V w
 e0:L 0->s 35=.int .i64 ((1:Nat):Int)
 e1:L 1->s 36=.pointer (some ⟨b,2,none⟩)
 e2:L 2->s 37=.pointer (some ⟨b,2,none⟩)
 e3:L 3->s 38=.int .i64 ((1:Nat):Int)
 e4:L 4->s 39=.int .i64 ((1:Nat):Int)
 e5:L 5->s 40=.pointer (some ⟨b,2,none⟩)
 e6:L 6->s 41=.pointer (some ⟨b,3,none⟩)
 e7:L 7->s 42=.int .i64 ((0:Nat):Int)
 e8:L 8->s 43=.tuple #[.int .i64 2,.int .i64 0]
 e9:L 9->s 34=.tuple #[.int .i64 2,.int .i64 0]
 e10:L 10->s 44=.int .i64 2
 e11:L 11->s 45=.int .i64 0
 e12:L 12->s 4=.int .i64 2
 e13:L 13->s 5=.int .i64 0
structure Wk5_2 (V:World) (b:Nat) (L:Nat->Bool) (s:Nat->Value) (w:World):Prop where
 mu:Mut [] V w
 e0:L 0->s 35=.int .i64 ((2:Nat):Int)
 e1:L 1->s 36=.pointer (some ⟨b,4,none⟩)
 e2:L 2->s 37=.pointer (some ⟨b,4,none⟩)
 e3:L 3->s 38=.int .i64 ((0:Nat):Int)
 e4:L 4->s 39=.int .i64 ((2:Nat):Int)
 e5:L 5->s 40=.pointer (some ⟨b,4,none⟩)
 e6:L 6->s 41=.pointer (some ⟨b,5,none⟩)
 e7:L 7->s 42=.int .i64 ((5:Nat):Int)
 e8:L 8->s 43=.tuple #[.int .i64 15,.int .i64 0]
 e9:L 9->s 34=.tuple #[.int .i64 15,.int .i64 0]
 e10:L 10->s 44=.int .i64 15
 e11:L 11->s 45=.int .i64 0
 e12:L 12->s 4=.int .i64 15
 e13:L 13->s 5=.int .i64 0
structure Wk5_3 (V:World) (b:Nat) (L:Nat->Bool) (s:Nat->Value) (w:World):Prop where
 mu:Mut [] V w
 e0:L 0->s 35=.int .i64 ((3:Nat):Int)
 e1:L 1->s 36=.pointer (some ⟨b,6,none⟩)
 e2:L 2->s 37=.pointer (some ⟨b,6,none⟩)
 e3:L 3->s 38=.int .i64 ((5:Nat):Int)
 e4:L 4->s 39=.int .i64 ((3:Nat):Int)
 e5:L 5->s 40=.pointer (some ⟨b,6,none⟩)
 e6:L 6->s 41=.pointer (some ⟨b,7,none⟩)
 e7:L 7->s 42=.int .i64 ((0:Nat):Int)
 e8:L 8->s 43=.tuple #[.int .i64 20,.int .i64 0]
 e9:L 9->s 34=.tuple #[.int .i64 20,.int .i64 0]
 e10:L 10->s 44=.int .i64 20
 e11:L 11->s 45=.int .i64 0
 e12:L 12->s 4=.int .i64 20
 e13:L 13->s 5=.int .i64 0
structure Wk5_4 (V:World) (b:Nat) (L:Nat->Bool) (s:Nat->Value) (w:World):Prop where
 mu:Mut [] V w
 e0:L 0->s 35=.int .i64 ((4:Nat):Int)
 e1:L 1->s 36=.pointer (some ⟨b,8,none⟩)
 e2:L 2->s 37=.pointer (some ⟨b,8,none⟩)
 e3:L 3->s 38=.int .i64 ((3:Nat):Int)
 e4:L 4->s 39=.int .i64 ((4:Nat):Int)
 e5:L 5->s 40=.pointer (some ⟨b,8,none⟩)
 e6:L 6->s 41=.pointer (some ⟨b,9,none⟩)
 e7:L 7->s 42=.int .i64 ((3:Nat):Int)
 e8:L 8->s 43=.tuple #[.int .i64 0,.int .i64 2]
 e9:L 9->s 34=.tuple #[.int .i64 0,.int .i64 2]
 e10:L 10->s 44=.int .i64 0
 e11:L 11->s 45=.int .i64 2
 e12:L 12->s 4=.int .i64 0
 e13:L 13->s 5=.int .i64 2
structure Wk9 (V:World) (b:Nat) (L:Nat->Bool) (s:Nat->Value) (w:World):Prop where
 mu:Mut [] V w
 e0:L 0->s 65=mval xU
 e1:L 1->s 66=mval xV
 al_u:L 2->∃g:Nat,s 6=.pointer (some ⟨g,0,none⟩)/\V.heap.size<=g/\g<w.heap.size/\(L 4=false->w.heap[g]?=some (cobj 34 zeroM))/\(L 4=true->w.heap[g]?=some (cobj 34 xU))
 dn_u_v:L 2->L 3->s 6≠s 7
 al_v:L 3->∃g:Nat,s 7=.pointer (some ⟨g,0,none⟩)/\V.heap.size<=g/\g<w.heap.size/\(L 5=false->w.heap[g]?=some (cobj 34 zeroM))/\(L 5=true->w.heap[g]?=some (cobj 34 xV))
 b4_2:L 4->L 2
 b5_3:L 5->L 3
structure Wk11 (V:World) (b:Nat) (g0:Nat) (g1:Nat) (g2:Nat) (L:Nat->Bool) (s:Nat->Value) (w:World):Prop where
 mu:Mut [g2] V w
 kt_uv:L 3=false->w.heap[g2]?=some (cobj 34 zeroM)
 kr_uv:L 3->w.heap[g2]?=some (cobj 34 (zeroM.set 4 (4294967296,4294967296)))
 e0:L 0->s 67=sval (4294967296,4294967296)
 e1:L 1->s 68=.pointer (some ⟨g2,0,none⟩)
 e2:L 2->s 69=.pointer (some ⟨g2,4*2,none⟩)
structure Wk12 (V:World) (b:Nat) (g0:Nat) (g1:Nat) (g2:Nat) (L:Nat->Bool) (s:Nat->Value) (w:World):Prop where
 mu:Mut [] V w
 e0:L 0->s 71=mval xU
 e1:L 1->s 72=mval xV
 e2:L 2->s 73=.tuple #[mval mUV,.int .i64 0]
 e3:L 3->s 70=.tuple #[mval mUV,.int .i64 0]
 e4:L 4->s 74=mval mUV
 e5:L 5->s 75=.int .i64 0
 al_a:L 6->∃g:Nat,s 9=.pointer (some ⟨g,0,none⟩)/\V.heap.size<=g/\g<w.heap.size/\(L 7=false->w.heap[g]?=some (cobj 34 zeroM))/\(L 7=true->w.heap[g]?=some (cobj 34 mUV))
 e8:L 8->s 10=.int .i64 0
 b7_6:L 7->L 6
structure Wk13 (V:World) (b:Nat) (g0:Nat) (g1:Nat) (g2:Nat) (g3:Nat) (L:Nat->Bool) (s:Nat->Value) (w:World):Prop where
 mu:Mut [] V w
 e0:L 0->s 77=mval xU
 e1:L 1->s 78=.tuple #[sval (-4294967296,4294967296),.int .i64 0]
 e2:L 2->s 76=.tuple #[sval (-4294967296,4294967296),.int .i64 0]
 e3:L 3->s 79=sval (-4294967296,4294967296)
 e4:L 4->s 80=.int .i64 0
 al_bb:L 5->∃g:Nat,s 11=.pointer (some ⟨g,0,none⟩)/\V.heap.size<=g/\g<w.heap.size/\(L 6=false->w.heap[g]?=some (cobj 31 [(0,0)]))/\(L 6=true->w.heap[g]?=some (cobj 31 [(-4294967296,4294967296)]))
 e7:L 7->s 12=.int .i64 0
 b6_5:L 6->L 5
structure Wk14 (V:World) (b:Nat) (g0:Nat) (g1:Nat) (g2:Nat) (g3:Nat) (g4:Nat) (L:Nat->Bool) (s:Nat->Value) (w:World):Prop where
 mu:Mut [] V w
 e0:L 0->s 82=mval xU
 e1:L 1->s 83=mval xU
 e2:L 2->s 84=.tuple #[mval mUU,.int .i64 0]
 e3:L 3->s 81=.tuple #[mval mUU,.int .i64 0]
 e4:L 4->s 85=mval mUU
 e5:L 5->s 86=.int .i64 0
 al_sq:L 6->∃g:Nat,s 13=.pointer (some ⟨g,0,none⟩)/\V.heap.size<=g/\g<w.heap.size/\(L 7=false->w.heap[g]?=some (cobj 34 zeroM))/\(L 7=true->w.heap[g]?=some (cobj 34 mUU))
 e8:L 8->s 14=.int .i64 0
 b7_6:L 7->L 6
structure Wk15 (V:World) (b:Nat) (g0:Nat) (g1:Nat) (g2:Nat) (g3:Nat) (g4:Nat) (g5:Nat) (L:Nat->Bool) (s:Nat->Value) (w:World):Prop where
 mu:Mut [] V w
 e0:L 0->s 88=mval mUU
 e1:L 1->s 89=.tuple #[sval (0,4294967296),.int .i64 0]
 e2:L 2->s 87=.tuple #[sval (0,4294967296),.int .i64 0]
 e3:L 3->s 90=sval (0,4294967296)
 e4:L 4->s 91=.int .i64 0
 al_cc:L 5->∃g:Nat,s 15=.pointer (some ⟨g,0,none⟩)/\V.heap.size<=g/\g<w.heap.size/\(L 6=false->w.heap[g]?=some (cobj 31 [(0,0)]))/\(L 6=true->w.heap[g]?=some (cobj 31 [(0,4294967296)]))
 e7:L 7->s 16=.int .i64 0
 b6_5:L 6->L 5
structure Wk16 (V:World) (b:Nat) (g0:Nat) (g1:Nat) (g2:Nat) (g3:Nat) (g4:Nat) (g5:Nat) (g6:Nat) (L:Nat->Bool) (s:Nat->Value) (w:World):Prop where
 mu:Mut [] V w
 e0:L 0->s 93=mval (tLine (-8))
 e1:L 1->s 94=.tuple #[mval mInv,.int .i64 0]
 e2:L 2->s 92=.tuple #[mval mInv,.int .i64 0]
 e3:L 3->s 95=mval mInv
 e4:L 4->s 96=.int .i64 0
 al_iv:L 5->∃g:Nat,s 17=.pointer (some ⟨g,0,none⟩)/\V.heap.size<=g/\g<w.heap.size/\(L 6=false->w.heap[g]?=some (cobj 34 zeroM))/\(L 6=true->w.heap[g]?=some (cobj 34 mInv))
 e7:L 7->s 18=.int .i64 0
 b6_5:L 6->L 5
structure Wk17 (V:World) (b:Nat) (g0:Nat) (g1:Nat) (g2:Nat) (g3:Nat) (g4:Nat) (g5:Nat) (g6:Nat) (g7:Nat) (L:Nat->Bool) (s:Nat->Value) (w:World):Prop where
 mu:Mut [] V w
 e0:L 0->s 98=mval xU
 e1:L 1->s 99=.tuple #[mval zeroM,.int .i64 7]
 e2:L 2->s 97=.tuple #[mval zeroM,.int .i64 7]
 e3:L 3->s 100=mval zeroM
 e4:L 4->s 101=.int .i64 7
 al_j1:L 5->∃g:Nat,s 19=.pointer (some ⟨g,0,none⟩)/\V.heap.size<=g/\g<w.heap.size/\(L 6=false->w.heap[g]?=some (cobj 34 zeroM))/\(L 6=true->w.heap[g]?=some (cobj 34 zeroM))
 e7:L 7->s 20=.int .i64 7
 b6_5:L 6->L 5
structure Wk18 (V:World) (b:Nat) (g0:Nat) (g1:Nat) (g2:Nat) (g3:Nat) (g4:Nat) (g5:Nat) (g6:Nat) (g7:Nat) (g8:Nat) (L:Nat->Bool) (s:Nat->Value) (w:World):Prop where
 mu:Mut [] V w
 e0:L 0->s 103=mval zeroM
 e1:L 1->s 104=.tuple #[mval zeroM,.int .i64 7]
 e2:L 2->s 102=.tuple #[mval zeroM,.int .i64 7]
 e3:L 3->s 105=mval zeroM
 e4:L 4->s 106=.int .i64 7
 al_j2:L 5->∃g:Nat,s 21=.pointer (some ⟨g,0,none⟩)/\V.heap.size<=g/\g<w.heap.size/\(L 6=false->w.heap[g]?=some (cobj 34 zeroM))/\(L 6=true->w.heap[g]?=some (cobj 34 zeroM))
 e7:L 7->s 22=.int .i64 7
 b6_5:L 6->L 5
structure Wk19 (V:World) (b:Nat) (g0:Nat) (g1:Nat) (g2:Nat) (g3:Nat) (g4:Nat) (g5:Nat) (g6:Nat) (g7:Nat) (g8:Nat) (g9:Nat) (L:Nat->Bool) (s:Nat->Value) (w:World):Prop where
 mu:Mut [] V w
 e0:L 0->s 107=.int .i64 0
 e1:L 1->s 108=.bool true
 e2:L 2->s 109=.bool true
 e3:L 3->s 110=mval mUV
 e4:L 4->s 111=mval (zeroM.set 4 (4294967296,4294967296))
 e5:L 5->s 112=.bool true
 e6:L 6->s 113=.bool true
 e7:L 7->s 114=.bool true
 e8:L 8->s 115=.int .i64 0
 e9:L 9->s 116=.bool true
 e10:L 10->s 117=.bool true
 e11:L 11->s 118=.bool true
 e12:L 12->s 119=sval (-4294967296,4294967296)
 e13:L 13->s 120=sval ((-4294967296,4294967296):Int×Int)
 e14:L 14->s 121=.bool true
 e15:L 15->s 122=.bool true
 e16:L 16->s 123=.bool true
 e17:L 17->s 124=.int .i64 0
 e18:L 18->s 125=.bool true
 e19:L 19->s 126=.bool true
 e20:L 20->s 127=.bool true
 e21:L 21->s 128=.int .i64 0
 e22:L 22->s 129=.bool true
 e23:L 23->s 130=.bool true
 e24:L 24->s 131=.bool true
 e25:L 25->s 132=sval (0,4294967296)
 e26:L 26->s 133=sval ((0,4294967296):Int×Int)
 e27:L 27->s 134=.bool true
 e28:L 28->s 135=.bool true
 e29:L 29->s 136=.bool true
 e30:L 30->s 137=.int .i64 0
 e31:L 31->s 138=.bool true
 e32:L 32->s 139=.bool true
 e33:L 33->s 140=.bool true
 e34:L 34->s 141=.pointer (some ⟨g7,0,none⟩)
 e35:L 35->s 142=.pointer (some ⟨g7,5*2,none⟩)
 e36:L 36->s 143=sval (tAt mInv 5)
 e37:L 37->s 144=sval (1073741824,1073741824)
 e38:L 38->s 145=.bool true
 e39:L 39->s 146=.bool true
 e40:L 40->s 147=.bool true
 e41:L 41->s 148=.int .i64 7
 e42:L 42->s 149=.bool true
 e43:L 43->s 150=.bool true
 e44:L 44->s 151=.bool true
 e45:L 45->s 152=.int .i64 7
 e46:L 46->s 153=.bool true
 e47:L 47->s 154=.bool true
 e48:L 48->s 0=.bool true
set_option maxHeartbeats 8000000 in
theorem law21_works (w:World):Calls Tryz.prog 6 #[] w fun e w'=>e=.returned (.bool true)/\Below w.heap.size w w':=by
 go_enter Tryz.func6,Tryz.ntmps6
 refine wsk fun K0 HK0=>?_
 go_wp2_with fail
 refine HK0.out _ _ ?_
 refine wsk fun K1 HK1=>?_
 go_wp2_with fail
 refine HK1.out _ _ ?_
 obtain ⟨b,hb⟩:∃b,w.heap.size=b:=⟨_,rfl⟩
 refine wp_world (fun V=>Mut [] w V/\V.heap[b]?=some (.cells #[.int .i64 0,.int .i64 0,.int .i64 1,.int .i64 0,.int .i64 0,.int .i64 5,.int .i64 5,.int .i64 0,.int .i64 3,.int .i64 3] 51 (0,0))) ?_
  (by
   rw [←hb]
   exact ⟨(Mut.refl _ _).alloc _,heap_at _ (by simp)⟩)
 rintro V0 ⟨hm,hP⟩
 rw [hb]
 have HM0:=lh hm
 have HBW:=lh hb
 have HPL:=lh hP
 clear hm hP hb HK0 HK1
 refine wsk fun K2 HK2=>?_
 go_wp2_with fail
 go_loopw [30] (fun x wr=>∃k:Nat,k<=5/\x=.int .i64 k/\Hid (Mut [] V0 wr)) (fun x _=>5-(intOf x).toNat)
 case atStart=>exact ⟨0,by omega,rfl,lh (Mut.refl _ _)⟩
 case round =>
  obtain ⟨k,hn,rfl,HG⟩:=hrel
  obtain rfl | rfl | rfl | rfl | rfl | rfl:k=0∨k=1∨k=2∨k=3∨k=4∨k=5:=by omega
  ·clear hn
   have hix:∀W,(Instr.index 52 (.agg #[.int .i64 0,.int .i64 2,.int .i64 15,.int .i64 20,.int .i64 0]) (.int .i64 0)).run Tryz.prog W=.ok (.int .i64 0) W:=fun _=>by kernel_rfl
   refine wsk fun K1 HK1=>?_
   go_wp2_with fail
   refine HK1.out _ _ ?_
   refine wsk fun K2 HK2=>?_
   go_wp2_with fail
   refine HK2.out _ _ ?_
   refine wsk fun K3 HK3=>?_
   refine wp_block ?_
   refine wsk fun K4 HK4=>?_
   go_wp2_with fail
   refine HK4.out _ _ ?_
   clear hix
   have HP:=lh ((HG.out.same _ (lt_of_block HPL.out) (by simp)).trans HPL.out)
   obtain ⟨V,hV⟩:∃V,V=wr:=⟨_,rfl⟩
   rw [←hV] at HG HP ⊢
   clear hV
   refine wsk fun K5 HK5=>?_
   refine wc (nn::nn::nn::nn::some 4::some 5::n8 (n8 (n8 (nn::nn::nn::nn::some 34::some 35::some 36::some 37::some 38::some 39::some 40::some 41::some 42::some 43::some 44::some 45::n8 (n8 (n8 (n8 (n8 (n8 (n8 (n8 (n8 (n8 (n8 (n8 (n8 (nn::nn::nn::nn::nn::[]))))))))))))))))) (fun s w'=>Mut [] V w'/\s 4=.int .i64 0/\s 5=.int .i64 0) ?_ ?_
   ·intro Q2 hQ2
    refine wG (Wk5_0 V b) ?_ ?_ ?_
    ·exact ⟨Mut.start _ true _,nB,nB,nB,nB,nB,nB,nB,nB,nB,nB,nB,nB,nB,nB⟩
    ·refine aC ?_ (aC ?_ (aC ?_ (aC ?_ (aC ?_ (aC ?_ (aC ?_ (aC ?_ (aC ?_ (aC ?_ (aC ?_ (aC ?_ (aC ?_ (aC ?_ aN)))))))))))))
     ·intro L s w2 h hk hd hn K hK
      have s2:s 2=_:=hk 2
      go_simp
      exact hK {h with e0:=rF}
     ·intro L s w2 h hk hd hn K hK
      have s1:s 1=_:=hk 1
      have s35:=h.e0 hd.1
      go_simp
      exact hK {h with e1:=rF}
     ·intro L s w2 h hk hd hn K hK
      have s36:=h.e1 hd.1
      go_simp
      exact hK {h with e2:=rF}
     ·intro L s w2 h hk hd hn K hK
      have s37:=h.e2 hd.1
      have kq:=(h.mu.same _ (lt_of_block HP.out) (by simp)).trans HP.out
      have kc:w2.cell? ⟨b,0,none⟩=some (.int .i64 0):=by rw [cell_of_row w2 b 0 _ _ _ kq];rfl
      go_simp
      exact hK {h with e3:=rF}
     ·intro L s w2 h hk hd hn K hK
      have s2:s 2=_:=hk 2
      go_simp
      exact hK {h with e4:=rF}
     ·intro L s w2 h hk hd hn K hK
      have s1:s 1=_:=hk 1
      have s39:=h.e4 hd.1
      go_simp
      exact hK {h with e5:=rF}
     ·intro L s w2 h hk hd hn K hK
      have s40:=h.e5 hd.1
      go_simp
      exact hK {h with e6:=rF}
     ·intro L s w2 h hk hd hn K hK
      have s41:=h.e6 hd.1
      have kq:=(h.mu.same _ (lt_of_block HP.out) (by simp)).trans HP.out
      have kc:w2.cell? ⟨b,1,none⟩=some (.int .i64 0):=by rw [cell_of_row w2 b 1 _ _ _ kq];rfl
      go_simp
      exact hK {h with e7:=rF}
     ·intro L s w2 h hk hd hn K hK
      have s38:=h.e3 hd.1
      have s42:=h.e7 hd.2.1
      go_simp
      refine (pl_00 _).mono ?_
      rintro e w3 ⟨rfl,hb⟩
      exact .inl ⟨_,rfl,hK {h with mu:=h.mu.step hb,e8:=rF}⟩
     ·intro L s w2 h hk hd hn K hK
      exact rs_move rfl (h.e8 hd.1) (hK {h with e9:=rF})
     ·intro L s w2 h hk hd hn K hK
      exact rs_extract rfl (h.e9 hd.1) rfl (hK {h with e10:=rF})
     ·intro L s w2 h hk hd hn K hK
      exact rs_extract rfl (h.e9 hd.1) rfl (hK {h with e11:=rF})
     ·intro L s w2 h hk hd hn K hK
      exact rs_assign rfl (h.e10 hd.1) (hK {h with e12:=rF})
     ·intro L s w2 h hk hd hn K hK
      exact rs_assign rfl (h.e11 hd.1) (hK {h with e13:=rF})
    ·intro L s w2 h hk hl
     refine cA ?_ (hQ2 s w2 (⟨h.mu,h.e12 (hl 12),h.e13 (hl 13)⟩))
     exact fq hk
   rintro s5 V5 ⟨h1,k4,k5⟩
   simp only [mergeL]
   rw [k4,k5]
   have HF:=lh (show Mut [] V0 V5 from HG.out.trans h1)
   clear h1 k4 k5
   refine HK5.out _ _ ?_
   go_wp2_with fail
   refine HK3.out _ _ ?_
   go_wp2_with fail
   go_roundw
   case rel=>first | exact ⟨0+1,by omega,by go_num,HF⟩ | ((repeat apply Exists.intro);exact ⟨⟨0+1,by omega,by go_num,HF⟩,rfl⟩)
   case measure=>simp [intOf]
  ·clear hn
   have hix:∀W,(Instr.index 52 (.agg #[.int .i64 0,.int .i64 2,.int .i64 15,.int .i64 20,.int .i64 0]) (.int .i64 1)).run Tryz.prog W=.ok (.int .i64 2) W:=fun _=>by kernel_rfl
   refine wsk fun K1 HK1=>?_
   go_wp2_with fail
   refine HK1.out _ _ ?_
   refine wsk fun K2 HK2=>?_
   go_wp2_with fail
   refine HK2.out _ _ ?_
   refine wsk fun K3 HK3=>?_
   refine wp_block ?_
   refine wsk fun K4 HK4=>?_
   go_wp2_with fail
   refine HK4.out _ _ ?_
   clear hix
   have HP:=lh ((HG.out.same _ (lt_of_block HPL.out) (by simp)).trans HPL.out)
   obtain ⟨V,hV⟩:∃V,V=wr:=⟨_,rfl⟩
   rw [←hV] at HG HP ⊢
   clear hV
   refine wsk fun K5 HK5=>?_
   refine wc (nn::nn::nn::nn::some 4::some 5::n8 (n8 (n8 (nn::nn::nn::nn::some 34::some 35::some 36::some 37::some 38::some 39::some 40::some 41::some 42::some 43::some 44::some 45::n8 (n8 (n8 (n8 (n8 (n8 (n8 (n8 (n8 (n8 (n8 (n8 (n8 (nn::nn::nn::nn::nn::[]))))))))))))))))) (fun s w'=>Mut [] V w'/\s 4=.int .i64 2/\s 5=.int .i64 0) ?_ ?_
   ·intro Q2 hQ2
    refine wG (Wk5_1 V b) ?_ ?_ ?_
    ·exact ⟨Mut.start _ true _,nB,nB,nB,nB,nB,nB,nB,nB,nB,nB,nB,nB,nB,nB⟩
    ·refine aC ?_ (aC ?_ (aC ?_ (aC ?_ (aC ?_ (aC ?_ (aC ?_ (aC ?_ (aC ?_ (aC ?_ (aC ?_ (aC ?_ (aC ?_ (aC ?_ aN)))))))))))))
     ·intro L s w2 h hk hd hn K hK
      have s2:s 2=_:=hk 2
      go_simp
      exact hK {h with e0:=rF}
     ·intro L s w2 h hk hd hn K hK
      have s1:s 1=_:=hk 1
      have s35:=h.e0 hd.1
      go_simp
      exact hK {h with e1:=rF}
     ·intro L s w2 h hk hd hn K hK
      have s36:=h.e1 hd.1
      go_simp
      exact hK {h with e2:=rF}
     ·intro L s w2 h hk hd hn K hK
      have s37:=h.e2 hd.1
      have kq:=(h.mu.same _ (lt_of_block HP.out) (by simp)).trans HP.out
      have kc:w2.cell? ⟨b,2,none⟩=some (.int .i64 1):=by rw [cell_of_row w2 b 2 _ _ _ kq];rfl
      go_simp
      exact hK {h with e3:=rF}
     ·intro L s w2 h hk hd hn K hK
      have s2:s 2=_:=hk 2
      go_simp
      exact hK {h with e4:=rF}
     ·intro L s w2 h hk hd hn K hK
      have s1:s 1=_:=hk 1
      have s39:=h.e4 hd.1
      go_simp
      exact hK {h with e5:=rF}
     ·intro L s w2 h hk hd hn K hK
      have s40:=h.e5 hd.1
      go_simp
      exact hK {h with e6:=rF}
     ·intro L s w2 h hk hd hn K hK
      have s41:=h.e6 hd.1
      have kq:=(h.mu.same _ (lt_of_block HP.out) (by simp)).trans HP.out
      have kc:w2.cell? ⟨b,3,none⟩=some (.int .i64 0):=by rw [cell_of_row w2 b 3 _ _ _ kq];rfl
      go_simp
      exact hK {h with e7:=rF}
     ·intro L s w2 h hk hd hn K hK
      have s38:=h.e3 hd.1
      have s42:=h.e7 hd.2.1
      go_simp
      refine (pl_10 _).mono ?_
      rintro e w3 ⟨rfl,hb⟩
      exact .inl ⟨_,rfl,hK {h with mu:=h.mu.step hb,e8:=rF}⟩
     ·intro L s w2 h hk hd hn K hK
      exact rs_move rfl (h.e8 hd.1) (hK {h with e9:=rF})
     ·intro L s w2 h hk hd hn K hK
      exact rs_extract rfl (h.e9 hd.1) rfl (hK {h with e10:=rF})
     ·intro L s w2 h hk hd hn K hK
      exact rs_extract rfl (h.e9 hd.1) rfl (hK {h with e11:=rF})
     ·intro L s w2 h hk hd hn K hK
      exact rs_assign rfl (h.e10 hd.1) (hK {h with e12:=rF})
     ·intro L s w2 h hk hd hn K hK
      exact rs_assign rfl (h.e11 hd.1) (hK {h with e13:=rF})
    ·intro L s w2 h hk hl
     refine cA ?_ (hQ2 s w2 (⟨h.mu,h.e12 (hl 12),h.e13 (hl 13)⟩))
     exact fq hk
   rintro s5 V5 ⟨h1,k4,k5⟩
   simp only [mergeL]
   rw [k4,k5]
   have HF:=lh (show Mut [] V0 V5 from HG.out.trans h1)
   clear h1 k4 k5
   refine HK5.out _ _ ?_
   go_wp2_with fail
   refine HK3.out _ _ ?_
   go_wp2_with fail
   go_roundw
   case rel=>first | exact ⟨1+1,by omega,by go_num,HF⟩ | ((repeat apply Exists.intro);exact ⟨⟨1+1,by omega,by go_num,HF⟩,rfl⟩)
   case measure=>simp [intOf]
  ·clear hn
   have hix:∀W,(Instr.index 52 (.agg #[.int .i64 0,.int .i64 2,.int .i64 15,.int .i64 20,.int .i64 0]) (.int .i64 2)).run Tryz.prog W=.ok (.int .i64 15) W:=fun _=>by kernel_rfl
   refine wsk fun K1 HK1=>?_
   go_wp2_with fail
   refine HK1.out _ _ ?_
   refine wsk fun K2 HK2=>?_
   go_wp2_with fail
   refine HK2.out _ _ ?_
   refine wsk fun K3 HK3=>?_
   refine wp_block ?_
   refine wsk fun K4 HK4=>?_
   go_wp2_with fail
   refine HK4.out _ _ ?_
   clear hix
   have HP:=lh ((HG.out.same _ (lt_of_block HPL.out) (by simp)).trans HPL.out)
   obtain ⟨V,hV⟩:∃V,V=wr:=⟨_,rfl⟩
   rw [←hV] at HG HP ⊢
   clear hV
   refine wsk fun K5 HK5=>?_
   refine wc (nn::nn::nn::nn::some 4::some 5::n8 (n8 (n8 (nn::nn::nn::nn::some 34::some 35::some 36::some 37::some 38::some 39::some 40::some 41::some 42::some 43::some 44::some 45::n8 (n8 (n8 (n8 (n8 (n8 (n8 (n8 (n8 (n8 (n8 (n8 (n8 (nn::nn::nn::nn::nn::[]))))))))))))))))) (fun s w'=>Mut [] V w'/\s 4=.int .i64 15/\s 5=.int .i64 0) ?_ ?_
   ·intro Q2 hQ2
    refine wG (Wk5_2 V b) ?_ ?_ ?_
    ·exact ⟨Mut.start _ true _,nB,nB,nB,nB,nB,nB,nB,nB,nB,nB,nB,nB,nB,nB⟩
    ·refine aC ?_ (aC ?_ (aC ?_ (aC ?_ (aC ?_ (aC ?_ (aC ?_ (aC ?_ (aC ?_ (aC ?_ (aC ?_ (aC ?_ (aC ?_ (aC ?_ aN)))))))))))))
     ·intro L s w2 h hk hd hn K hK
      have s2:s 2=_:=hk 2
      go_simp
      exact hK {h with e0:=rF}
     ·intro L s w2 h hk hd hn K hK
      have s1:s 1=_:=hk 1
      have s35:=h.e0 hd.1
      go_simp
      exact hK {h with e1:=rF}
     ·intro L s w2 h hk hd hn K hK
      have s36:=h.e1 hd.1
      go_simp
      exact hK {h with e2:=rF}
     ·intro L s w2 h hk hd hn K hK
      have s37:=h.e2 hd.1
      have kq:=(h.mu.same _ (lt_of_block HP.out) (by simp)).trans HP.out
      have kc:w2.cell? ⟨b,4,none⟩=some (.int .i64 0):=by rw [cell_of_row w2 b 4 _ _ _ kq];rfl
      go_simp
      exact hK {h with e3:=rF}
     ·intro L s w2 h hk hd hn K hK
      have s2:s 2=_:=hk 2
      go_simp
      exact hK {h with e4:=rF}
     ·intro L s w2 h hk hd hn K hK
      have s1:s 1=_:=hk 1
      have s39:=h.e4 hd.1
      go_simp
      exact hK {h with e5:=rF}
     ·intro L s w2 h hk hd hn K hK
      have s40:=h.e5 hd.1
      go_simp
      exact hK {h with e6:=rF}
     ·intro L s w2 h hk hd hn K hK
      have s41:=h.e6 hd.1
      have kq:=(h.mu.same _ (lt_of_block HP.out) (by simp)).trans HP.out
      have kc:w2.cell? ⟨b,5,none⟩=some (.int .i64 5):=by rw [cell_of_row w2 b 5 _ _ _ kq];rfl
      go_simp
      exact hK {h with e7:=rF}
     ·intro L s w2 h hk hd hn K hK
      have s38:=h.e3 hd.1
      have s42:=h.e7 hd.2.1
      go_simp
      refine (pl_05 _).mono ?_
      rintro e w3 ⟨rfl,hb⟩
      exact .inl ⟨_,rfl,hK {h with mu:=h.mu.step hb,e8:=rF}⟩
     ·intro L s w2 h hk hd hn K hK
      exact rs_move rfl (h.e8 hd.1) (hK {h with e9:=rF})
     ·intro L s w2 h hk hd hn K hK
      exact rs_extract rfl (h.e9 hd.1) rfl (hK {h with e10:=rF})
     ·intro L s w2 h hk hd hn K hK
      exact rs_extract rfl (h.e9 hd.1) rfl (hK {h with e11:=rF})
     ·intro L s w2 h hk hd hn K hK
      exact rs_assign rfl (h.e10 hd.1) (hK {h with e12:=rF})
     ·intro L s w2 h hk hd hn K hK
      exact rs_assign rfl (h.e11 hd.1) (hK {h with e13:=rF})
    ·intro L s w2 h hk hl
     refine cA ?_ (hQ2 s w2 (⟨h.mu,h.e12 (hl 12),h.e13 (hl 13)⟩))
     exact fq hk
   rintro s5 V5 ⟨h1,k4,k5⟩
   simp only [mergeL]
   rw [k4,k5]
   have HF:=lh (show Mut [] V0 V5 from HG.out.trans h1)
   clear h1 k4 k5
   refine HK5.out _ _ ?_
   go_wp2_with fail
   refine HK3.out _ _ ?_
   go_wp2_with fail
   go_roundw
   case rel=>first | exact ⟨2+1,by omega,by go_num,HF⟩ | ((repeat apply Exists.intro);exact ⟨⟨2+1,by omega,by go_num,HF⟩,rfl⟩)
   case measure=>simp [intOf]
  ·clear hn
   have hix:∀W,(Instr.index 52 (.agg #[.int .i64 0,.int .i64 2,.int .i64 15,.int .i64 20,.int .i64 0]) (.int .i64 3)).run Tryz.prog W=.ok (.int .i64 20) W:=fun _=>by kernel_rfl
   refine wsk fun K1 HK1=>?_
   go_wp2_with fail
   refine HK1.out _ _ ?_
   refine wsk fun K2 HK2=>?_
   go_wp2_with fail
   refine HK2.out _ _ ?_
   refine wsk fun K3 HK3=>?_
   refine wp_block ?_
   refine wsk fun K4 HK4=>?_
   go_wp2_with fail
   refine HK4.out _ _ ?_
   clear hix
   have HP:=lh ((HG.out.same _ (lt_of_block HPL.out) (by simp)).trans HPL.out)
   obtain ⟨V,hV⟩:∃V,V=wr:=⟨_,rfl⟩
   rw [←hV] at HG HP ⊢
   clear hV
   refine wsk fun K5 HK5=>?_
   refine wc (nn::nn::nn::nn::some 4::some 5::n8 (n8 (n8 (nn::nn::nn::nn::some 34::some 35::some 36::some 37::some 38::some 39::some 40::some 41::some 42::some 43::some 44::some 45::n8 (n8 (n8 (n8 (n8 (n8 (n8 (n8 (n8 (n8 (n8 (n8 (n8 (nn::nn::nn::nn::nn::[]))))))))))))))))) (fun s w'=>Mut [] V w'/\s 4=.int .i64 20/\s 5=.int .i64 0) ?_ ?_
   ·intro Q2 hQ2
    refine wG (Wk5_3 V b) ?_ ?_ ?_
    ·exact ⟨Mut.start _ true _,nB,nB,nB,nB,nB,nB,nB,nB,nB,nB,nB,nB,nB,nB⟩
    ·refine aC ?_ (aC ?_ (aC ?_ (aC ?_ (aC ?_ (aC ?_ (aC ?_ (aC ?_ (aC ?_ (aC ?_ (aC ?_ (aC ?_ (aC ?_ (aC ?_ aN)))))))))))))
     ·intro L s w2 h hk hd hn K hK
      have s2:s 2=_:=hk 2
      go_simp
      exact hK {h with e0:=rF}
     ·intro L s w2 h hk hd hn K hK
      have s1:s 1=_:=hk 1
      have s35:=h.e0 hd.1
      go_simp
      exact hK {h with e1:=rF}
     ·intro L s w2 h hk hd hn K hK
      have s36:=h.e1 hd.1
      go_simp
      exact hK {h with e2:=rF}
     ·intro L s w2 h hk hd hn K hK
      have s37:=h.e2 hd.1
      have kq:=(h.mu.same _ (lt_of_block HP.out) (by simp)).trans HP.out
      have kc:w2.cell? ⟨b,6,none⟩=some (.int .i64 5):=by rw [cell_of_row w2 b 6 _ _ _ kq];rfl
      go_simp
      exact hK {h with e3:=rF}
     ·intro L s w2 h hk hd hn K hK
      have s2:s 2=_:=hk 2
      go_simp
      exact hK {h with e4:=rF}
     ·intro L s w2 h hk hd hn K hK
      have s1:s 1=_:=hk 1
      have s39:=h.e4 hd.1
      go_simp
      exact hK {h with e5:=rF}
     ·intro L s w2 h hk hd hn K hK
      have s40:=h.e5 hd.1
      go_simp
      exact hK {h with e6:=rF}
     ·intro L s w2 h hk hd hn K hK
      have s41:=h.e6 hd.1
      have kq:=(h.mu.same _ (lt_of_block HP.out) (by simp)).trans HP.out
      have kc:w2.cell? ⟨b,7,none⟩=some (.int .i64 0):=by rw [cell_of_row w2 b 7 _ _ _ kq];rfl
      go_simp
      exact hK {h with e7:=rF}
     ·intro L s w2 h hk hd hn K hK
      have s38:=h.e3 hd.1
      have s42:=h.e7 hd.2.1
      go_simp
      refine (pl_50 _).mono ?_
      rintro e w3 ⟨rfl,hb⟩
      exact .inl ⟨_,rfl,hK {h with mu:=h.mu.step hb,e8:=rF}⟩
     ·intro L s w2 h hk hd hn K hK
      exact rs_move rfl (h.e8 hd.1) (hK {h with e9:=rF})
     ·intro L s w2 h hk hd hn K hK
      exact rs_extract rfl (h.e9 hd.1) rfl (hK {h with e10:=rF})
     ·intro L s w2 h hk hd hn K hK
      exact rs_extract rfl (h.e9 hd.1) rfl (hK {h with e11:=rF})
     ·intro L s w2 h hk hd hn K hK
      exact rs_assign rfl (h.e10 hd.1) (hK {h with e12:=rF})
     ·intro L s w2 h hk hd hn K hK
      exact rs_assign rfl (h.e11 hd.1) (hK {h with e13:=rF})
    ·intro L s w2 h hk hl
     refine cA ?_ (hQ2 s w2 (⟨h.mu,h.e12 (hl 12),h.e13 (hl 13)⟩))
     exact fq hk
   rintro s5 V5 ⟨h1,k4,k5⟩
   simp only [mergeL]
   rw [k4,k5]
   have HF:=lh (show Mut [] V0 V5 from HG.out.trans h1)
   clear h1 k4 k5
   refine HK5.out _ _ ?_
   go_wp2_with fail
   refine HK3.out _ _ ?_
   go_wp2_with fail
   go_roundw
   case rel=>first | exact ⟨3+1,by omega,by go_num,HF⟩ | ((repeat apply Exists.intro);exact ⟨⟨3+1,by omega,by go_num,HF⟩,rfl⟩)
   case measure=>simp [intOf]
  ·clear hn
   have hix:∀W,(Instr.index 52 (.agg #[.int .i64 0,.int .i64 2,.int .i64 15,.int .i64 20,.int .i64 0]) (.int .i64 4)).run Tryz.prog W=.ok (.int .i64 0) W:=fun _=>by kernel_rfl
   refine wsk fun K1 HK1=>?_
   go_wp2_with fail
   refine HK1.out _ _ ?_
   refine wsk fun K2 HK2=>?_
   go_wp2_with fail
   refine HK2.out _ _ ?_
   refine wsk fun K3 HK3=>?_
   refine wp_block ?_
   refine wsk fun K4 HK4=>?_
   go_wp2_with fail
   refine HK4.out _ _ ?_
   clear hix
   have HP:=lh ((HG.out.same _ (lt_of_block HPL.out) (by simp)).trans HPL.out)
   obtain ⟨V,hV⟩:∃V,V=wr:=⟨_,rfl⟩
   rw [←hV] at HG HP ⊢
   clear hV
   refine wsk fun K5 HK5=>?_
   refine wc (nn::nn::nn::nn::some 4::some 5::n8 (n8 (n8 (nn::nn::nn::nn::some 34::some 35::some 36::some 37::some 38::some 39::some 40::some 41::some 42::some 43::some 44::some 45::n8 (n8 (n8 (n8 (n8 (n8 (n8 (n8 (n8 (n8 (n8 (n8 (n8 (nn::nn::nn::nn::nn::[]))))))))))))))))) (fun s w'=>Mut [] V w'/\s 4=.int .i64 0/\s 5=.int .i64 2) ?_ ?_
   ·intro Q2 hQ2
    refine wG (Wk5_4 V b) ?_ ?_ ?_
    ·exact ⟨Mut.start _ true _,nB,nB,nB,nB,nB,nB,nB,nB,nB,nB,nB,nB,nB,nB⟩
    ·refine aC ?_ (aC ?_ (aC ?_ (aC ?_ (aC ?_ (aC ?_ (aC ?_ (aC ?_ (aC ?_ (aC ?_ (aC ?_ (aC ?_ (aC ?_ (aC ?_ aN)))))))))))))
     ·intro L s w2 h hk hd hn K hK
      have s2:s 2=_:=hk 2
      go_simp
      exact hK {h with e0:=rF}
     ·intro L s w2 h hk hd hn K hK
      have s1:s 1=_:=hk 1
      have s35:=h.e0 hd.1
      go_simp
      exact hK {h with e1:=rF}
     ·intro L s w2 h hk hd hn K hK
      have s36:=h.e1 hd.1
      go_simp
      exact hK {h with e2:=rF}
     ·intro L s w2 h hk hd hn K hK
      have s37:=h.e2 hd.1
      have kq:=(h.mu.same _ (lt_of_block HP.out) (by simp)).trans HP.out
      have kc:w2.cell? ⟨b,8,none⟩=some (.int .i64 3):=by rw [cell_of_row w2 b 8 _ _ _ kq];rfl
      go_simp
      exact hK {h with e3:=rF}
     ·intro L s w2 h hk hd hn K hK
      have s2:s 2=_:=hk 2
      go_simp
      exact hK {h with e4:=rF}
     ·intro L s w2 h hk hd hn K hK
      have s1:s 1=_:=hk 1
      have s39:=h.e4 hd.1
      go_simp
      exact hK {h with e5:=rF}
     ·intro L s w2 h hk hd hn K hK
      have s40:=h.e5 hd.1
      go_simp
      exact hK {h with e6:=rF}
     ·intro L s w2 h hk hd hn K hK
      have s41:=h.e6 hd.1
      have kq:=(h.mu.same _ (lt_of_block HP.out) (by simp)).trans HP.out
      have kc:w2.cell? ⟨b,9,none⟩=some (.int .i64 3):=by rw [cell_of_row w2 b 9 _ _ _ kq];rfl
      go_simp
      exact hK {h with e7:=rF}
     ·intro L s w2 h hk hd hn K hK
      have s38:=h.e3 hd.1
      have s42:=h.e7 hd.2.1
      go_simp
      refine (pl_33 _).mono ?_
      rintro e w3 ⟨rfl,hb⟩
      exact .inl ⟨_,rfl,hK {h with mu:=h.mu.step hb,e8:=rF}⟩
     ·intro L s w2 h hk hd hn K hK
      exact rs_move rfl (h.e8 hd.1) (hK {h with e9:=rF})
     ·intro L s w2 h hk hd hn K hK
      exact rs_extract rfl (h.e9 hd.1) rfl (hK {h with e10:=rF})
     ·intro L s w2 h hk hd hn K hK
      exact rs_extract rfl (h.e9 hd.1) rfl (hK {h with e11:=rF})
     ·intro L s w2 h hk hd hn K hK
      exact rs_assign rfl (h.e10 hd.1) (hK {h with e12:=rF})
     ·intro L s w2 h hk hd hn K hK
      exact rs_assign rfl (h.e11 hd.1) (hK {h with e13:=rF})
    ·intro L s w2 h hk hl
     refine cA ?_ (hQ2 s w2 (⟨h.mu,h.e12 (hl 12),h.e13 (hl 13)⟩))
     exact fq hk
   rintro s5 V5 ⟨h1,k4,k5⟩
   simp only [mergeL]
   rw [k4,k5]
   have HF:=lh (show Mut [] V0 V5 from HG.out.trans h1)
   clear h1 k4 k5
   refine HK5.out _ _ ?_
   go_wp2_with fail
   refine HK3.out _ _ ?_
   go_wp2_with fail
   go_roundw
   case rel=>first | exact ⟨4+1,by omega,by go_num,HF⟩ | ((repeat apply Exists.intro);exact ⟨⟨4+1,by omega,by go_num,HF⟩,rfl⟩)
   case measure=>simp [intOf]
  ·go_wp2_with fail
   refine HK2.out _ _ ?_
   have HM:=lh (HM0.out.trans HG.out)
   have HLT:=lh trivial
   clear HM0 HG hn HPL
   obtain ⟨V,hV⟩:∃V,V=wr:=⟨_,rfl⟩
   rw [←hV] at HM ⊢
   clear hV
   refine wsk fun K9 HK9=>?_
   refine wc (nn::nn::nn::nn::nn::nn::some 6::some 7::n8 (n8 (n8 (n8 (n8 (n8 (n8 (nn::some 65::some 66::n8 (n8 (n8 (n8 (n8 (n8 (n8 (n8 (n8 (n8 (n8 ([]))))))))))))))))))) (fun s w'=>Mut [] V w'/\(∃g:Nat,s 6=.pointer (some ⟨g,0,none⟩)/\V.heap.size<=g/\w'.heap[g]?=some (cobj 34 xU))/\(∃g:Nat,s 7=.pointer (some ⟨g,0,none⟩)/\V.heap.size<=g/\w'.heap[g]?=some (cobj 34 xV))) ?_ ?_
   ·intro Q2 hQ2
    refine wG (Wk9 V b) ?_ ?_ ?_
    ·exact ⟨Mut.start _ false _,nB,nB,nB,nB,nB,nB,nB⟩
    ·refine aC ?_ (aC ?_ (aC ?_ (aC ?_ (aC ?_ (aC ?_ aN)))))
     ·intro L s w2 h hk hd hn K hK
      go_simp
      refine (taw_U _).mono ?_
      rintro e w3 ⟨rfl,hb⟩
      exact .inl ⟨_,rfl,hK {h with mu:=h.mu.step hb,al_u:=fun a=>aS hb (h.al_u a),al_v:=fun a=>aS hb (h.al_v a),e0:=rF}⟩
     ·intro L s w2 h hk hd hn K hK
      go_simp
      refine (taw_V _).mono ?_
      rintro e w3 ⟨rfl,hb⟩
      exact .inl ⟨_,rfl,hK {h with mu:=h.mu.step hb,al_u:=fun a=>aS hb (h.al_u a),al_v:=fun a=>aS hb (h.al_v a),e1:=rF}⟩
     ·intro L s w2 h hk hd hn K hK
      go_simp
      exact hK {h with mu:=h.mu.alloc _,al_v:=fun a=>aU (h.al_v a),dn_u_v:=fun _ b=>dU (h.al_v b),al_u:=fun _=>aW h.mu.size h.b4_2 hn,b4_2:=rF}
     ·intro L s w2 h hk hd hn K hK
      go_simp
      exact hK {h with mu:=h.mu.alloc _,al_u:=fun a=>aU (h.al_u a),dn_u_v:=fun a _=>(dU (h.al_u a)).symm,al_v:=fun _=>aW h.mu.size h.b5_3 hn,b5_3:=rF}
     ·intro L s w2 h hk hd hn K hK
      obtain ⟨g,hg0,hg1,hgl,hg2,hg3⟩:=h.al_u hd.1
      have kb:=hg2 hn
      exact rs_store rfl hg0 (h.e0 hd.2.1) (md_store kb rfl _ rfl) (hK {h with mu:=h.mu.putNew hg1 _,al_v:=fun a=>aP (h.dn_u_v hd.1 a) hg0 (h.al_v a),al_u:=fun _=>aT hg0 hg1 hgl kb,b4_2:=fun _=>hd.1})
     ·intro L s w2 h hk hd hn K hK
      obtain ⟨g,hg0,hg1,hgl,hg2,hg3⟩:=h.al_v hd.1
      have kb:=hg2 hn
      exact rs_store rfl hg0 (h.e1 hd.2.1) (md_store kb rfl _ rfl) (hK {h with mu:=h.mu.putNew hg1 _,al_u:=fun a=>aP ((h.dn_u_v a hd.1).symm) hg0 (h.al_u a),al_v:=fun _=>aT hg0 hg1 hgl kb,b5_3:=fun _=>hd.1})
    ·intro L s w2 h hk hl
     refine cA ?_ (hQ2 s w2 (⟨h.mu,aE (h.al_u (hl 2)) (hl 4),aE (h.al_v (hl 3)) (hl 5)⟩))
     exact fq hk
   rintro s9 V ⟨h1,⟨g0,k_u,g_u,c_u⟩,⟨g1,k_v,g_v,c_v⟩⟩
   simp only [mergeL]
   rw [k_u]
   rw [k_v]
   replace HLT:=lh (show b<=g0/\b<=g1 from by
    have hlt:=HLT.out
    have hbw:=HM.out.size
    have hbw2:=HBW.out
    omega)
   have HU:=lh c_u
   have HV:=lh c_v
   replace HM:=mE HM h1
   clear h1 k_u g_u c_u k_v g_v c_v
   refine HK9.out _ _ ?_
   refine wsk fun K10 HK10=>?_
   go_wp2_with fail
   refine HK10.out _ _ ?_
   obtain ⟨g2,hg⟩:∃g,V.heap.size=g:=⟨_,rfl⟩
   refine wp_world (fun V2=>Mut [] w V2/\b<=g2/\V2.heap[g0]?=some (cobj 34 xU)/\V2.heap[g1]?=some (cobj 34 xV)/\V2.heap[g2]?=some (cobj 34 zeroM)) ?_
    (by
     rw [←hg]
     exact ⟨HM.out.alloc _,by have:=HM.out.size;have:=HBW.out;omega,heap_up _ HU.out,heap_up _ HV.out,heap_at (cobj 34 zeroM) (by simp)⟩)
   replace HLT:=lh (show b<=g2/\g0<g2/\g1<g2/\b<=g0/\b<=g1 from by
    have hlt:=HLT.out
    have hbw:=HM.out.size
    have hbw2:=HBW.out
    have:=lt_of_block HU.out
    have:=lt_of_block HV.out
    omega)
   rintro V2 ⟨hm,-,qHU,qHV,hnew⟩
   rw [hg]
   replace HM:=lh hm
   replace HU:=lh qHU
   replace HV:=lh qHV
   have HUV:=lh hnew
   clear hm hnew hg qHU qHV HK10
   clear V
   rename World=>V
   refine wsk fun K11 HK11=>?_
   refine wc (n8 (n8 (n8 (n8 (n8 (n8 (n8 (n8 (nn::nn::nn::some 67::some 68::some 69::n8 (n8 (n8 (n8 (n8 (n8 (n8 (n8 (n8 (n8 (nn::nn::nn::nn::nn::[]))))))))))))))))))) (fun _ w'=>Mut [g2] V w'/\w'.heap[g2]?=some (cobj 34 (zeroM.set 4 (4294967296,4294967296)))) ?_ ?_
   ·intro Q2 hQ2
    refine wG (Wk11 V b g0 g1 g2) ?_ ?_ ?_
    ·exact ⟨Mut.start _ false _,fun _=>HUV.out,nB,nB,nB,nB⟩
    ·refine aC ?_ (aC ?_ (aC ?_ (aC ?_ aN)))
     ·intro L s w2 h hk hd hn K hK
      go_simp
      refine (law21_pt 4294967296 _).mono ?_
      rintro e w3 ⟨rfl,hb⟩
      exact .inl ⟨_,rfl,hK {h with mu:=h.mu.step hb,kt_uv:=fun a=>bk hb (h.kt_uv a),kr_uv:=fun a=>bk hb (h.kr_uv a),e0:=rF}⟩
     ·intro L s w2 h hk hd hn K hK
      exact rs_field rfl (hk 8) (fl_model0 _ _) (hK {h with e1:=rF})
     ·intro L s w2 h hk hd hn K hK
      exact rs_index rfl (h.e1 hd.1) rfl (ix_model _ 4 (by decide)) (hK {h with e2:=rF})
     ·intro L s w2 h hk hd hn K hK
      have kb:=h.kt_uv hn
      exact rs_store rfl (h.e2 hd.1) (h.e0 hd.2.1) (sp_store (p:=4) kb (by decide) _) (hK {h with mu:=h.mu.put (List.Mem.head _) _,kt_uv:=nF,kr_uv:=fun _=>pH kb})
    ·intro L s w2 h hk hl
     refine cA ?_ (hQ2 s w2 (⟨h.mu,h.kr_uv (hl 3)⟩))
     exact fq hk
   rintro s11 V ⟨h1,c_uv⟩
   simp only [mergeL]
   replace HU:=j1 h1 HU (by have:=HLT.out;omega)
   replace HV:=j1 h1 HV (by have:=HLT.out;omega)
   replace HUV:=lh c_uv
   replace HM:=mB HM h1 (by have:=HBW.out;have:=HLT.out;simp;omega)
   clear h1 c_uv
   refine HK11.out _ _ ?_
   refine wsk fun K12 HK12=>?_
   refine wc (n8 (nn::some 9::some 10::n8 (n8 (n8 (n8 (n8 (n8 (n8 (nn::nn::nn::some 70::some 71::some 72::some 73::some 74::some 75::n8 (n8 (n8 (n8 (n8 (n8 (n8 (n8 (n8 (nn::nn::nn::nn::nn::nn::nn::[])))))))))))))))))) (fun s w'=>Mut [] V w'/\(∃g:Nat,s 9=.pointer (some ⟨g,0,none⟩)/\V.heap.size<=g/\w'.heap[g]?=some (cobj 34 mUV))/\s 10=.int .i64 0) ?_ ?_
   ·intro Q2 hQ2
    refine wG (Wk12 V b g0 g1 g2) ?_ ?_ ?_
    ·exact ⟨Mut.start _ false _,nB,nB,nB,nB,nB,nB,nB,nB,nB⟩
    ·refine aC ?_ (aC ?_ (aC ?_ (aC ?_ (aC ?_ (aC ?_ (aC ?_ (aC ?_ (aC ?_ aN))))))))
     ·intro L s w2 h hk hd hn K hK
      have kb:=kZ h.mu HU
      exact rs_load rfl (hk 6) (md_load kb rfl) (hK {h with e0:=rF})
     ·intro L s w2 h hk hd hn K hK
      have kb:=kZ h.mu HV
      exact rs_load rfl (hk 7) (md_load kb rfl) (hK {h with e1:=rF})
     ·intro L s w2 h hk hd hn K hK
      have s71:=h.e0 hd.1
      have s72:=h.e1 hd.2.1
      go_simp
      refine (cw_uv _).mono ?_
      rintro e w3 ⟨rfl,hb⟩
      exact .inl ⟨_,rfl,hK {h with mu:=h.mu.step hb,al_a:=fun a=>aS hb (h.al_a a),e2:=rF}⟩
     ·intro L s w2 h hk hd hn K hK
      exact rs_move rfl (h.e2 hd.1) (hK {h with e3:=rF})
     ·intro L s w2 h hk hd hn K hK
      exact rs_extract rfl (h.e3 hd.1) rfl (hK {h with e4:=rF})
     ·intro L s w2 h hk hd hn K hK
      exact rs_extract rfl (h.e3 hd.1) rfl (hK {h with e5:=rF})
     ·intro L s w2 h hk hd hn K hK
      go_simp
      exact hK {h with mu:=h.mu.alloc _,al_a:=fun _=>aW h.mu.size h.b7_6 hn,b7_6:=rF}
     ·intro L s w2 h hk hd hn K hK
      obtain ⟨g,hg0,hg1,hgl,hg2,hg3⟩:=h.al_a hd.1
      have kb:=hg2 hn
      exact rs_store rfl hg0 (h.e4 hd.2.1) (md_store kb rfl _ rfl) (hK {h with mu:=h.mu.putNew hg1 _,al_a:=fun _=>aT hg0 hg1 hgl kb,b7_6:=fun _=>hd.1})
     ·intro L s w2 h hk hd hn K hK
      exact rs_assign rfl (h.e5 hd.1) (hK {h with e8:=rF})
    ·intro L s w2 h hk hl
     refine cA ?_ (hQ2 s w2 (⟨h.mu,aE (h.al_a (hl 6)) (hl 7),h.e8 (hl 8)⟩))
     exact fq hk
   rintro s12 V ⟨h1,⟨g3,k_a,g_a,c_a⟩,k10⟩
   simp only [mergeL]
   rw [k_a]
   rw [k10]
   replace HLT:=lh (show b<=g3/\g0<g3/\g1<g3/\g2<g3/\b<=g2/\g0<g2/\g1<g2/\b<=g0/\b<=g1 from by
    have hlt:=HLT.out
    have hbw:=HM.out.size
    have hbw2:=HBW.out
    have:=lt_of_block HU.out
    have:=lt_of_block HV.out
    have:=lt_of_block HUV.out
    omega)
   replace HU:=sm h1 HU
   replace HV:=sm h1 HV
   replace HUV:=sm h1 HUV
   have HA:=lh c_a
   replace HM:=mE HM h1
   clear h1 k_a g_a c_a k10
   refine HK12.out _ _ ?_
   refine wsk fun K13 HK13=>?_
   refine wc (n8 (nn::nn::nn::some 11::some 12::n8 (n8 (n8 (n8 (n8 (n8 (n8 (nn::nn::nn::nn::nn::nn::nn::some 76::some 77::some 78::some 79::some 80::n8 (n8 (n8 (n8 (n8 (n8 (n8 (n8 (n8 (nn::nn::[])))))))))))))))))) (fun s w'=>Mut [] V w'/\(∃g:Nat,s 11=.pointer (some ⟨g,0,none⟩)/\V.heap.size<=g/\w'.heap[g]?=some (cobj 31 [(-4294967296,4294967296)]))/\s 12=.int .i64 0) ?_ ?_
   ·intro Q2 hQ2
    refine wG (Wk13 V b g0 g1 g2 g3) ?_ ?_ ?_
    ·exact ⟨Mut.start _ false _,nB,nB,nB,nB,nB,nB,nB,nB⟩
    ·refine aC ?_ (aC ?_ (aC ?_ (aC ?_ (aC ?_ (aC ?_ (aC ?_ (aC ?_ aN)))))))
     ·intro L s w2 h hk hd hn K hK
      have kb:=kZ h.mu HU
      exact rs_load rfl (hk 6) (md_load kb rfl) (hK {h with e0:=rF})
     ·intro L s w2 h hk hd hn K hK
      have s77:=h.e0 hd.1
      go_simp
      refine (cw_bu _).mono ?_
      rintro e w3 ⟨rfl,hb⟩
      exact .inl ⟨_,rfl,hK {h with mu:=h.mu.step hb,al_bb:=fun a=>aS hb (h.al_bb a),e1:=rF}⟩
     ·intro L s w2 h hk hd hn K hK
      exact rs_move rfl (h.e1 hd.1) (hK {h with e2:=rF})
     ·intro L s w2 h hk hd hn K hK
      exact rs_extract rfl (h.e2 hd.1) rfl (hK {h with e3:=rF})
     ·intro L s w2 h hk hd hn K hK
      exact rs_extract rfl (h.e2 hd.1) rfl (hK {h with e4:=rF})
     ·intro L s w2 h hk hd hn K hK
      go_simp
      exact hK {h with mu:=h.mu.alloc _,al_bb:=fun _=>aW h.mu.size h.b6_5 hn,b6_5:=rF}
     ·intro L s w2 h hk hd hn K hK
      obtain ⟨g,hg0,hg1,hgl,hg2,hg3⟩:=h.al_bb hd.1
      have kb:=hg2 hn
      exact rs_store rfl hg0 (h.e3 hd.2.1) (sp_store (p:=0) kb (by simp) _) (hK {h with mu:=h.mu.putNew hg1 _,al_bb:=fun _=>aT hg0 hg1 hgl kb,b6_5:=fun _=>hd.1})
     ·intro L s w2 h hk hd hn K hK
      exact rs_assign rfl (h.e4 hd.1) (hK {h with e7:=rF})
    ·intro L s w2 h hk hl
     refine cA ?_ (hQ2 s w2 (⟨h.mu,aE (h.al_bb (hl 5)) (hl 6),h.e7 (hl 7)⟩))
     exact fq hk
   rintro s13 V ⟨h1,⟨g4,k_bb,g_bb,c_bb⟩,k12⟩
   simp only [mergeL]
   rw [k_bb]
   rw [k12]
   replace HLT:=lh (show b<=g4/\g0<g4/\g1<g4/\g2<g4/\g3<g4/\b<=g3/\g0<g3/\g1<g3/\g2<g3/\b<=g2/\g0<g2/\g1<g2/\b<=g0/\b<=g1 from by
    have hlt:=HLT.out
    have hbw:=HM.out.size
    have hbw2:=HBW.out
    have:=lt_of_block HU.out
    have:=lt_of_block HV.out
    have:=lt_of_block HUV.out
    have:=lt_of_block HA.out
    omega)
   replace HU:=sm h1 HU
   replace HV:=sm h1 HV
   replace HUV:=sm h1 HUV
   replace HA:=sm h1 HA
   have HBB:=lh c_bb
   replace HM:=mE HM h1
   clear h1 k_bb g_bb c_bb k12
   refine HK13.out _ _ ?_
   refine wsk fun K14 HK14=>?_
   refine wc (n8 (nn::nn::nn::nn::nn::some 13::some 14::n8 (n8 (n8 (n8 (n8 (n8 (n8 (n8 (nn::nn::some 81::some 82::some 83::some 84::some 85::some 86::n8 (n8 (n8 (n8 (n8 (n8 (n8 (n8 (nn::nn::nn::nn::[])))))))))))))))))) (fun s w'=>Mut [] V w'/\(∃g:Nat,s 13=.pointer (some ⟨g,0,none⟩)/\V.heap.size<=g/\w'.heap[g]?=some (cobj 34 mUU))/\s 14=.int .i64 0) ?_ ?_
   ·intro Q2 hQ2
    refine wG (Wk14 V b g0 g1 g2 g3 g4) ?_ ?_ ?_
    ·exact ⟨Mut.start _ false _,nB,nB,nB,nB,nB,nB,nB,nB,nB⟩
    ·refine aC ?_ (aC ?_ (aC ?_ (aC ?_ (aC ?_ (aC ?_ (aC ?_ (aC ?_ (aC ?_ aN))))))))
     ·intro L s w2 h hk hd hn K hK
      have kb:=kZ h.mu HU
      exact rs_load rfl (hk 6) (md_load kb rfl) (hK {h with e0:=rF})
     ·intro L s w2 h hk hd hn K hK
      have kb:=kZ h.mu HU
      exact rs_load rfl (hk 6) (md_load kb rfl) (hK {h with e1:=rF})
     ·intro L s w2 h hk hd hn K hK
      have s82:=h.e0 hd.1
      have s83:=h.e1 hd.2.1
      go_simp
      refine (cw_uu _).mono ?_
      rintro e w3 ⟨rfl,hb⟩
      exact .inl ⟨_,rfl,hK {h with mu:=h.mu.step hb,al_sq:=fun a=>aS hb (h.al_sq a),e2:=rF}⟩
     ·intro L s w2 h hk hd hn K hK
      exact rs_move rfl (h.e2 hd.1) (hK {h with e3:=rF})
     ·intro L s w2 h hk hd hn K hK
      exact rs_extract rfl (h.e3 hd.1) rfl (hK {h with e4:=rF})
     ·intro L s w2 h hk hd hn K hK
      exact rs_extract rfl (h.e3 hd.1) rfl (hK {h with e5:=rF})
     ·intro L s w2 h hk hd hn K hK
      go_simp
      exact hK {h with mu:=h.mu.alloc _,al_sq:=fun _=>aW h.mu.size h.b7_6 hn,b7_6:=rF}
     ·intro L s w2 h hk hd hn K hK
      obtain ⟨g,hg0,hg1,hgl,hg2,hg3⟩:=h.al_sq hd.1
      have kb:=hg2 hn
      exact rs_store rfl hg0 (h.e4 hd.2.1) (md_store kb rfl _ rfl) (hK {h with mu:=h.mu.putNew hg1 _,al_sq:=fun _=>aT hg0 hg1 hgl kb,b7_6:=fun _=>hd.1})
     ·intro L s w2 h hk hd hn K hK
      exact rs_assign rfl (h.e5 hd.1) (hK {h with e8:=rF})
    ·intro L s w2 h hk hl
     refine cA ?_ (hQ2 s w2 (⟨h.mu,aE (h.al_sq (hl 6)) (hl 7),h.e8 (hl 8)⟩))
     exact fq hk
   rintro s14 V ⟨h1,⟨g5,k_sq,g_sq,c_sq⟩,k14⟩
   simp only [mergeL]
   rw [k_sq]
   rw [k14]
   replace HLT:=lh (show b<=g5/\g0<g5/\g1<g5/\g2<g5/\g3<g5/\g4<g5/\b<=g4/\g0<g4/\g1<g4/\g2<g4/\g3<g4/\b<=g3/\g0<g3/\g1<g3/\g2<g3/\b<=g2/\g0<g2/\g1<g2/\b<=g0/\b<=g1 from by
    have hlt:=HLT.out
    have hbw:=HM.out.size
    have hbw2:=HBW.out
    have:=lt_of_block HU.out
    have:=lt_of_block HV.out
    have:=lt_of_block HUV.out
    have:=lt_of_block HA.out
    have:=lt_of_block HBB.out
    omega)
   replace HU:=sm h1 HU
   replace HV:=sm h1 HV
   replace HUV:=sm h1 HUV
   replace HA:=sm h1 HA
   replace HBB:=sm h1 HBB
   have HSQ:=lh c_sq
   replace HM:=mE HM h1
   clear h1 k_sq g_sq c_sq k14
   refine HK14.out _ _ ?_
   refine wsk fun K15 HK15=>?_
   refine wc (n8 (nn::nn::nn::nn::nn::nn::nn::some 15::some 16::n8 (n8 (n8 (n8 (n8 (n8 (n8 (n8 (nn::nn::nn::nn::nn::nn::some 87::some 88::some 89::some 90::some 91::n8 (n8 (n8 (n8 (n8 (n8 (n8 (nn::nn::nn::nn::nn::nn::nn::[]))))))))))))))))) (fun s w'=>Mut [] V w'/\(∃g:Nat,s 15=.pointer (some ⟨g,0,none⟩)/\V.heap.size<=g/\w'.heap[g]?=some (cobj 31 [(0,4294967296)]))/\s 16=.int .i64 0) ?_ ?_
   ·intro Q2 hQ2
    refine wG (Wk15 V b g0 g1 g2 g3 g4 g5) ?_ ?_ ?_
    ·exact ⟨Mut.start _ false _,nB,nB,nB,nB,nB,nB,nB,nB⟩
    ·refine aC ?_ (aC ?_ (aC ?_ (aC ?_ (aC ?_ (aC ?_ (aC ?_ (aC ?_ aN)))))))
     ·intro L s w2 h hk hd hn K hK
      have kb:=kZ h.mu HSQ
      exact rs_load rfl (hk 13) (md_load kb rfl) (hK {h with e0:=rF})
     ·intro L s w2 h hk hd hn K hK
      have s88:=h.e0 hd.1
      go_simp
      refine (cw_bs _).mono ?_
      rintro e w3 ⟨rfl,hb⟩
      exact .inl ⟨_,rfl,hK {h with mu:=h.mu.step hb,al_cc:=fun a=>aS hb (h.al_cc a),e1:=rF}⟩
     ·intro L s w2 h hk hd hn K hK
      exact rs_move rfl (h.e1 hd.1) (hK {h with e2:=rF})
     ·intro L s w2 h hk hd hn K hK
      exact rs_extract rfl (h.e2 hd.1) rfl (hK {h with e3:=rF})
     ·intro L s w2 h hk hd hn K hK
      exact rs_extract rfl (h.e2 hd.1) rfl (hK {h with e4:=rF})
     ·intro L s w2 h hk hd hn K hK
      go_simp
      exact hK {h with mu:=h.mu.alloc _,al_cc:=fun _=>aW h.mu.size h.b6_5 hn,b6_5:=rF}
     ·intro L s w2 h hk hd hn K hK
      obtain ⟨g,hg0,hg1,hgl,hg2,hg3⟩:=h.al_cc hd.1
      have kb:=hg2 hn
      exact rs_store rfl hg0 (h.e3 hd.2.1) (sp_store (p:=0) kb (by simp) _) (hK {h with mu:=h.mu.putNew hg1 _,al_cc:=fun _=>aT hg0 hg1 hgl kb,b6_5:=fun _=>hd.1})
     ·intro L s w2 h hk hd hn K hK
      exact rs_assign rfl (h.e4 hd.1) (hK {h with e7:=rF})
    ·intro L s w2 h hk hl
     refine cA ?_ (hQ2 s w2 (⟨h.mu,aE (h.al_cc (hl 5)) (hl 6),h.e7 (hl 7)⟩))
     exact fq hk
   rintro s15 V ⟨h1,⟨g6,k_cc,g_cc,c_cc⟩,k16⟩
   simp only [mergeL]
   rw [k_cc]
   rw [k16]
   replace HLT:=lh (show b<=g6/\g0<g6/\g1<g6/\g2<g6/\g3<g6/\g4<g6/\g5<g6/\b<=g5/\g0<g5/\g1<g5/\g2<g5/\g3<g5/\g4<g5/\b<=g4/\g0<g4/\g1<g4/\g2<g4/\g3<g4/\b<=g3/\g0<g3/\g1<g3/\g2<g3/\b<=g2/\g0<g2/\g1<g2/\b<=g0/\b<=g1 from by
    have hlt:=HLT.out
    have hbw:=HM.out.size
    have hbw2:=HBW.out
    have:=lt_of_block HU.out
    have:=lt_of_block HV.out
    have:=lt_of_block HUV.out
    have:=lt_of_block HA.out
    have:=lt_of_block HBB.out
    have:=lt_of_block HSQ.out
    omega)
   replace HU:=sm h1 HU
   replace HV:=sm h1 HV
   replace HUV:=sm h1 HUV
   replace HA:=sm h1 HA
   replace HBB:=sm h1 HBB
   replace HSQ:=sm h1 HSQ
   have HCC:=lh c_cc
   replace HM:=mE HM h1
   clear h1 k_cc g_cc c_cc k16
   refine HK15.out _ _ ?_
   refine wsk fun K16 HK16=>?_
   refine wc (n8 (n8 (nn::some 17::some 18::n8 (n8 (n8 (n8 (n8 (n8 (n8 (n8 (n8 (nn::some 92::some 93::some 94::some 95::some 96::n8 (n8 (n8 (n8 (n8 (n8 (n8 (nn::nn::[]))))))))))))))))))) (fun s w'=>Mut [] V w'/\(∃g:Nat,s 17=.pointer (some ⟨g,0,none⟩)/\V.heap.size<=g/\w'.heap[g]?=some (cobj 34 mInv))/\s 18=.int .i64 0) ?_ ?_
   ·intro Q2 hQ2
    refine wG (Wk16 V b g0 g1 g2 g3 g4 g5 g6) ?_ ?_ ?_
    ·exact ⟨Mut.start _ false _,nB,nB,nB,nB,nB,nB,nB,nB⟩
    ·refine aC ?_ (aC ?_ (aC ?_ (aC ?_ (aC ?_ (aC ?_ (aC ?_ (aC ?_ aN)))))))
     ·intro L s w2 h hk hd hn K hK
      go_simp
      refine (law21_line (-8) (by omega) _).mono ?_
      rintro e w3 ⟨rfl,hb⟩
      exact .inl ⟨_,rfl,hK {h with mu:=h.mu.step hb,al_iv:=fun a=>aS hb (h.al_iv a),e0:=rF}⟩
     ·intro L s w2 h hk hd hn K hK
      have s93:=h.e0 hd.1
      go_simp
      refine (cw_inv _).mono ?_
      rintro e w3 ⟨rfl,hb⟩
      exact .inl ⟨_,rfl,hK {h with mu:=h.mu.step hb,al_iv:=fun a=>aS hb (h.al_iv a),e1:=rF}⟩
     ·intro L s w2 h hk hd hn K hK
      exact rs_move rfl (h.e1 hd.1) (hK {h with e2:=rF})
     ·intro L s w2 h hk hd hn K hK
      exact rs_extract rfl (h.e2 hd.1) rfl (hK {h with e3:=rF})
     ·intro L s w2 h hk hd hn K hK
      exact rs_extract rfl (h.e2 hd.1) rfl (hK {h with e4:=rF})
     ·intro L s w2 h hk hd hn K hK
      go_simp
      exact hK {h with mu:=h.mu.alloc _,al_iv:=fun _=>aW h.mu.size h.b6_5 hn,b6_5:=rF}
     ·intro L s w2 h hk hd hn K hK
      obtain ⟨g,hg0,hg1,hgl,hg2,hg3⟩:=h.al_iv hd.1
      have kb:=hg2 hn
      exact rs_store rfl hg0 (h.e3 hd.2.1) (md_store kb rfl _ mInv_len) (hK {h with mu:=h.mu.putNew hg1 _,al_iv:=fun _=>aT hg0 hg1 hgl kb,b6_5:=fun _=>hd.1})
     ·intro L s w2 h hk hd hn K hK
      exact rs_assign rfl (h.e4 hd.1) (hK {h with e7:=rF})
    ·intro L s w2 h hk hl
     refine cA ?_ (hQ2 s w2 (⟨h.mu,aE (h.al_iv (hl 5)) (hl 6),h.e7 (hl 7)⟩))
     exact fq hk
   rintro s16 V ⟨h1,⟨g7,k_iv,g_iv,c_iv⟩,k18⟩
   simp only [mergeL]
   rw [k_iv]
   rw [k18]
   replace HLT:=lh (show b<=g7/\g0<g7/\g1<g7/\g2<g7/\g3<g7/\g4<g7/\g5<g7/\g6<g7/\b<=g6/\g0<g6/\g1<g6/\g2<g6/\g3<g6/\g4<g6/\g5<g6/\b<=g5/\g0<g5/\g1<g5/\g2<g5/\g3<g5/\g4<g5/\b<=g4/\g0<g4/\g1<g4/\g2<g4/\g3<g4/\b<=g3/\g0<g3/\g1<g3/\g2<g3/\b<=g2/\g0<g2/\g1<g2/\b<=g0/\b<=g1 from by
    have hlt:=HLT.out
    have hbw:=HM.out.size
    have hbw2:=HBW.out
    have:=lt_of_block HU.out
    have:=lt_of_block HV.out
    have:=lt_of_block HUV.out
    have:=lt_of_block HA.out
    have:=lt_of_block HBB.out
    have:=lt_of_block HSQ.out
    have:=lt_of_block HCC.out
    omega)
   replace HU:=sm h1 HU
   replace HV:=sm h1 HV
   replace HUV:=sm h1 HUV
   replace HA:=sm h1 HA
   replace HBB:=sm h1 HBB
   replace HSQ:=sm h1 HSQ
   replace HCC:=sm h1 HCC
   have HIV:=lh c_iv
   replace HM:=mE HM h1
   clear h1 k_iv g_iv c_iv k18
   refine HK16.out _ _ ?_
   refine wsk fun K17 HK17=>?_
   refine wc (n8 (n8 (nn::nn::nn::some 19::some 20::n8 (n8 (n8 (n8 (n8 (n8 (n8 (n8 (n8 (nn::nn::nn::nn::some 97::some 98::some 99::some 100::some 101::n8 (n8 (n8 (n8 (n8 (n8 (nn::nn::nn::nn::nn::[])))))))))))))))))) (fun s w'=>Mut [] V w'/\(∃g:Nat,s 19=.pointer (some ⟨g,0,none⟩)/\V.heap.size<=g/\w'.heap[g]?=some (cobj 34 zeroM))/\s 20=.int .i64 7) ?_ ?_
   ·intro Q2 hQ2
    refine wG (Wk17 V b g0 g1 g2 g3 g4 g5 g6 g7) ?_ ?_ ?_
    ·exact ⟨Mut.start _ false _,nB,nB,nB,nB,nB,nB,nB,nB⟩
    ·refine aC ?_ (aC ?_ (aC ?_ (aC ?_ (aC ?_ (aC ?_ (aC ?_ (aC ?_ aN)))))))
     ·intro L s w2 h hk hd hn K hK
      have kb:=kZ h.mu HU
      exact rs_load rfl (hk 6) (md_load kb rfl) (hK {h with e0:=rF})
     ·intro L s w2 h hk hd hn K hK
      have s98:=h.e0 hd.1
      go_simp
      refine (cw_iu _).mono ?_
      rintro e w3 ⟨rfl,hb⟩
      exact .inl ⟨_,rfl,hK {h with mu:=h.mu.step hb,al_j1:=fun a=>aS hb (h.al_j1 a),e1:=rF}⟩
     ·intro L s w2 h hk hd hn K hK
      exact rs_move rfl (h.e1 hd.1) (hK {h with e2:=rF})
     ·intro L s w2 h hk hd hn K hK
      exact rs_extract rfl (h.e2 hd.1) rfl (hK {h with e3:=rF})
     ·intro L s w2 h hk hd hn K hK
      exact rs_extract rfl (h.e2 hd.1) rfl (hK {h with e4:=rF})
     ·intro L s w2 h hk hd hn K hK
      go_simp
      exact hK {h with mu:=h.mu.alloc _,al_j1:=fun _=>aW h.mu.size h.b6_5 hn,b6_5:=rF}
     ·intro L s w2 h hk hd hn K hK
      obtain ⟨g,hg0,hg1,hgl,hg2,hg3⟩:=h.al_j1 hd.1
      have kb:=hg2 hn
      exact rs_store rfl hg0 (h.e3 hd.2.1) (md_store kb rfl _ rfl) (hK {h with mu:=h.mu.putNew hg1 _,al_j1:=fun _=>aT hg0 hg1 hgl kb,b6_5:=fun _=>hd.1})
     ·intro L s w2 h hk hd hn K hK
      exact rs_assign rfl (h.e4 hd.1) (hK {h with e7:=rF})
    ·intro L s w2 h hk hl
     refine cA ?_ (hQ2 s w2 (⟨h.mu,aE (h.al_j1 (hl 5)) (hl 6),h.e7 (hl 7)⟩))
     exact fq hk
   rintro s17 V ⟨h1,⟨g8,k_j1,g_j1,c_j1⟩,k20⟩
   simp only [mergeL]
   rw [k_j1]
   rw [k20]
   replace HLT:=lh (show b<=g8/\g0<g8/\g1<g8/\g2<g8/\g3<g8/\g4<g8/\g5<g8/\g6<g8/\g7<g8/\b<=g7/\g0<g7/\g1<g7/\g2<g7/\g3<g7/\g4<g7/\g5<g7/\g6<g7/\b<=g6/\g0<g6/\g1<g6/\g2<g6/\g3<g6/\g4<g6/\g5<g6/\b<=g5/\g0<g5/\g1<g5/\g2<g5/\g3<g5/\g4<g5/\b<=g4/\g0<g4/\g1<g4/\g2<g4/\g3<g4/\b<=g3/\g0<g3/\g1<g3/\g2<g3/\b<=g2/\g0<g2/\g1<g2/\b<=g0/\b<=g1 from by
    have hlt:=HLT.out
    have hbw:=HM.out.size
    have hbw2:=HBW.out
    have:=lt_of_block HU.out
    have:=lt_of_block HV.out
    have:=lt_of_block HUV.out
    have:=lt_of_block HA.out
    have:=lt_of_block HBB.out
    have:=lt_of_block HSQ.out
    have:=lt_of_block HCC.out
    have:=lt_of_block HIV.out
    omega)
   replace HU:=sm h1 HU
   replace HV:=sm h1 HV
   replace HUV:=sm h1 HUV
   replace HA:=sm h1 HA
   replace HBB:=sm h1 HBB
   replace HSQ:=sm h1 HSQ
   replace HCC:=sm h1 HCC
   replace HIV:=sm h1 HIV
   have HJ:=lh c_j1
   replace HM:=mE HM h1
   clear h1 k_j1 g_j1 c_j1 k20
   refine HK17.out _ _ ?_
   refine wsk fun K18 HK18=>?_
   refine wc (n8 (n8 (nn::nn::nn::nn::nn::some 21::some 22::n8 (n8 (n8 (n8 (n8 (n8 (n8 (n8 (n8 (nn::nn::nn::nn::nn::nn::nn::some 102::some 103::some 104::some 105::some 106::n8 (n8 (n8 (n8 (n8 (n8 ([])))))))))))))))))) (fun s w'=>Mut [] V w'/\(∃g:Nat,s 21=.pointer (some ⟨g,0,none⟩)/\V.heap.size<=g/\w'.heap[g]?=some (cobj 34 zeroM))/\s 22=.int .i64 7) ?_ ?_
   ·intro Q2 hQ2
    refine wG (Wk18 V b g0 g1 g2 g3 g4 g5 g6 g7 g8) ?_ ?_ ?_
    ·exact ⟨Mut.start _ false _,nB,nB,nB,nB,nB,nB,nB,nB⟩
    ·refine aC ?_ (aC ?_ (aC ?_ (aC ?_ (aC ?_ (aC ?_ (aC ?_ (aC ?_ aN)))))))
     ·intro L s w2 h hk hd hn K hK
      go_simp
      exact hK {h with e0:=rF}
     ·intro L s w2 h hk hd hn K hK
      have s103:=h.e0 hd.1
      go_simp
      refine (cw_iz _).mono ?_
      rintro e w3 ⟨rfl,hb⟩
      exact .inl ⟨_,rfl,hK {h with mu:=h.mu.step hb,al_j2:=fun a=>aS hb (h.al_j2 a),e1:=rF}⟩
     ·intro L s w2 h hk hd hn K hK
      exact rs_move rfl (h.e1 hd.1) (hK {h with e2:=rF})
     ·intro L s w2 h hk hd hn K hK
      exact rs_extract rfl (h.e2 hd.1) rfl (hK {h with e3:=rF})
     ·intro L s w2 h hk hd hn K hK
      exact rs_extract rfl (h.e2 hd.1) rfl (hK {h with e4:=rF})
     ·intro L s w2 h hk hd hn K hK
      go_simp
      exact hK {h with mu:=h.mu.alloc _,al_j2:=fun _=>aW h.mu.size h.b6_5 hn,b6_5:=rF}
     ·intro L s w2 h hk hd hn K hK
      obtain ⟨g,hg0,hg1,hgl,hg2,hg3⟩:=h.al_j2 hd.1
      have kb:=hg2 hn
      exact rs_store rfl hg0 (h.e3 hd.2.1) (md_store kb rfl _ rfl) (hK {h with mu:=h.mu.putNew hg1 _,al_j2:=fun _=>aT hg0 hg1 hgl kb,b6_5:=fun _=>hd.1})
     ·intro L s w2 h hk hd hn K hK
      exact rs_assign rfl (h.e4 hd.1) (hK {h with e7:=rF})
    ·intro L s w2 h hk hl
     refine cA ?_ (hQ2 s w2 (⟨h.mu,aE (h.al_j2 (hl 5)) (hl 6),h.e7 (hl 7)⟩))
     exact fq hk
   rintro s18 V ⟨h1,⟨g9,k_j2,g_j2,c_j2⟩,k22⟩
   simp only [mergeL]
   rw [k_j2]
   rw [k22]
   replace HLT:=lh (show b<=g9/\g0<g9/\g1<g9/\g2<g9/\g3<g9/\g4<g9/\g5<g9/\g6<g9/\g7<g9/\g8<g9/\b<=g8/\g0<g8/\g1<g8/\g2<g8/\g3<g8/\g4<g8/\g5<g8/\g6<g8/\g7<g8/\b<=g7/\g0<g7/\g1<g7/\g2<g7/\g3<g7/\g4<g7/\g5<g7/\g6<g7/\b<=g6/\g0<g6/\g1<g6/\g2<g6/\g3<g6/\g4<g6/\g5<g6/\b<=g5/\g0<g5/\g1<g5/\g2<g5/\g3<g5/\g4<g5/\b<=g4/\g0<g4/\g1<g4/\g2<g4/\g3<g4/\b<=g3/\g0<g3/\g1<g3/\g2<g3/\b<=g2/\g0<g2/\g1<g2/\b<=g0/\b<=g1 from by
    have hlt:=HLT.out
    have hbw:=HM.out.size
    have hbw2:=HBW.out
    have:=lt_of_block HU.out
    have:=lt_of_block HV.out
    have:=lt_of_block HUV.out
    have:=lt_of_block HA.out
    have:=lt_of_block HBB.out
    have:=lt_of_block HSQ.out
    have:=lt_of_block HCC.out
    have:=lt_of_block HIV.out
    have:=lt_of_block HJ.out
    omega)
   replace HU:=sm h1 HU
   replace HV:=sm h1 HV
   replace HUV:=sm h1 HUV
   replace HA:=sm h1 HA
   replace HBB:=sm h1 HBB
   replace HSQ:=sm h1 HSQ
   replace HCC:=sm h1 HCC
   replace HIV:=sm h1 HIV
   replace HJ:=sm h1 HJ
   have HJ2:=lh c_j2
   replace HM:=mE HM h1
   clear h1 k_j2 g_j2 c_j2 k22
   refine HK18.out _ _ ?_
   refine wsk fun K19 HK19=>?_
   refine wc (some 0::n8 (n8 (n8 (n8 (n8 (n8 (n8 (n8 (n8 (n8 (n8 (n8 (n8 (nn::nn::some 107::some 108::some 109::some 110::some 111::some 112::some 113::some 114::some 115::some 116::some 117::some 118::some 119::some 120::some 121::some 122::some 123::some 124::some 125::some 126::some 127::some 128::some 129::some 130::some 131::some 132::some 133::some 134::some 135::some 136::some 137::some 138::some 139::some 140::some 141::some 142::some 143::some 144::some 145::some 146::some 147::some 148::some 149::some 150::some 151::some 152::some 153::some 154::[])))))))))))))) (fun s w'=>Mut [] V w'/\s 0=.bool true) ?_ ?_
   ·intro Q2 hQ2
    refine wG (Wk19 V b g0 g1 g2 g3 g4 g5 g6 g7 g8 g9) ?_ ?_ ?_
    ·exact ⟨Mut.start _ true _,nB,nB,nB,nB,nB,nB,nB,nB,nB,nB,nB,nB,nB,nB,nB,nB,nB,nB,nB,nB,nB,nB,nB,nB,nB,nB,nB,nB,nB,nB,nB,nB,nB,nB,nB,nB,nB,nB,nB,nB,nB,nB,nB,nB,nB,nB,nB,nB,nB⟩
    ·refine aC ?_ (aC ?_ (aC ?_ (aD ?_ (aD ?_ (aD ?_ (aC ?_ (aC ?_ (aD ?_ (aD ?_ (aC ?_ (aC ?_ (aD ?_ (aD ?_ (aD ?_ (aC ?_ (aC ?_ (aD ?_ (aD ?_ (aC ?_ (aC ?_ (aD ?_ (aD ?_ (aC ?_ (aC ?_ (aD ?_ (aD ?_ (aD ?_ (aC ?_ (aC ?_ (aD ?_ (aD ?_ (aC ?_ (aC ?_ (aD ?_ (aD ?_ (aD ?_ (aD ?_ (aD ?_ (aC ?_ (aC ?_ (aD ?_ (aD ?_ (aC ?_ (aC ?_ (aD ?_ (aD ?_ (aC ?_ (aC ?_ aN))))))))))))))))))))))))))))))))))))))))))))))))
     ·intro L s w2 h hk hd hn K hK
      exact rs_move rfl (hk 10) (hK {h with e0:=rF})
     ·intro L s w2 h hk hd hn K hK
      have s107:=h.e0 hd.1
      go_simp
      exact hK {h with e1:=rF}
     ·intro L s w2 h hk hd hn K hK
      exact rs_move rfl (h.e1 hd.1) (hK {h with e2:=rF})
     ·intro L s w2 h hk hd hn
      have gq:=h.e2 hd.1
      have s9:s 9=_:=hk 9
      have kb:=kZ h.mu HA
      refine stepSP (by simp [Region.wanted,yieldS,gq]) fun K hK=>?_
      exact rs_load rfl s9 (md_load kb rfl) (hK _ _ {h with e3:=rF})
     ·intro L s w2 h hk hd hn
      have gq:=h.e2 hd.1
      have s8:s 8=_:=hk 8
      have kb:=kZ h.mu HUV
      refine stepSP (by simp [Region.wanted,yieldS,gq]) fun K hK=>?_
      exact rs_load rfl s8 (md_load kb (by simp [zeroM])) (hK _ _ {h with e4:=rF})
     ·intro L s w2 h hk hd hn
      have gq:=h.e2 hd.2.2.1
      have s110:=h.e3 hd.1
      have s111:=h.e4 hd.2.1
      have hq:=bin_eqM mUV (zeroM.set 4 (4294967296,4294967296)) rfl rfl
      have hg:=guard_eqM mUV (zeroM.set 4 (4294967296,4294967296))
      rw [show decide (mUV=zeroM.set 4 (4294967296,4294967296))=true from decide_eq_true rfl] at hq
      refine stepSP (by simp [Region.wanted,yieldS,gq]) fun K hK=>?_
      go_simp
      exact hK _ _ {h with e5:=rF}
     ·intro L s w2 h hk hd hn K hK
      have s109:=h.e2 hd.1
      have s112:=h.e5 hd.2.1
      go_simp
      exact hK {h with e6:=rF}
     ·intro L s w2 h hk hd hn K hK
      exact rs_move rfl (h.e6 hd.1) (hK {h with e7:=rF})
     ·intro L s w2 h hk hd hn
      have gq:=h.e7 hd.1
      have s12:s 12=_:=hk 12
      refine stepSP (by simp [Region.wanted,yieldS,gq]) fun K hK=>?_
      exact rs_move rfl s12 (hK _ _ {h with e8:=rF})
     ·intro L s w2 h hk hd hn
      have gq:=h.e7 hd.2.1
      have s115:=h.e8 hd.1
      refine stepSP (by simp [Region.wanted,yieldS,gq]) fun K hK=>?_
      go_simp
      exact hK _ _ {h with e9:=rF}
     ·intro L s w2 h hk hd hn K hK
      have s114:=h.e7 hd.1
      have s116:=h.e9 hd.2.1
      go_simp
      exact hK {h with e10:=rF}
     ·intro L s w2 h hk hd hn K hK
      exact rs_move rfl (h.e10 hd.1) (hK {h with e11:=rF})
     ·intro L s w2 h hk hd hn
      have gq:=h.e11 hd.1
      have s11:s 11=_:=hk 11
      have kb:=kZ h.mu HBB
      refine stepSP (by simp [Region.wanted,yieldS,gq]) fun K hK=>?_
      exact rs_load rfl s11 (sp_load (p:=0) kb (by simp)) (hK _ _ {h with e12:=rF})
     ·intro L s w2 h hk hd hn
      have gq:=h.e11 hd.1
      refine stepSP (by simp [Region.wanted,yieldS,gq]) fun K hK=>?_
      go_simp
      exact hK _ _ {h with e13:=rF}
     ·intro L s w2 h hk hd hn
      have gq:=h.e11 hd.2.2.1
      have s119:=h.e12 hd.1
      have s120:=h.e13 hd.2.1
      have hq:=bin_eqS ((-4294967296,4294967296):Int×Int) ((-4294967296,4294967296):Int×Int)
      have hg:=guard_eqS ((-4294967296,4294967296):Int×Int) ((-4294967296,4294967296):Int×Int)
      rw [show decide (((-4294967296,4294967296):Int×Int)=((-4294967296,4294967296):Int×Int))=true from decide_eq_true rfl] at hq
      refine stepSP (by simp [Region.wanted,yieldS,gq]) fun K hK=>?_
      go_simp
      exact hK _ _ {h with e14:=rF}
     ·intro L s w2 h hk hd hn K hK
      have s118:=h.e11 hd.1
      have s121:=h.e14 hd.2.1
      go_simp
      exact hK {h with e15:=rF}
     ·intro L s w2 h hk hd hn K hK
      exact rs_move rfl (h.e15 hd.1) (hK {h with e16:=rF})
     ·intro L s w2 h hk hd hn
      have gq:=h.e16 hd.1
      have s14:s 14=_:=hk 14
      refine stepSP (by simp [Region.wanted,yieldS,gq]) fun K hK=>?_
      exact rs_move rfl s14 (hK _ _ {h with e17:=rF})
     ·intro L s w2 h hk hd hn
      have gq:=h.e16 hd.2.1
      have s124:=h.e17 hd.1
      refine stepSP (by simp [Region.wanted,yieldS,gq]) fun K hK=>?_
      go_simp
      exact hK _ _ {h with e18:=rF}
     ·intro L s w2 h hk hd hn K hK
      have s123:=h.e16 hd.1
      have s125:=h.e18 hd.2.1
      go_simp
      exact hK {h with e19:=rF}
     ·intro L s w2 h hk hd hn K hK
      exact rs_move rfl (h.e19 hd.1) (hK {h with e20:=rF})
     ·intro L s w2 h hk hd hn
      have gq:=h.e20 hd.1
      have s16:s 16=_:=hk 16
      refine stepSP (by simp [Region.wanted,yieldS,gq]) fun K hK=>?_
      exact rs_move rfl s16 (hK _ _ {h with e21:=rF})
     ·intro L s w2 h hk hd hn
      have gq:=h.e20 hd.2.1
      have s128:=h.e21 hd.1
      refine stepSP (by simp [Region.wanted,yieldS,gq]) fun K hK=>?_
      go_simp
      exact hK _ _ {h with e22:=rF}
     ·intro L s w2 h hk hd hn K hK
      have s127:=h.e20 hd.1
      have s129:=h.e22 hd.2.1
      go_simp
      exact hK {h with e23:=rF}
     ·intro L s w2 h hk hd hn K hK
      exact rs_move rfl (h.e23 hd.1) (hK {h with e24:=rF})
     ·intro L s w2 h hk hd hn
      have gq:=h.e24 hd.1
      have s15:s 15=_:=hk 15
      have kb:=kZ h.mu HCC
      refine stepSP (by simp [Region.wanted,yieldS,gq]) fun K hK=>?_
      exact rs_load rfl s15 (sp_load (p:=0) kb (by simp)) (hK _ _ {h with e25:=rF})
     ·intro L s w2 h hk hd hn
      have gq:=h.e24 hd.1
      refine stepSP (by simp [Region.wanted,yieldS,gq]) fun K hK=>?_
      go_simp
      exact hK _ _ {h with e26:=rF}
     ·intro L s w2 h hk hd hn
      have gq:=h.e24 hd.2.2.1
      have s132:=h.e25 hd.1
      have s133:=h.e26 hd.2.1
      have hq:=bin_eqS ((0,4294967296):Int×Int) ((0,4294967296):Int×Int)
      have hg:=guard_eqS ((0,4294967296):Int×Int) ((0,4294967296):Int×Int)
      rw [show decide (((0,4294967296):Int×Int)=((0,4294967296):Int×Int))=true from decide_eq_true rfl] at hq
      refine stepSP (by simp [Region.wanted,yieldS,gq]) fun K hK=>?_
      go_simp
      exact hK _ _ {h with e27:=rF}
     ·intro L s w2 h hk hd hn K hK
      have s131:=h.e24 hd.1
      have s134:=h.e27 hd.2.1
      go_simp
      exact hK {h with e28:=rF}
     ·intro L s w2 h hk hd hn K hK
      exact rs_move rfl (h.e28 hd.1) (hK {h with e29:=rF})
     ·intro L s w2 h hk hd hn
      have gq:=h.e29 hd.1
      have s18:s 18=_:=hk 18
      refine stepSP (by simp [Region.wanted,yieldS,gq]) fun K hK=>?_
      exact rs_move rfl s18 (hK _ _ {h with e30:=rF})
     ·intro L s w2 h hk hd hn
      have gq:=h.e29 hd.2.1
      have s137:=h.e30 hd.1
      refine stepSP (by simp [Region.wanted,yieldS,gq]) fun K hK=>?_
      go_simp
      exact hK _ _ {h with e31:=rF}
     ·intro L s w2 h hk hd hn K hK
      have s136:=h.e29 hd.1
      have s138:=h.e31 hd.2.1
      go_simp
      exact hK {h with e32:=rF}
     ·intro L s w2 h hk hd hn K hK
      exact rs_move rfl (h.e32 hd.1) (hK {h with e33:=rF})
     ·intro L s w2 h hk hd hn
      have gq:=h.e33 hd.1
      have s17:s 17=_:=hk 17
      refine stepSP (by simp [Region.wanted,yieldS,gq]) fun K hK=>?_
      exact rs_field rfl s17 (fl_model0 _ _) (hK _ _ {h with e34:=rF})
     ·intro L s w2 h hk hd hn
      have gq:=h.e33 hd.2.1
      have s141:=h.e34 hd.1
      refine stepSP (by simp [Region.wanted,yieldS,gq]) fun K hK=>?_
      exact rs_index rfl s141 rfl (ix_model _ 5 (by decide)) (hK _ _ {h with e35:=rF})
     ·intro L s w2 h hk hd hn
      have gq:=h.e33 hd.2.1
      have s142:=h.e35 hd.1
      have kb:=kZ h.mu HIV
      refine stepSP (by simp [Region.wanted,yieldS,gq]) fun K hK=>?_
      exact rs_load rfl s142 (sp_load (p:=5) kb (by have:=(mInv_len:mInv.length=22);omega)) (hK _ _ {h with e36:=rF})
     ·intro L s w2 h hk hd hn
      have gq:=h.e33 hd.1
      refine stepSP (by simp [Region.wanted,yieldS,gq]) fun K hK=>?_
      go_simp
      refine (law21_pt 1073741824 _).mono ?_
      rintro e w3 ⟨rfl,hb⟩
      exact .inl ⟨_,rfl,hK _ _ {h with mu:=h.mu.step hb,e37:=rF}⟩
     ·intro L s w2 h hk hd hn
      have gq:=h.e33 hd.2.2.1
      have s143:=h.e36 hd.1
      have s144:=h.e37 hd.2.1
      have hq:=bin_eqS (tAt mInv 5) ((1073741824,1073741824):Int×Int)
      have hg:=guard_eqS (tAt mInv 5) ((1073741824,1073741824):Int×Int)
      rw [show decide (tAt mInv 5=((1073741824,1073741824):Int×Int))=true from decide_eq_true ex_inv.2] at hq
      refine stepSP (by simp [Region.wanted,yieldS,gq]) fun K hK=>?_
      go_simp
      exact hK _ _ {h with e38:=rF}
     ·intro L s w2 h hk hd hn K hK
      have s140:=h.e33 hd.1
      have s145:=h.e38 hd.2.1
      go_simp
      exact hK {h with e39:=rF}
     ·intro L s w2 h hk hd hn K hK
      exact rs_move rfl (h.e39 hd.1) (hK {h with e40:=rF})
     ·intro L s w2 h hk hd hn
      have gq:=h.e40 hd.1
      have s20:s 20=_:=hk 20
      refine stepSP (by simp [Region.wanted,yieldS,gq]) fun K hK=>?_
      exact rs_move rfl s20 (hK _ _ {h with e41:=rF})
     ·intro L s w2 h hk hd hn
      have gq:=h.e40 hd.2.1
      have s148:=h.e41 hd.1
      refine stepSP (by simp [Region.wanted,yieldS,gq]) fun K hK=>?_
      go_simp
      exact hK _ _ {h with e42:=rF}
     ·intro L s w2 h hk hd hn K hK
      have s147:=h.e40 hd.1
      have s149:=h.e42 hd.2.1
      go_simp
      exact hK {h with e43:=rF}
     ·intro L s w2 h hk hd hn K hK
      exact rs_move rfl (h.e43 hd.1) (hK {h with e44:=rF})
     ·intro L s w2 h hk hd hn
      have gq:=h.e44 hd.1
      have s22:s 22=_:=hk 22
      refine stepSP (by simp [Region.wanted,yieldS,gq]) fun K hK=>?_
      exact rs_move rfl s22 (hK _ _ {h with e45:=rF})
     ·intro L s w2 h hk hd hn
      have gq:=h.e44 hd.2.1
      have s152:=h.e45 hd.1
      refine stepSP (by simp [Region.wanted,yieldS,gq]) fun K hK=>?_
      go_simp
      exact hK _ _ {h with e46:=rF}
     ·intro L s w2 h hk hd hn K hK
      have s151:=h.e44 hd.1
      have s153:=h.e46 hd.2.1
      go_simp
      exact hK {h with e47:=rF}
     ·intro L s w2 h hk hd hn K hK
      exact rs_assign rfl (h.e47 hd.1) (hK {h with e48:=rF})
    ·intro L s w2 h hk hl
     refine cA ?_ (hQ2 s w2 (⟨h.mu,h.e48 (hl 48)⟩))
     exact fq hk
   rintro s19 V ⟨h1,k0⟩
   simp only [mergeL]
   rw [k0]
   replace HU:=sm h1 HU
   replace HV:=sm h1 HV
   replace HUV:=sm h1 HUV
   replace HA:=sm h1 HA
   replace HBB:=sm h1 HBB
   replace HSQ:=sm h1 HSQ
   replace HCC:=sm h1 HCC
   replace HIV:=sm h1 HIV
   replace HJ:=sm h1 HJ
   replace HJ2:=sm h1 HJ2
   replace HM:=mE HM h1
   clear h1 k0
   refine HK19.out _ _ ?_
   refine wp_ret ?_
   exact bodyPost_ret (v:=.bool true) (by simp [results,Tryz.results6,go_sem]) rfl ⟨rfl,by rw [←HBW.out];exact HM.out.to0⟩
end Go.Proofs.YthhkcfpljgdnhaaGreat
