/- The drafts of law 21: Draft.Model, Draft.Near, Bend.Of. Printed by wip/genDr.py. -/
import Derived.Test.YthhkcfpljgdnhaaGreatTayL
set_option maxRecDepth 100000
set_option maxHeartbeats 4000000
namespace Mnc
/-- A term: its place, its middle, its width. -/
abbrev Tm:=Int×Int×Int
def Tm.wf (d:Tm):Prop:=(0<=d.1/\d.1<=255)/\(-32768<=d.2.1/\d.2.1<=32767)/\(0<=d.2.2/\d.2.2<=255)
def dTerm (m:List (Int×Int)) (d:Tm):List (Int×Int):=m.set (d.1 % 21).toNat (d.2.1*16384-d.2.2,d.2.1*16384+d.2.2)
/-- The model of a draft. -/
def dModel (c:Int) (ts:List Tm) (r:Int):List (Int×Int):=((ts.take 8).foldl dTerm (zeroM.set 0 (c*65536,c*65536))).set 21 (-r,r)
theorem foldl_dTerm_len:∀(ts:List Tm) (m:List (Int×Int)),(ts.foldl dTerm m).length=m.length
 | [],_=>rfl
 | d::ts,m=>by rw [List.foldl_cons,foldl_dTerm_len ts];simp [dTerm]
theorem dModel_len (c:Int) (ts:List Tm) (r:Int):(dModel c ts r).length=22:=by
 unfold dModel
 rw [List.length_set,foldl_dTerm_len,List.length_set]
 rfl
/-- One place of Near: both ends divided by 8. -/
def nearLo (m:List (Int×Int)) (p:Nat):List (Int×Int):=m.set p (Go.IntKind.i64.wrap ((tAt m p).1.tdiv 8),(tAt m p).2)
def nearHi (m:List (Int×Int)) (p:Nat):List (Int×Int):=m.set p ((tAt m p).1,Go.IntKind.i64.wrap ((tAt m p).2.tdiv 8))
def nearFrom:Nat->Nat->List (Int×Int)->List (Int×Int)
 | 0,_,m=>m
 | n+1,p,m=>nearFrom n (p+1) (nearHi (nearLo m p) p)
theorem nearFrom_len:∀(n p:Nat) (m:List (Int×Int)),(nearFrom n p m).length=m.length
 | 0,_,_=>rfl
 | n+1,p,m=>by rw [nearFrom,nearFrom_len n];simp [nearHi,nearLo]
def dNear (c:Int) (ts:List Tm) (r:Int):List (Int×Int):=nearFrom 20 1 ((dModel c ts r).set 0 (4294967296+(c+32768)*65536,4294967296+(c+32768)*65536))
theorem dNear_len (c:Int) (ts:List Tm) (r:Int):(dNear c ts r).length=22:=by
 unfold dNear
 rw [nearFrom_len,List.length_set,dModel_len]
/-- A changed model. -/
def bendOf (p:Int) (s:Int×Int) (a:List (Int×Int)):List (Int×Int):=a.set (p % 22).toNat s
theorem bendOf_len (p:Int) (s:Int×Int) (a:List (Int×Int)):(bendOf p s a).length=a.length:=by simp [bendOf]
end Mnc
namespace Go.Proofs.YthhkcfpljgdnhaaGreat
open Go.RowKit Mnc
attribute [local go_sem] RunSP_value RunSP_skip RunSP_enter evS_tmp evS_const evS_global evS_func
section
variable {W:World} {B p:Nat} {t:TypeId} {a:List (Int×Int)}
theorem fl_span0 (B p:Nat) (W:World):(Instr.fieldAt 31 (.pointer (some ⟨B,p*2,none⟩)) 0).run Tryz.prog W=.ok (.pointer (some ⟨B,p*2,none⟩)) W:=by
 simp [go_sem]
theorem fl_span1 (B p:Nat) (W:World):(Instr.fieldAt 31 (.pointer (some ⟨B,p*2,none⟩)) 1).run Tryz.prog W=.ok (.pointer (some ⟨B,p*2+1,none⟩)) W:=by
 simp [go_sem]
theorem ix_model8 {W:World} (B k:Nat) (hk:k<21):(Instr.indexAt 32 (.pointer (some ⟨B,0,none⟩)) (.int .u8 (k:Int))).run Tryz.prog W=.ok (.pointer (some ⟨B,k*2,none⟩)) W:=by
 rw [run_indexAt_array (h:=by kernel_rfl)]
 have hn:Tryz.prog.arrayLen 32=21:=by kernel_rfl
 have hs:(sizeOf (Tryz.prog.elem 32)).run Tryz.prog W=.ok 2 W:=by kernel_rfl
 rw [hn,if_pos (by omega),hs]
 simp only [Result.andThen,Int.toNat_natCast,Addr.add_mid,Nat.zero_add]
theorem ld_span0 (h:W.heap[B]?=some (cobj t a)) (hp:p<a.length):(Instr.loadAt 3 (.pointer (some ⟨B,p*2,none⟩))).run Tryz.prog W=.ok (.int .i64 (tAt a p).1) W:=by
 have c:=(cobj_cell h (p*2)).trans (mc_get a p hp).1
 simp [go_sem,c]
theorem ld_span1 (h:W.heap[B]?=some (cobj t a)) (hp:p<a.length):(Instr.loadAt 3 (.pointer (some ⟨B,p*2+1,none⟩))).run Tryz.prog W=.ok (.int .i64 (tAt a p).2) W:=by
 have c:=(cobj_cell h (p*2+1)).trans (mc_get a p hp).2
 simp [go_sem,c]
theorem mc_same (a:List (Int×Int)) (p:Nat) (hp:p<a.length):(mc a).set (p*2+1) (.int .i64 (tAt a p).2)=mc a/\(mc a).set (p*2) (.int .i64 (tAt a p).1)=mc a:=by
 obtain ⟨h1,h2⟩:=mc_get a p hp
 constructor
 ·apply List.ext_getElem?
  intro i
  by_cases hi:p*2+1=i
  ·subst hi
   rw [h2,List.getElem?_set_self (List.getElem?_eq_some_iff.1 h2).1]
  ·rw [List.getElem?_set_ne hi]
 ·apply List.ext_getElem?
  intro i
  by_cases hi:p*2=i
  ·subst hi
   rw [h1,List.getElem?_set_self (List.getElem?_eq_some_iff.1 h1).1]
  ·rw [List.getElem?_set_ne hi]
theorem st_span0 (h:W.heap[B]?=some (cobj t a)) (hp:p<a.length) (x:Int):(Instr.storeAt 3 (.pointer (some ⟨B,p*2,none⟩)) (.int .i64 x)).run Tryz.prog W=.ok () (W.putObj B (cobj t (a.set p (x,(tAt a p).2)))):=by
 have c:=(cobj_cell h (p*2)).trans (mc_get a p hp).1
 have f:W.frozen? ⟨B,p*2,none⟩=false:=by simp [World.frozen?,h,cobj]
 have hs:(Instr.storeAt 3 (.pointer (some ⟨B,p*2,none⟩)) (.int .i64 x)).run Tryz.prog W=.ok () (W.setCell ⟨B,p*2,none⟩ (.int .i64 x)):=by
  simp [go_sem,c,f]
 have e:(mc a).set (p*2) (.int .i64 x)=mc (a.set p (x,(tAt a p).2)):=by
  rw [mc_set a (x,(tAt a p).2) p hp,List.set_comm _ _ (by omega),(mc_same a p hp).1]
 unfold cobj at h
 rw [hs,setCell_put h]
 unfold cobj
 rw [←e]
 simp
theorem st_span1 (h:W.heap[B]?=some (cobj t a)) (hp:p<a.length) (x:Int):(Instr.storeAt 3 (.pointer (some ⟨B,p*2+1,none⟩)) (.int .i64 x)).run Tryz.prog W=.ok () (W.putObj B (cobj t (a.set p ((tAt a p).1,x)))):=by
 have c:=(cobj_cell h (p*2+1)).trans (mc_get a p hp).2
 have f:W.frozen? ⟨B,p*2+1,none⟩=false:=by simp [World.frozen?,h,cobj]
 have hs:(Instr.storeAt 3 (.pointer (some ⟨B,p*2+1,none⟩)) (.int .i64 x)).run Tryz.prog W=.ok () (W.setCell ⟨B,p*2+1,none⟩ (.int .i64 x)):=by
  simp [go_sem,c,f]
 have e:(mc a).set (p*2+1) (.int .i64 x)=mc (a.set p ((tAt a p).1,x)):=by
  rw [mc_set a ((tAt a p).1,x) p hp,(mc_same a p hp).2]
 unfold cobj at h
 rw [hs,setCell_put h]
 unfold cobj
 rw [←e]
 simp
end
/-- A slice of terms that reads as a list. -/
structure TmSl (W:World) (ao:Option Addr) (cap:Nat) (l:List Tm):Prop where
 le:l.length<=cap
 cmax:cap<=9223372036854775807
 isNil:ao=none->l.length=0
 isSome:∀a,ao=some a->a=⟨a.block,a.off,none⟩
 wf:∀d∈l,d.wf
 cells:∀a,ao=some a->∀(i:Nat) (d:Tm),l[i]?=some d->W.cell? ⟨a.block,a.off+i*3,none⟩=some (.int .u8 d.1)/\W.cell? ⟨a.block,a.off+i*3+1,none⟩=some (.int .i16 d.2.1)/\W.cell? ⟨a.block,a.off+i*3+2,none⟩=some (.int .u8 d.2.2)
theorem TmSl.on {W W':World} {ao:Option Addr} {cap:Nat} {l:List Tm} (h:TmSl W ao cap l) (k:Below W.heap.size W W'):TmSl W' ao cap l :=
 ⟨h.le,h.cmax,h.isNil,h.isSome,h.wf,fun a ha i d hd=>by
  obtain ⟨h1,h2,h3⟩:=h.cells a ha i d hd
  have go:∀(o:Nat) (v:Value),W.cell? ⟨a.block,o,none⟩=some v->W'.cell? ⟨a.block,o,none⟩=some v:=fun o v hc=>by
   have hl:a.block<W.heap.size:=by
    apply Nat.lt_of_not_le
    intro hn
    rw [World.cell?,Array.getElem?_eq_none hn] at hc
    cases hc
   rw [k.cell (p:=⟨a.block,o,none⟩) hl]
   exact hc
  exact ⟨go _ _ h1,go _ _ h2,go _ _ h3⟩⟩
theorem wr_i64 {x:Int} (h:-9000000000000000000<=x/\x<=9000000000000000000):IntKind.i64.wrap x=x:=by
 simp [IntKind.wrap,IntKind.bits,IntKind.signed]
 omega
theorem rf_point (n:Int) (w:World):Calls Tryz.prog 37 #[.int .i64 n] w fun e w'=>e=.returned (sval (n,n))/\Below w.heap.size w w':=by
 go_enter Tryz.func37,Tryz.ntmps37
 go_wp2
 exact bodyPost_ret (v:=sval (n,n)) (by simp [results,Tryz.results37,go_sem,sval]) rfl ⟨rfl,below_alloc (Below.refl _ _) _⟩
structure Dm2 (V:World) (c:Int) (r:Int) (ts:List Tm) (ao:Option Addr) (cap:Nat) (b:Nat) (g0:Nat) (L:Nat->Bool) (s:Nat->Value) (w:World):Prop where
 mu:Mut [g0] V w
 kt_a:L 7=false->w.heap[g0]?=some (cobj 34 zeroM)
 kr_a:L 7->w.heap[g0]?=some (cobj 34 (zeroM.set 0 (c*65536,c*65536)))
 e0:L 0->s 7=.pointer (some ⟨b,0,none⟩)
 e1:L 1->s 8=.int .i16 c
 e2:L 2->s 9=.int .i64 c
 e3:L 3->s 10=.int .i64 (c*65536)
 e4:L 4->s 11=sval (c*65536,c*65536)
 e5:L 5->s 12=.pointer (some ⟨g0,0,none⟩)
 e6:L 6->s 13=.pointer (some ⟨g0,0*2,none⟩)
structure Dm8 (V:World) (c:Int) (r:Int) (ts:List Tm) (ao:Option Addr) (cap:Nat) (b:Nat) (g0:Nat) (g:Nat) (x:Tm) (k:Nat) (kk:Nat) (M:List (Int×Int)) (L:Nat->Bool) (s:Nat->Value) (w:World):Prop where
 mu:Mut [g0] V w
 kt_a:L 17=false->w.heap[g0]?=some (cobj 34 M)
 kr_a:L 17->w.heap[g0]?=some (cobj 34 (M.set kk (x.2.1*16384-x.2.2,x.2.1*16384+x.2.2)))
 e0:L 0->s 34=.pointer (some ⟨g,0,none⟩)
 e1:L 1->s 35=.int .u8 x.1
 e2:L 2->s 36=.int .i64 x.1
 e3:L 3->s 37=.int .i64 ((kk:Nat):Int)
 e4:L 4->s 38=.int .i64 (x.2.1*16384)
 e5:L 5->s 39=.pointer (some ⟨g,2,none⟩)
 e6:L 6->s 40=.int .u8 x.2.2
 e7:L 7->s 41=.int .i64 x.2.2
 e8:L 8->s 42=.int .i64 (x.2.1*16384-x.2.2)
 e9:L 9->s 43=.int .i64 (x.2.1*16384)
 e10:L 10->s 44=.pointer (some ⟨g,2,none⟩)
 e11:L 11->s 45=.int .u8 x.2.2
 e12:L 12->s 46=.int .i64 x.2.2
 e13:L 13->s 47=.int .i64 (x.2.1*16384+x.2.2)
 e14:L 14->s 48=sval (x.2.1*16384-x.2.2,x.2.1*16384+x.2.2)
 e15:L 15->s 49=.pointer (some ⟨g0,0,none⟩)
 e16:L 16->s 50=.pointer (some ⟨g0,kk*2,none⟩)
structure Dm9 (V:World) (c:Int) (r:Int) (ts:List Tm) (ao:Option Addr) (cap:Nat) (b:Nat) (g0:Nat) (M:List (Int×Int)) (L:Nat->Bool) (s:Nat->Value) (w:World):Prop where
 mu:Mut [g0] V w
 kt_a:L 9=false->w.heap[g0]?=some (cobj 34 M)
 kr_a:L 9->w.heap[g0]?=some (cobj 34 (M.set 21 (-r,r)))
 e0:L 0->s 51=.pointer (some ⟨b,2,none⟩)
 e1:L 1->s 52=.int .u16 r
 e2:L 2->s 53=.int .i64 r
 e3:L 3->s 54=.int .i64 (-r)
 e4:L 4->s 55=.pointer (some ⟨b,2,none⟩)
 e5:L 5->s 56=.int .u16 r
 e6:L 6->s 57=.int .i64 r
 e7:L 7->s 58=sval (-r,r)
 e8:L 8->s 59=.pointer (some ⟨g0,21*2,none⟩)
structure Dm10 (V:World) (c:Int) (r:Int) (ts:List Tm) (ao:Option Addr) (cap:Nat) (b:Nat) (g0:Nat) (M:List (Int×Int)) (L:Nat->Bool) (s:Nat->Value) (w:World):Prop where
 mu:Mut [b+1] V w
 kt_r:L 1=false->w.heap[b+1]?=some (cobj 34 zeroM)
 kr_r:L 1->w.heap[b+1]?=some (cobj 34 (M.set 21 (-r,r)))
 e0:L 0->s 60=mval (M.set 21 (-r,r))
theorem dr_Model (c r:Int) (ts:List Tm) (ao:Option Addr) (cap:Nat) (hc:-32768<=c/\c<=32767) (hr:0<=r/\r<=65535) (w:World) (ht:TmSl w ao cap ts) :
  Calls Tryz.prog 13 #[.agg #[.int .i16 c,.slice ao ts.length cap,.int .u16 r]] w fun e w'=>e=.returned (mval (dModel c ts r))/\Below w.heap.size w w':=by
 have HC:=lh hc
 have HRR:=lh hr
 have HT:=lh ht
 clear hc hr ht
 go_enter Tryz.func13,Tryz.ntmps13
 refine wsk fun K0 HK0=>?_
 go_wp2_with fail
 obtain ⟨b,hb⟩:∃b,w.heap.size=b:=⟨_,rfl⟩
 refine HK0.out _ _ ?_
 refine wp_world (fun V=>Mut [] w V/\V.heap[b]?=some (.cells #[.int .i16 c,.slice ao ts.length cap,.int .u16 r] 26 (0,0))/\V.heap[b+1]?=some (cobj 34 zeroM)) ?_
  (by
   rw [←hb]
   exact ⟨(((Mut.refl _ _).alloc _).alloc _),heap_up _ (heap_at (.cells #[.int .i16 c,.slice ao ts.length cap,.int .u16 r] 26 (0,0)) (by simp)),heap_at (cobj 34 zeroM) (by simp)⟩)
 rintro V ⟨hm,hHD,hHR⟩
 rw [hb]
 have HM:=lh hm
 have HBW:=lh hb
 have HLT:=lh trivial
 have HD:=lh hHD
 have HR:=lh hHR
 clear hm hHD hHR hb HK0
 refine wsk fun K1 HK1=>?_
 go_wp2_with fail
 refine HK1.out _ _ ?_
 obtain ⟨g0,hg⟩:∃g,V.heap.size=g:=⟨_,rfl⟩
 refine wp_world (fun V2=>Mut [] w V2/\b<=g0/\V2.heap[b]?=some (.cells #[.int .i16 c,.slice ao ts.length cap,.int .u16 r] 26 (0,0))/\V2.heap[b+1]?=some (cobj 34 zeroM)/\V2.heap[g0]?=some (cobj 34 zeroM)) ?_
  (by
   rw [←hg]
   exact ⟨HM.out.alloc _,by have:=HM.out.size;have:=HBW.out;omega,heap_up _ HD.out,heap_up _ HR.out,heap_at (cobj 34 zeroM) (by simp)⟩)
 replace HLT:=lh (show b<=g0/\b<g0/\b+1<g0 from by
  have hlt:=HLT.out
  have hbw:=HM.out.size
  have hbw2:=HBW.out
  have:=lt_of_block HD.out
  have:=lt_of_block HR.out
  omega)
 rintro V2 ⟨hm,-,qHD,qHR,hnew⟩
 rw [hg]
 replace HM:=lh hm
 replace HD:=lh qHD
 replace HR:=lh qHR
 have HA:=lh hnew
 clear hm hnew hg qHD qHR HK1
 clear V
 rename World=>V
 refine wsk fun K2 HK2=>?_
 refine wc (nn::nn::nn::nn::nn::nn::nn::some 7::some 8::some 9::some 10::some 11::some 12::some 13::n8 (n8 (n8 (n8 (n8 (nn::nn::nn::nn::nn::nn::nn::[])))))) (fun _ w'=>Mut [g0] V w'/\w'.heap[g0]?=some (cobj 34 (zeroM.set 0 (c*65536,c*65536)))) ?_ ?_
 ·intro Q2 hQ2
  refine wG (Dm2 V c r ts ao cap b g0) ?_ ?_ ?_
  ·exact ⟨Mut.start _ false _,fun _=>HA.out,nB,nB,nB,nB,nB,nB,nB,nB⟩
  ·refine aC ?_ (aC ?_ (aC ?_ (aC ?_ (aC ?_ (aC ?_ (aC ?_ (aC ?_ aN)))))))
   ·intro L s w2 h hk hd hn K hK
    have s1:s 1=_:=hk 1
    go_simp
    exact hK {h with e0:=rF}
   ·intro L s w2 h hk hd hn K hK
    have s7:=h.e0 hd.1
    have kq:=(h.mu.same _ (lt_of_block HD.out) (notin1 (by have:=HLT.out;omega))).trans HD.out
    have kc:w2.cell? ⟨b,0,none⟩=some (.int .i16 c):=by rw [cell_of_row w2 b 0 _ _ _ kq];rfl
    go_simp
    exact hK {h with e1:=rF}
   ·intro L s w2 h hk hd hn K hK
    have s8:=h.e1 hd.1
    have e1:=wr_i64 (x:=c) (by have:=HC.out;omega)
    go_simp
    exact hK {h with e2:=rF}
   ·intro L s w2 h hk hd hn K hK
    have s9:=h.e2 hd.1
    have e1:=wr_i64 (x:=c*65536) (by have:=HC.out;omega)
    go_simp
    exact hK {h with e3:=rF}
   ·intro L s w2 h hk hd hn K hK
    have s10:=h.e3 hd.1
    go_simp
    refine (rf_point (c*65536) _).mono ?_
    rintro e w3 ⟨rfl,hb⟩
    exact .inl ⟨_,rfl,hK {h with mu:=h.mu.step hb,kt_a:=fun a=>bk hb (h.kt_a a),kr_a:=fun a=>bk hb (h.kr_a a),e4:=rF}⟩
   ·intro L s w2 h hk hd hn K hK
    exact rs_field rfl (hk 3) (fl_model0 _ _) (hK {h with e5:=rF})
   ·intro L s w2 h hk hd hn K hK
    exact rs_index rfl (h.e5 hd.1) rfl (ix_model _ 0 (by decide)) (hK {h with e6:=rF})
   ·intro L s w2 h hk hd hn K hK
    have kb:=h.kt_a hn
    exact rs_store rfl (h.e6 hd.1) (h.e4 hd.2.1) (sp_store (p:=0) kb (by decide) _) (hK {h with mu:=h.mu.put (List.Mem.head _) _,kt_a:=nF,kr_a:=fun _=>pH kb})
  ·intro L s w2 h hk hl
   refine cA ?_ (hQ2 s w2 (⟨h.mu,h.kr_a (hl 7)⟩))
   exact fq hk
 rintro s2 V ⟨h1,c_a⟩
 simp only [mergeL]
 replace HD:=j1 h1 HD (by have:=HLT.out;omega)
 replace HR:=j1 h1 HR (by have:=HLT.out;omega)
 replace HA:=lh c_a
 replace HM:=mB HM h1 (by have:=HBW.out;have:=HLT.out;simp;omega)
 clear h1 c_a
 refine HK2.out _ _ ?_
 refine wsk fun KL HKL=>?_
 refine wp_cut_mergeP (nn::nn::nn::nn::some 4::some 5::some 6::nn::nn::nn::nn::nn::nn::nn::some 14::some 15::some 16::some 17::some 18::some 19::some 20::some 21::some 22::some 23::some 24::some 25::some 26::some 27::some 28::some 29::some 30::some 31::some 32::some 33::some 34::some 35::some 36::some 37::some 38::some 39::some 40::some 41::some 42::some 43::some 44::some 45::some 46::some 47::some 48::some 49::some 50::n8 (nn::nn::[])) (fun _ w'=>Mut [g0] V w'/\w'.heap[g0]?=some (cobj 34 ((ts.take 8).foldl dTerm (zeroM.set 0 (c*65536,c*65536))))) (fun _ _=>False) ?_ ?_ ?_
 ·intro Q2 hQ2 hP2
  go_wp2_with fail
  go_loopw [4] (fun x wr=>∃k:Nat,k<=ts.length/\k<=8/\x=.int .i64 k/\Hid (Mut [g0] V wr/\wr.heap[g0]?=some (cobj 34 ((ts.take k).foldl dTerm (zeroM.set 0 (c*65536,c*65536)))))) (fun x _=>8-(intOf x).toNat)
  case atStart=>exact ⟨0,by omega,by omega,rfl,lh ⟨Mut.refl _ _,HA.out⟩⟩
  case round =>
   obtain ⟨k,hk,hk8,rfl,HG⟩:=hrel
   have HDW:=lh ((HG.out.1.same _ (lt_of_block HD.out) (notin1 (by have:=HLT.out;omega))).trans HD.out)
   have d0:wr.cell? ⟨b,1,none⟩=some (.slice ao ts.length cap):=by rw [cell_of_row wr b 1 _ _ _ HDW.out];rfl
   rcases Nat.lt_or_ge k ts.length with hk' | hk'
   ·have tl:decide ((k:Int)<(ts.length:Int))=true:=by simp;omega
    rcases Nat.lt_or_ge k 8 with h8 | h8
    ·obtain ⟨x,hx⟩:∃x,ts[k]?=some x:=⟨_,List.getElem?_eq_getElem hk'⟩
     have HNX:Hid ((ts.take (k+1)).foldl dTerm (zeroM.set 0 (c*65536,c*65536))=dTerm ((ts.take k).foldl dTerm (zeroM.set 0 (c*65536,c*65536))) x):=lh (by rw [List.take_add_one,hx];simp)
     have HXW:=lh (HT.out.wf x (List.mem_of_getElem? hx))
     obtain ⟨tb,toff,hao⟩:∃tb toff,ao=some ⟨tb,toff,none⟩:=by
      cases hao:ao with
      | none=>have:=HT.out.isNil hao;omega
      | some a=>exact ⟨a.block,a.off,congrArg some (HT.out.isSome a hao)⟩
     have HWB:=lh (show Below w.heap.size w wr from (HM.out.stepM HG.out.1 (by have:=HBW.out;have:=HLT.out;intro x hx;simp at hx;right;omega)).to0)
     obtain ⟨c0,c1,c2⟩:=(HT.out.on HWB.out).cells _ hao _ _ hx
     simp only at c0 c1 c2
     rw [hao] at d0
     have hlen:(ts.length:Int)<=9223372036854775807:=by have:=HT.out.le;have:=HT.out.cmax;omega
     have t8:decide ((k:Int)<8)=true:=by simp;omega
     have hk1:(k:Int)<(ts.length:Int):=by omega
     have hk0:(0:Int)<=(k:Int):=by omega
     have HKN:=lh hk'
     have HK8:=lh h8
     have HML:=lh (show ((ts.take k).foldl dTerm (zeroM.set 0 (c*65536,c*65536))).length=22 by rw [foldl_dTerm_len];rfl)
     obtain ⟨M,hM⟩:∃M,(ts.take k).foldl dTerm (zeroM.set 0 (c*65536,c*65536))=M:=⟨_,rfl⟩
     rw [hM] at HG HNX HML
     clear hk hk8 hk' h8 hx HT hao hM
     refine wsk fun K1 HK1=>?_
     go_wp2_with fail
     refine HK1.out _ _ ?_
     refine wsk fun K2 HK2=>?_
     refine wp_block ?_
     refine wsk fun K6 HK6=>?_
     go_wp2_with fail
     refine HK6.out _ _ ?_
     obtain ⟨g,hg⟩:∃g,wr.heap.size=g:=⟨_,rfl⟩
     have HRW:=lh ((HG.out.1.same _ (lt_of_block HR.out) (notin1 (by have:=HLT.out;omega))).trans HR.out)
     refine wp_world (fun V2=>Mut [g0] V V2/\V2.heap[b]?=some (.cells #[.int .i16 c,.slice ao ts.length cap,.int .u16 r] 26 (0,0))/\V2.heap[g0]?=some (cobj 34 M)/\V2.heap[g]?=some (.cells #[.int .u8 x.1,.int .i16 x.2.1,.int .u8 x.2.2] 68 (0,0))) ?_
      (by
       rw [←hg]
       exact ⟨HG.out.1.alloc _,heap_up _ HDW.out,heap_up _ HG.out.2,heap_at _ (by simp)⟩)
     have HLT8:=lh (show b<g0/\g0<g from ⟨by have:=HLT.out;omega,by have:=lt_of_block HG.out.2;omega⟩)
     have HM0:=HM
     have HLT0:=HLT
     clear HG HDW HRW d0 c0 c1 c2 HWB HM HLT HD HR HA
     rintro V ⟨hm,hd,ha,hx⟩
     rw [hg]
     clear hg
     have HGM:=lh hm
     have HM:=lh (HM0.out.stepM hm (by have:=HBW.out;have:=HLT0.out;intro x hx;simp at hx;right;omega))
     have HLT:=HLT8
     have HD:=lh hd
     have HA:=lh ha
     have HX:=lh hx
     have x1:V.cell? ⟨g,1,none⟩=some (.int .i16 x.2.1):=by rw [cell_of_row V g 1 _ _ _ hx];rfl
     have e1:=wr_i64 (x:=x.2.1) (by have:=HXW.out.2.1;omega)
     have e2:=wr_i64 (x:=x.2.1*16384) (by have:=HXW.out.2.1;omega)
     clear hm hd ha hx HM0 HLT0 HLT8
     refine wsk fun K7 HK7=>?_
     go_wp2_with fail
     refine HK7.out _ _ ?_
     clear x1 e1 e2
     obtain ⟨kk,hkk⟩:∃kk,(x.1 % 21).toNat=kk:=⟨_,rfl⟩
     have hx0:=HXW.out.1
     have HKL:=lh (show kk<21 by omega)
     have HKM:=lh (show x.1 % 21=(kk:Int)/\x.1.tmod 21=(kk:Int) from ⟨by omega,by rw [Int.tmod_eq_emod_of_nonneg hx0.1];omega⟩)
     have HKE:=lh (show dTerm M x=M.set kk (x.2.1*16384-x.2.2,x.2.1*16384+x.2.2) by unfold dTerm;rw [hkk])
     clear hkk hx0
     refine wc (n8 (n8 (n8 (n8 (nn::nn::some 34::some 35::some 36::some 37::some 38::some 39::some 40::some 41::some 42::some 43::some 44::some 45::some 46::some 47::some 48::some 49::some 50::n8 (nn::nn::[])))))) (fun _ w'=>Mut [g0] V w'/\w'.heap[g0]?=some (cobj 34 (M.set kk (x.2.1*16384-x.2.2,x.2.1*16384+x.2.2)))) ?_ ?_
     ·intro Q2 hQ2
      refine wG (Dm8 V c r ts ao cap b g0 g x k kk M) ?_ ?_ ?_
      ·exact ⟨Mut.start _ false _,fun _=>HA.out,nB,nB,nB,nB,nB,nB,nB,nB,nB,nB,nB,nB,nB,nB,nB,nB,nB,nB⟩
      ·refine aC ?_ (aC ?_ (aC ?_ (aC ?_ (aC ?_ (aC ?_ (aC ?_ (aC ?_ (aC ?_ (aC ?_ (aC ?_ (aC ?_ (aC ?_ (aC ?_ (aC ?_ (aC ?_ (aC ?_ (aC ?_ aN)))))))))))))))))
       ·intro L s w2 h hk hd hn K hK
        have s5:s 5=_:=hk 5
        go_simp
        exact hK {h with e0:=rF}
       ·intro L s w2 h hk hd hn K hK
        have s34:=h.e0 hd.1
        have kq:=(h.mu.same _ (lt_of_block HX.out) (notin1 (by have:=HLT.out;omega))).trans HX.out
        have kc:w2.cell? ⟨g,0,none⟩=some (.int .u8 x.1):=by rw [cell_of_row w2 g 0 _ _ _ kq];rfl
        go_simp
        exact hK {h with e1:=rF}
       ·intro L s w2 h hk hd hn K hK
        have s35:=h.e1 hd.1
        have e1:=wr_i64 (x:=x.1) (by have:=HXW.out.1;omega)
        go_simp
        exact hK {h with e2:=rF}
       ·intro L s w2 h hk hd hn K hK
        have s36:=h.e2 hd.1
        have e1:=HKM.out.1
        have e2:=HKM.out.2
        go_simp
        exact hK {h with e3:=rF}
       ·intro L s w2 h hk hd hn K hK
        exact rs_move rfl (hk 6) (hK {h with e4:=rF})
       ·intro L s w2 h hk hd hn K hK
        have s5:s 5=_:=hk 5
        go_simp
        exact hK {h with e5:=rF}
       ·intro L s w2 h hk hd hn K hK
        have s39:=h.e5 hd.1
        have kq:=(h.mu.same _ (lt_of_block HX.out) (notin1 (by have:=HLT.out;omega))).trans HX.out
        have kc:w2.cell? ⟨g,2,none⟩=some (.int .u8 x.2.2):=by rw [cell_of_row w2 g 2 _ _ _ kq];rfl
        go_simp
        exact hK {h with e6:=rF}
       ·intro L s w2 h hk hd hn K hK
        have s40:=h.e6 hd.1
        have e1:=wr_i64 (x:=x.2.2) (by have:=HXW.out.2.2;omega)
        go_simp
        exact hK {h with e7:=rF}
       ·intro L s w2 h hk hd hn K hK
        have s38:=h.e4 hd.1
        have s41:=h.e7 hd.2.1
        have e1:=wr_i64 (x:=x.2.1*16384-x.2.2) (by have:=HXW.out.2;omega)
        go_simp
        exact hK {h with e8:=rF}
       ·intro L s w2 h hk hd hn K hK
        exact rs_move rfl (hk 6) (hK {h with e9:=rF})
       ·intro L s w2 h hk hd hn K hK
        have s5:s 5=_:=hk 5
        go_simp
        exact hK {h with e10:=rF}
       ·intro L s w2 h hk hd hn K hK
        have s44:=h.e10 hd.1
        have kq:=(h.mu.same _ (lt_of_block HX.out) (notin1 (by have:=HLT.out;omega))).trans HX.out
        have kc:w2.cell? ⟨g,2,none⟩=some (.int .u8 x.2.2):=by rw [cell_of_row w2 g 2 _ _ _ kq];rfl
        go_simp
        exact hK {h with e11:=rF}
       ·intro L s w2 h hk hd hn K hK
        have s45:=h.e11 hd.1
        have e1:=wr_i64 (x:=x.2.2) (by have:=HXW.out.2.2;omega)
        go_simp
        exact hK {h with e12:=rF}
       ·intro L s w2 h hk hd hn K hK
        have s43:=h.e9 hd.1
        have s46:=h.e12 hd.2.1
        have e1:=wr_i64 (x:=x.2.1*16384+x.2.2) (by have:=HXW.out.2;omega)
        go_simp
        exact hK {h with e13:=rF}
       ·intro L s w2 h hk hd hn K hK
        have s42:=h.e8 hd.1
        have s47:=h.e13 hd.2.1
        go_simp
        exact hK {h with e14:=rF}
       ·intro L s w2 h hk hd hn K hK
        exact rs_field rfl (hk 3) (fl_model0 _ _) (hK {h with e15:=rF})
       ·intro L s w2 h hk hd hn K hK
        exact rs_index rfl (h.e15 hd.1) (h.e3 hd.2.1) (ix_model _ kk HKL.out) (hK {h with e16:=rF})
       ·intro L s w2 h hk hd hn K hK
        have kb:=h.kt_a hn
        exact rs_store rfl (h.e16 hd.1) (h.e14 hd.2.1) (sp_store (p:=kk) kb (by have:=HML.out;have:=HKL.out;omega) _) (hK {h with mu:=h.mu.put (List.Mem.head _) _,kt_a:=nF,kr_a:=fun _=>pH kb})
      ·intro L s w2 h hk hl
       refine cA ?_ (hQ2 s w2 (⟨h.mu,h.kr_a (hl 17)⟩))
       exact fq hk
     rintro s8 V ⟨h1,c_a⟩
     simp only [mergeL]
     replace HD:=j1 h1 HD (by have:=HLT.out;omega)
     replace HA:=lh c_a
     replace HX:=j1 h1 HX (by have:=HLT.out;omega)
     replace HM:=mB HM h1 (by have:=HBW.out;have:=HLT.out;simp;omega)
     have HF:=lh (HGM.out.trans h1)
     clear h1 c_a
     refine HK2.out _ _ ?_
     rw [←HKE.out,←HNX.out] at HA
     have HF2:=lh HA.out
     have HF1:=HF
     go_wp2_with fail
     go_roundw
     case rel=>first | exact ⟨k+1,by have:=HKN.out;omega,by have:=HK8.out;omega,by go_num,lh ⟨HF1.out,HF2.out⟩⟩ | ((repeat apply Exists.intro);exact ⟨⟨k+1,by have:=HKN.out;omega,by have:=HK8.out;omega,by go_num,lh ⟨HF1.out,HF2.out⟩⟩,rfl⟩)
     case measure=>simp [intOf];have:=HK8.out;omega
    ·obtain rfl:k=8:=by omega
     have t1:decide ((8:Int)<(ts.length:Int))=true:=by simp;omega
     go_wp2_with fail
     exact merge_meet hQ2 (by kernel_rfl) ⟨HG.out.1,HG.out.2⟩
   ·have tl:decide ((k:Int)<(ts.length:Int))=false:=by simp;omega
    have HE:=lh (show (ts.take k).foldl dTerm (zeroM.set 0 (c*65536,c*65536))=(ts.take 8).foldl dTerm (zeroM.set 0 (c*65536,c*65536)) by rw [List.take_of_length_le (by omega),List.take_of_length_le (by omega)])
    rw [HE.out] at HG
    go_wp2_with fail
    exact merge_meet hQ2 (by kernel_rfl) ⟨HG.out.1,HG.out.2⟩
 rotate_left
 ·rintro _ _ _ h
  exact h.elim
 rintro sL V ⟨h1,h2⟩
 simp only [mergeL]
 have HML:=lh (show ((ts.take 8).foldl dTerm (zeroM.set 0 (c*65536,c*65536))).length=22 by rw [foldl_dTerm_len];rfl)
 have HE:=lh (show dModel c ts r=((ts.take 8).foldl dTerm (zeroM.set 0 (c*65536,c*65536))).set 21 (-r,r) from rfl)
 obtain ⟨M,hM⟩:∃M,((ts.take 8).foldl dTerm (zeroM.set 0 (c*65536,c*65536)))=M:=⟨_,rfl⟩
 rw [hM] at h2 HML HE
 replace HM:=mB HM h1 (by have:=HBW.out;have:=HLT.out;simp;omega)
 replace HD:=j1 h1 HD (by have:=HLT.out;omega)
 replace HR:=j1 h1 HR (by have:=HLT.out;omega)
 replace HA:=lh h2
 clear h1 h2 hM
 refine HKL.out _ _ ?_
 refine wsk fun K9 HK9=>?_
 refine wc (n8 (n8 (n8 (n8 (n8 (n8 (nn::nn::nn::some 51::some 52::some 53::some 54::some 55::some 56::some 57::some 58::some 59::nn::[]))))))) (fun _ w'=>Mut [g0] V w'/\w'.heap[g0]?=some (cobj 34 (M.set 21 (-r,r)))) ?_ ?_
 ·intro Q2 hQ2
  refine wG (Dm9 V c r ts ao cap b g0 M) ?_ ?_ ?_
  ·exact ⟨Mut.start _ false _,fun _=>HA.out,nB,nB,nB,nB,nB,nB,nB,nB,nB,nB⟩
  ·refine aC ?_ (aC ?_ (aC ?_ (aC ?_ (aC ?_ (aC ?_ (aC ?_ (aC ?_ (aC ?_ (aC ?_ aN)))))))))
   ·intro L s w2 h hk hd hn K hK
    have s1:s 1=_:=hk 1
    go_simp
    exact hK {h with e0:=rF}
   ·intro L s w2 h hk hd hn K hK
    have s51:=h.e0 hd.1
    have kq:=(h.mu.same _ (lt_of_block HD.out) (notin1 (by have:=HLT.out;omega))).trans HD.out
    have kc:w2.cell? ⟨b,2,none⟩=some (.int .u16 r):=by rw [cell_of_row w2 b 2 _ _ _ kq];rfl
    go_simp
    exact hK {h with e1:=rF}
   ·intro L s w2 h hk hd hn K hK
    have s52:=h.e1 hd.1
    have e1:=wr_i64 (x:=r) (by have:=HRR.out;omega)
    go_simp
    exact hK {h with e2:=rF}
   ·intro L s w2 h hk hd hn K hK
    have s53:=h.e2 hd.1
    have e1:=wr_i64 (x:=-r) (by have:=HRR.out;omega)
    go_simp
    exact hK {h with e3:=rF}
   ·intro L s w2 h hk hd hn K hK
    have s1:s 1=_:=hk 1
    go_simp
    exact hK {h with e4:=rF}
   ·intro L s w2 h hk hd hn K hK
    have s55:=h.e4 hd.1
    have kq:=(h.mu.same _ (lt_of_block HD.out) (notin1 (by have:=HLT.out;omega))).trans HD.out
    have kc:w2.cell? ⟨b,2,none⟩=some (.int .u16 r):=by rw [cell_of_row w2 b 2 _ _ _ kq];rfl
    go_simp
    exact hK {h with e5:=rF}
   ·intro L s w2 h hk hd hn K hK
    have s56:=h.e5 hd.1
    have e1:=wr_i64 (x:=r) (by have:=HRR.out;omega)
    go_simp
    exact hK {h with e6:=rF}
   ·intro L s w2 h hk hd hn K hK
    have s54:=h.e3 hd.1
    have s57:=h.e6 hd.2.1
    go_simp
    exact hK {h with e7:=rF}
   ·intro L s w2 h hk hd hn K hK
    exact rs_field rfl (hk 3) (fl_model1 _ _) (hK {h with e8:=rF})
   ·intro L s w2 h hk hd hn K hK
    have kb:=h.kt_a hn
    exact rs_store rfl (h.e8 hd.1) (h.e7 hd.2.1) (sp_store (p:=21) kb (by have:=HML.out;omega) _) (hK {h with mu:=h.mu.put (List.Mem.head _) _,kt_a:=nF,kr_a:=fun _=>pH kb})
  ·intro L s w2 h hk hl
   refine cA ?_ (hQ2 s w2 (⟨h.mu,h.kr_a (hl 9)⟩))
   exact fq hk
 rintro s9 V ⟨h1,c_a⟩
 simp only [mergeL]
 replace HD:=j1 h1 HD (by have:=HLT.out;omega)
 replace HR:=j1 h1 HR (by have:=HLT.out;omega)
 replace HA:=lh c_a
 replace HM:=mB HM h1 (by have:=HBW.out;have:=HLT.out;simp;omega)
 clear h1 c_a
 refine HK9.out _ _ ?_
 refine wsk fun K10 HK10=>?_
 refine wc (n8 (n8 (n8 (n8 (n8 (n8 (n8 (nn::nn::nn::nn::some 60::[])))))))) (fun _ w'=>Mut [b+1] V w'/\w'.heap[b+1]?=some (cobj 34 (M.set 21 (-r,r)))) ?_ ?_
 ·intro Q2 hQ2
  refine wG (Dm10 V c r ts ao cap b g0 M) ?_ ?_ ?_
  ·exact ⟨Mut.start _ false _,fun _=>HR.out,nB,nB⟩
  ·refine aC ?_ (aC ?_ aN)
   ·intro L s w2 h hk hd hn K hK
    have kb:=kY h.mu HA (by have:=HLT.out;omega)
    exact rs_load rfl (hk 3) (md_load kb (by rw [List.length_set];exact HML.out)) (hK {h with e0:=rF})
   ·intro L s w2 h hk hd hn K hK
    have kb:=h.kt_r hn
    exact rs_store rfl (hk 2) (h.e0 hd.1) (md_store kb rfl _ (by rw [List.length_set];exact HML.out)) (hK {h with mu:=h.mu.put (List.Mem.head _) _,kt_r:=nF,kr_r:=fun _=>pH kb})
  ·intro L s w2 h hk hl
   refine cA ?_ (hQ2 s w2 (⟨h.mu,h.kr_r (hl 1)⟩))
   exact fq hk
 rintro s10 V ⟨h1,c_r⟩
 simp only [mergeL]
 replace HD:=j1 h1 HD (by have:=HLT.out;omega)
 replace HR:=lh c_r
 replace HA:=j1 h1 HA (by have:=HLT.out;omega)
 replace HM:=mB HM h1 (by have:=HBW.out;have:=HLT.out;simp;omega)
 clear h1 c_r
 refine HK10.out _ _ ?_
 refine wp_ret ?_
 rw [HE.out]
 exact bodyPost_ret (v:=mval (M.set 21 (-r,r))) (res_model Tryz.results13 rfl (md_loadVar HR.out (by rw [List.length_set];exact HML.out))) rfl ⟨rfl,by rw [←HBW.out];exact HM.out.to0⟩
end Go.Proofs.YthhkcfpljgdnhaaGreat
namespace Go.Proofs.YthhkcfpljgdnhaaGreat
open Go.RowKit Mnc
attribute [local go_sem] RunSP_value RunSP_skip RunSP_enter evS_tmp evS_const evS_global evS_func
structure Borest1 (V:World) (p:Int) (lo:Int) (hi:Int) (kk:Nat) (a:List (Int×Int)) (b:Nat) (L:Nat->Bool) (s:Nat->Value) (w:World):Prop where
 mu:Mut [] V w
 e0:L 0->s 6=.pointer (some ⟨b,1,none⟩)
 e1:L 1->s 7=.int .i64 lo
 e2:L 2->s 8=.pointer (some ⟨b,2,none⟩)
 e3:L 3->s 9=.int .i64 hi
 e4:L 4->s 10=sval (lo,hi)
 al_s:L 5->∃g:Nat,s 5=.pointer (some ⟨g,0,none⟩)/\V.heap.size<=g/\g<w.heap.size/\(L 6=false->w.heap[g]?=some (cobj 31 [(0,0)]))/\(L 6=true->w.heap[g]?=some (cobj 31 [(lo,hi)]))
 b6_5:L 6->L 5
structure Borest3 (V:World) (p:Int) (lo:Int) (hi:Int) (kk:Nat) (a:List (Int×Int)) (b:Nat) (g0:Nat) (L:Nat->Bool) (s:Nat->Value) (w:World):Prop where
 mu:Mut [b+1] V w
 kt_a:L 2=false->w.heap[b+1]?=some (cobj 34 a)
 kr_a:L 2->w.heap[b+1]?=some (cobj 34 (a.set 21 (lo,hi)))
 e0:L 0->s 15=sval (lo,hi)
 e1:L 1->s 16=.pointer (some ⟨b+1,21*2,none⟩)
structure Borest5 (V:World) (p:Int) (lo:Int) (hi:Int) (kk:Nat) (a:List (Int×Int)) (b:Nat) (g0:Nat) (L:Nat->Bool) (s:Nat->Value) (w:World):Prop where
 mu:Mut [b+1+1] V w
 kt_r:L 1=false->w.heap[b+1+1]?=some (cobj 34 zeroM)
 kr_r:L 1->w.heap[b+1+1]?=some (cobj 34 (a.set 21 (lo,hi)))
 e0:L 0->s 23=mval (a.set 21 (lo,hi))
theorem dr_Of_rest (p lo hi:Int) (a:List (Int×Int)) (hp:0<=p/\p<=255) (hq:p % 22=21) (ha:a.length=22) (w:World) :
  Calls Tryz.prog 15 #[.agg #[.int .u8 p,.int .i64 lo,.int .i64 hi],mval a] w fun e w'=>e=.returned (mval (bendOf p (lo,hi) a))/\Below w.heap.size w w':=by
 have HL:=lh ha
 obtain ⟨kk,hkk⟩:∃kk,(p % 22).toNat=kk:=⟨_,rfl⟩
 have HKE:=lh (show bendOf p (lo,hi) a=a.set kk (lo,hi) by unfold bendOf;rw [hkk])
 have HKM:=lh (show p % 22=(kk:Int)/\p.tmod 22=(kk:Int)/\kk=21 from ⟨by omega,by rw [Int.tmod_eq_emod_of_nonneg hp.1];omega,by omega⟩)
 have HLX:=lh (show (a.set kk (lo,hi)).length=22 by rw [List.length_set];exact ha)
 clear hp hq ha hkk
 go_enter Tryz.func15,Tryz.ntmps15
 refine wsk fun K0 HK0=>?_
 go_wp2_with fail
 rename_i x1 cs1 hc1
 obtain rfl:(mc a).toArray=cs1:=Value.agg.inj hc1
 clear hc1
 obtain ⟨b,hb⟩:∃b,w.heap.size=b:=⟨_,rfl⟩
 refine HK0.out _ _ ?_
 refine wp_world (fun V=>Mut [] w V/\V.heap[b]?=some (.cells #[.int .u8 p,.int .i64 lo,.int .i64 hi] 28 (0,0))/\V.heap[b+1]?=some (cobj 34 a)/\V.heap[b+1+1]?=some (cobj 34 zeroM)) ?_
  (by
   rw [←hb]
   exact ⟨((((Mut.refl _ _).alloc _).alloc _).alloc _),heap_up _ (heap_up _ (heap_at (.cells #[.int .u8 p,.int .i64 lo,.int .i64 hi] 28 (0,0)) (by simp))),heap_up _ (heap_at (cobj 34 a) (by simp)),heap_at (cobj 34 zeroM) (by simp)⟩)
 rintro V ⟨hm,hHB,hHA,hHR⟩
 rw [hb]
 have HM:=lh hm
 have HBW:=lh hb
 have HLT:=lh trivial
 have HB:=lh hHB
 have HA:=lh hHA
 have HR:=lh hHR
 clear hm hHB hHA hHR hb HK0
 refine wsk fun K1 HK1=>?_
 refine wc (nn::nn::nn::nn::nn::some 5::some 6::some 7::some 8::some 9::some 10::n8 (nn::nn::nn::nn::nn::[])) (fun s w'=>Mut [] V w'/\(∃g:Nat,s 5=.pointer (some ⟨g,0,none⟩)/\V.heap.size<=g/\w'.heap[g]?=some (cobj 31 [(lo,hi)]))) ?_ ?_
 ·intro Q2 hQ2
  refine wG (Borest1 V p lo hi kk a b) ?_ ?_ ?_
  ·exact ⟨Mut.start _ false _,nB,nB,nB,nB,nB,nB,nB⟩
  ·refine aC ?_ (aC ?_ (aC ?_ (aC ?_ (aC ?_ (aC ?_ (aC ?_ aN))))))
   ·intro L s w2 h hk hd hn K hK
    have s2:s 2=_:=hk 2
    go_simp
    exact hK {h with e0:=rF}
   ·intro L s w2 h hk hd hn K hK
    have s6:=h.e0 hd.1
    have kq:=(h.mu.same _ (lt_of_block HB.out) (by simp)).trans HB.out
    have kc:w2.cell? ⟨b,1,none⟩=some (.int .i64 lo):=by rw [cell_of_row w2 b 1 _ _ _ kq];rfl
    go_simp
    exact hK {h with e1:=rF}
   ·intro L s w2 h hk hd hn K hK
    have s2:s 2=_:=hk 2
    go_simp
    exact hK {h with e2:=rF}
   ·intro L s w2 h hk hd hn K hK
    have s8:=h.e2 hd.1
    have kq:=(h.mu.same _ (lt_of_block HB.out) (by simp)).trans HB.out
    have kc:w2.cell? ⟨b,2,none⟩=some (.int .i64 hi):=by rw [cell_of_row w2 b 2 _ _ _ kq];rfl
    go_simp
    exact hK {h with e3:=rF}
   ·intro L s w2 h hk hd hn K hK
    have s7:=h.e1 hd.1
    have s9:=h.e3 hd.2.1
    go_simp
    exact hK {h with e4:=rF}
   ·intro L s w2 h hk hd hn K hK
    go_simp
    exact hK {h with mu:=h.mu.alloc _,al_s:=fun _=>aW h.mu.size h.b6_5 hn,b6_5:=rF}
   ·intro L s w2 h hk hd hn K hK
    obtain ⟨g,hg0,hg1,hgl,hg2,hg3⟩:=h.al_s hd.1
    have kb:=hg2 hn
    exact rs_store rfl hg0 (h.e4 hd.2.1) (sp_store (p:=0) kb (by simp) _) (hK {h with mu:=h.mu.putNew hg1 _,al_s:=fun a=>⟨g,hg0,hg1,by simpa using hgl,fun a=>absurd a.symm bft,fun _=>World.putObj_heap_same (Array.getElem?_eq_some_iff.1 kb).1⟩,b6_5:=fun _=>hd.1})
  ·intro L s w2 h hk hl
   refine cA ?_ (hQ2 s w2 (⟨h.mu,aE (h.al_s (hl 5)) (hl 6)⟩))
   refine congrArg (fun l=>(⟨List.toArray l,[]⟩:Act)) ?_
   show [s 0,s 1,s 2,s 3,s 4,s 5,s 6,s 7,s 8,s 9,s 10,s 11,s 12,s 13,s 14,s 15,s 16,s 17,s 18,s 19,s 20,s 21,s 22,s 23]=_
   exact lc (hk 0 (by kernel_rfl)) (lc (hk 1 (by kernel_rfl)) (lc (hk 2 (by kernel_rfl)) (lc (hk 3 (by kernel_rfl)) (lc (hk 4 (by kernel_rfl)) (lc rfl (lc rfl (lc rfl (lc rfl (lc rfl (lc rfl (lc (hk 11 (by kernel_rfl)) (lc (hk 12 (by kernel_rfl)) (lc (hk 13 (by kernel_rfl)) (lc (hk 14 (by kernel_rfl)) (lc (hk 15 (by kernel_rfl)) (lc (hk 16 (by kernel_rfl)) (lc (hk 17 (by kernel_rfl)) (lc (hk 18 (by kernel_rfl)) (lc (hk 19 (by kernel_rfl)) (lc (hk 20 (by kernel_rfl)) (lc (hk 21 (by kernel_rfl)) (lc (hk 22 (by kernel_rfl)) (lc (hk 23 (by kernel_rfl)) rfl)))))))))))))))))))))))
 rintro s1 V ⟨h1,⟨g0,k_s,g_s,c_s⟩⟩
 simp only [mergeL]
 rw [k_s]
 replace HLT:=lh (show b<=g0/\b<g0/\b+1<g0/\b+1+1<g0 from by
  have hlt:=HLT.out
  have hbw:=HM.out.size
  have hbw2:=HBW.out
  have:=lt_of_block HB.out
  have:=lt_of_block HA.out
  have:=lt_of_block HR.out
  omega)
 replace HB:=sm h1 HB
 replace HA:=sm h1 HA
 replace HR:=sm h1 HR
 have HS:=lh c_s
 replace HM:=mE HM h1
 clear h1 k_s g_s c_s
 refine HK1.out _ _ ?_
 refine wsk fun KB HKB=>?_
 refine wsk fun K2 HK2=>?_
 have b0:V.cell? ⟨b,0,none⟩=some (.int .u8 p):=by rw [cell_of_row V b 0 _ _ _ HB.out];rfl
 have e1:p % 22=21:=by have:=HKM.out;omega
 have e2:p.tmod 22=21:=by have:=HKM.out;omega
 go_wp2_with fail
 refine HK2.out _ _ ?_
 refine wp_cond_true (by rfl) ?_
 clear b0 e1 e2
 refine wc (n8 (nn::nn::nn::nn::nn::nn::nn::some 15::some 16::nn::nn::nn::nn::nn::nn::nn::[])) (fun _ w'=>Mut [b+1] V w'/\w'.heap[b+1]?=some (cobj 34 (a.set 21 (lo,hi)))) ?_ ?_
 ·intro Q2 hQ2
  refine wG (Borest3 V p lo hi kk a b g0) ?_ ?_ ?_
  ·exact ⟨Mut.start _ false _,fun _=>HA.out,nB,nB,nB⟩
  ·refine aC ?_ (aC ?_ (aC ?_ aN))
   ·intro L s w2 h hk hd hn K hK
    have kb:=kY h.mu HS (by have:=HLT.out;omega)
    exact rs_load rfl (hk 5) (sp_load (p:=0) kb (by simp)) (hK {h with e0:=rF})
   ·intro L s w2 h hk hd hn K hK
    exact rs_field rfl (hk 3) (fl_model1 _ _) (hK {h with e1:=rF})
   ·intro L s w2 h hk hd hn K hK
    have kb:=h.kt_a hn
    exact rs_store rfl (h.e1 hd.1) (h.e0 hd.2.1) (sp_store (p:=21) kb (by have:=(HL.out:a.length=22);omega) _) (hK {h with mu:=h.mu.put (List.Mem.head _) _,kt_a:=fun a=>absurd a.symm bft,kr_a:=fun _=>World.putObj_heap_same (Array.getElem?_eq_some_iff.1 kb).1})
  ·intro L s w2 h hk hl
   refine cA ?_ (hQ2 s w2 (⟨h.mu,h.kr_a (hl 2)⟩))
   refine congrArg (fun l=>(⟨List.toArray l,[]⟩:Act)) ?_
   show [s 0,s 1,s 2,s 3,s 4,s 5,s 6,s 7,s 8,s 9,s 10,s 11,s 12,s 13,s 14,s 15,s 16,s 17,s 18,s 19,s 20,s 21,s 22,s 23]=_
   exact lc (hk 0 (by kernel_rfl)) (lc (hk 1 (by kernel_rfl)) (lc (hk 2 (by kernel_rfl)) (lc (hk 3 (by kernel_rfl)) (lc (hk 4 (by kernel_rfl)) (lc (hk 5 (by kernel_rfl)) (lc (hk 6 (by kernel_rfl)) (lc (hk 7 (by kernel_rfl)) (lc (hk 8 (by kernel_rfl)) (lc (hk 9 (by kernel_rfl)) (lc (hk 10 (by kernel_rfl)) (lc (hk 11 (by kernel_rfl)) (lc (hk 12 (by kernel_rfl)) (lc (hk 13 (by kernel_rfl)) (lc (hk 14 (by kernel_rfl)) (lc rfl (lc rfl (lc (hk 17 (by kernel_rfl)) (lc (hk 18 (by kernel_rfl)) (lc (hk 19 (by kernel_rfl)) (lc (hk 20 (by kernel_rfl)) (lc (hk 21 (by kernel_rfl)) (lc (hk 22 (by kernel_rfl)) (lc (hk 23 (by kernel_rfl)) rfl)))))))))))))))))))))))
 rintro s3 V ⟨h1,c_a⟩
 simp only [mergeL]
 replace HB:=j1 h1 HB (by have:=HLT.out;omega)
 replace HA:=lh c_a
 replace HR:=j1 h1 HR (by have:=HLT.out;omega)
 replace HS:=j1 h1 HS (by have:=HLT.out;omega)
 replace HM:=mB HM h1 (by have:=HBW.out;have:=HLT.out;simp;omega)
 clear h1 c_a
 refine HKB.out _ _ ?_
 have HLS:=lh (show (a.set 21 (lo,hi)).length=22 by rw [List.length_set];exact HL.out)
 refine wsk fun K5 HK5=>?_
 refine wc (n8 (n8 (nn::nn::nn::nn::nn::nn::nn::some 23::[]))) (fun _ w'=>Mut [b+1+1] V w'/\w'.heap[b+1+1]?=some (cobj 34 (a.set 21 (lo,hi)))) ?_ ?_
 ·intro Q2 hQ2
  refine wG (Borest5 V p lo hi kk a b g0) ?_ ?_ ?_
  ·exact ⟨Mut.start _ false _,fun _=>HR.out,nB,nB⟩
  ·refine aC ?_ (aC ?_ aN)
   ·intro L s w2 h hk hd hn K hK
    have kb:=kY h.mu HA (by have:=HLT.out;omega)
    exact rs_load rfl (hk 3) (md_load kb HLS.out) (hK {h with e0:=rF})
   ·intro L s w2 h hk hd hn K hK
    have kb:=h.kt_r hn
    exact rs_store rfl (hk 4) (h.e0 hd.1) (md_store kb rfl _ HLS.out) (hK {h with mu:=h.mu.put (List.Mem.head _) _,kt_r:=fun a=>absurd a.symm bft,kr_r:=fun _=>World.putObj_heap_same (Array.getElem?_eq_some_iff.1 kb).1})
  ·intro L s w2 h hk hl
   refine cA ?_ (hQ2 s w2 (⟨h.mu,h.kr_r (hl 1)⟩))
   refine congrArg (fun l=>(⟨List.toArray l,[]⟩:Act)) ?_
   show [s 0,s 1,s 2,s 3,s 4,s 5,s 6,s 7,s 8,s 9,s 10,s 11,s 12,s 13,s 14,s 15,s 16,s 17,s 18,s 19,s 20,s 21,s 22,s 23]=_
   exact lc (hk 0 (by kernel_rfl)) (lc (hk 1 (by kernel_rfl)) (lc (hk 2 (by kernel_rfl)) (lc (hk 3 (by kernel_rfl)) (lc (hk 4 (by kernel_rfl)) (lc (hk 5 (by kernel_rfl)) (lc (hk 6 (by kernel_rfl)) (lc (hk 7 (by kernel_rfl)) (lc (hk 8 (by kernel_rfl)) (lc (hk 9 (by kernel_rfl)) (lc (hk 10 (by kernel_rfl)) (lc (hk 11 (by kernel_rfl)) (lc (hk 12 (by kernel_rfl)) (lc (hk 13 (by kernel_rfl)) (lc (hk 14 (by kernel_rfl)) (lc (hk 15 (by kernel_rfl)) (lc (hk 16 (by kernel_rfl)) (lc (hk 17 (by kernel_rfl)) (lc (hk 18 (by kernel_rfl)) (lc (hk 19 (by kernel_rfl)) (lc (hk 20 (by kernel_rfl)) (lc (hk 21 (by kernel_rfl)) (lc (hk 22 (by kernel_rfl)) (lc rfl rfl)))))))))))))))))))))))
 rintro s5 V ⟨h1,c_r⟩
 simp only [mergeL]
 replace HB:=j1 h1 HB (by have:=HLT.out;omega)
 replace HA:=j1 h1 HA (by have:=HLT.out;omega)
 replace HR:=lh c_r
 replace HS:=j1 h1 HS (by have:=HLT.out;omega)
 replace HM:=mB HM h1 (by have:=HBW.out;have:=HLT.out;simp;omega)
 clear h1 c_r
 refine HK5.out _ _ ?_
 refine wp_ret ?_
 rw [HKE.out,show kk=21 from HKM.out.2.2]
 exact bodyPost_ret (v:=mval (a.set 21 (lo,hi))) (res_model Tryz.results15 rfl (md_loadVar HR.out HLS.out)) rfl ⟨rfl,by rw [←HBW.out];exact HM.out.to0⟩
structure Bocoef1 (V:World) (p:Int) (lo:Int) (hi:Int) (kk:Nat) (a:List (Int×Int)) (b:Nat) (L:Nat->Bool) (s:Nat->Value) (w:World):Prop where
 mu:Mut [] V w
 e0:L 0->s 6=.pointer (some ⟨b,1,none⟩)
 e1:L 1->s 7=.int .i64 lo
 e2:L 2->s 8=.pointer (some ⟨b,2,none⟩)
 e3:L 3->s 9=.int .i64 hi
 e4:L 4->s 10=sval (lo,hi)
 al_s:L 5->∃g:Nat,s 5=.pointer (some ⟨g,0,none⟩)/\V.heap.size<=g/\g<w.heap.size/\(L 6=false->w.heap[g]?=some (cobj 31 [(0,0)]))/\(L 6=true->w.heap[g]?=some (cobj 31 [(lo,hi)]))
 b6_5:L 6->L 5
structure Bocoef4 (V:World) (p:Int) (lo:Int) (hi:Int) (kk:Nat) (a:List (Int×Int)) (b:Nat) (g0:Nat) (L:Nat->Bool) (s:Nat->Value) (w:World):Prop where
 mu:Mut [b+1] V w
 kt_a:L 6=false->w.heap[b+1]?=some (cobj 34 a)
 kr_a:L 6->w.heap[b+1]?=some (cobj 34 (a.set kk (lo,hi)))
 e0:L 0->s 17=.pointer (some ⟨b,0,none⟩)
 e1:L 1->s 18=.int .u8 p
 e2:L 2->s 19=.int .u8 (kk:Int)
 e3:L 3->s 20=sval (lo,hi)
 e4:L 4->s 21=.pointer (some ⟨b+1,0,none⟩)
 e5:L 5->s 22=.pointer (some ⟨b+1,kk*2,none⟩)
structure Bocoef5 (V:World) (p:Int) (lo:Int) (hi:Int) (kk:Nat) (a:List (Int×Int)) (b:Nat) (g0:Nat) (L:Nat->Bool) (s:Nat->Value) (w:World):Prop where
 mu:Mut [b+1+1] V w
 kt_r:L 1=false->w.heap[b+1+1]?=some (cobj 34 zeroM)
 kr_r:L 1->w.heap[b+1+1]?=some (cobj 34 (a.set kk (lo,hi)))
 e0:L 0->s 23=mval (a.set kk (lo,hi))
theorem dr_Of_coef (p lo hi:Int) (a:List (Int×Int)) (hp:0<=p/\p<=255) (hq:¬p % 22=21) (ha:a.length=22) (w:World) :
  Calls Tryz.prog 15 #[.agg #[.int .u8 p,.int .i64 lo,.int .i64 hi],mval a] w fun e w'=>e=.returned (mval (bendOf p (lo,hi) a))/\Below w.heap.size w w':=by
 have HL:=lh ha
 obtain ⟨kk,hkk⟩:∃kk,(p % 22).toNat=kk:=⟨_,rfl⟩
 have HKE:=lh (show bendOf p (lo,hi) a=a.set kk (lo,hi) by unfold bendOf;rw [hkk])
 have HKM:=lh (show p % 22=(kk:Int)/\p.tmod 22=(kk:Int)/\kk<21 from ⟨by omega,by rw [Int.tmod_eq_emod_of_nonneg hp.1];omega,by omega⟩)
 have HLX:=lh (show (a.set kk (lo,hi)).length=22 by rw [List.length_set];exact ha)
 clear hp hq ha hkk
 go_enter Tryz.func15,Tryz.ntmps15
 refine wsk fun K0 HK0=>?_
 go_wp2_with fail
 rename_i x1 cs1 hc1
 obtain rfl:(mc a).toArray=cs1:=Value.agg.inj hc1
 clear hc1
 obtain ⟨b,hb⟩:∃b,w.heap.size=b:=⟨_,rfl⟩
 refine HK0.out _ _ ?_
 refine wp_world (fun V=>Mut [] w V/\V.heap[b]?=some (.cells #[.int .u8 p,.int .i64 lo,.int .i64 hi] 28 (0,0))/\V.heap[b+1]?=some (cobj 34 a)/\V.heap[b+1+1]?=some (cobj 34 zeroM)) ?_
  (by
   rw [←hb]
   exact ⟨((((Mut.refl _ _).alloc _).alloc _).alloc _),heap_up _ (heap_up _ (heap_at (.cells #[.int .u8 p,.int .i64 lo,.int .i64 hi] 28 (0,0)) (by simp))),heap_up _ (heap_at (cobj 34 a) (by simp)),heap_at (cobj 34 zeroM) (by simp)⟩)
 rintro V ⟨hm,hHB,hHA,hHR⟩
 rw [hb]
 have HM:=lh hm
 have HBW:=lh hb
 have HLT:=lh trivial
 have HB:=lh hHB
 have HA:=lh hHA
 have HR:=lh hHR
 clear hm hHB hHA hHR hb HK0
 refine wsk fun K1 HK1=>?_
 refine wc (nn::nn::nn::nn::nn::some 5::some 6::some 7::some 8::some 9::some 10::n8 (nn::nn::nn::nn::nn::[])) (fun s w'=>Mut [] V w'/\(∃g:Nat,s 5=.pointer (some ⟨g,0,none⟩)/\V.heap.size<=g/\w'.heap[g]?=some (cobj 31 [(lo,hi)]))) ?_ ?_
 ·intro Q2 hQ2
  refine wG (Bocoef1 V p lo hi kk a b) ?_ ?_ ?_
  ·exact ⟨Mut.start _ false _,nB,nB,nB,nB,nB,nB,nB⟩
  ·refine aC ?_ (aC ?_ (aC ?_ (aC ?_ (aC ?_ (aC ?_ (aC ?_ aN))))))
   ·intro L s w2 h hk hd hn K hK
    have s2:s 2=_:=hk 2
    go_simp
    exact hK {h with e0:=rF}
   ·intro L s w2 h hk hd hn K hK
    have s6:=h.e0 hd.1
    have kq:=(h.mu.same _ (lt_of_block HB.out) (by simp)).trans HB.out
    have kc:w2.cell? ⟨b,1,none⟩=some (.int .i64 lo):=by rw [cell_of_row w2 b 1 _ _ _ kq];rfl
    go_simp
    exact hK {h with e1:=rF}
   ·intro L s w2 h hk hd hn K hK
    have s2:s 2=_:=hk 2
    go_simp
    exact hK {h with e2:=rF}
   ·intro L s w2 h hk hd hn K hK
    have s8:=h.e2 hd.1
    have kq:=(h.mu.same _ (lt_of_block HB.out) (by simp)).trans HB.out
    have kc:w2.cell? ⟨b,2,none⟩=some (.int .i64 hi):=by rw [cell_of_row w2 b 2 _ _ _ kq];rfl
    go_simp
    exact hK {h with e3:=rF}
   ·intro L s w2 h hk hd hn K hK
    have s7:=h.e1 hd.1
    have s9:=h.e3 hd.2.1
    go_simp
    exact hK {h with e4:=rF}
   ·intro L s w2 h hk hd hn K hK
    go_simp
    exact hK {h with mu:=h.mu.alloc _,al_s:=fun _=>aW h.mu.size h.b6_5 hn,b6_5:=rF}
   ·intro L s w2 h hk hd hn K hK
    obtain ⟨g,hg0,hg1,hgl,hg2,hg3⟩:=h.al_s hd.1
    have kb:=hg2 hn
    exact rs_store rfl hg0 (h.e4 hd.2.1) (sp_store (p:=0) kb (by simp) _) (hK {h with mu:=h.mu.putNew hg1 _,al_s:=fun a=>⟨g,hg0,hg1,by simpa using hgl,fun a=>absurd a.symm bft,fun _=>World.putObj_heap_same (Array.getElem?_eq_some_iff.1 kb).1⟩,b6_5:=fun _=>hd.1})
  ·intro L s w2 h hk hl
   refine cA ?_ (hQ2 s w2 (⟨h.mu,aE (h.al_s (hl 5)) (hl 6)⟩))
   refine congrArg (fun l=>(⟨List.toArray l,[]⟩:Act)) ?_
   show [s 0,s 1,s 2,s 3,s 4,s 5,s 6,s 7,s 8,s 9,s 10,s 11,s 12,s 13,s 14,s 15,s 16,s 17,s 18,s 19,s 20,s 21,s 22,s 23]=_
   exact lc (hk 0 (by kernel_rfl)) (lc (hk 1 (by kernel_rfl)) (lc (hk 2 (by kernel_rfl)) (lc (hk 3 (by kernel_rfl)) (lc (hk 4 (by kernel_rfl)) (lc rfl (lc rfl (lc rfl (lc rfl (lc rfl (lc rfl (lc (hk 11 (by kernel_rfl)) (lc (hk 12 (by kernel_rfl)) (lc (hk 13 (by kernel_rfl)) (lc (hk 14 (by kernel_rfl)) (lc (hk 15 (by kernel_rfl)) (lc (hk 16 (by kernel_rfl)) (lc (hk 17 (by kernel_rfl)) (lc (hk 18 (by kernel_rfl)) (lc (hk 19 (by kernel_rfl)) (lc (hk 20 (by kernel_rfl)) (lc (hk 21 (by kernel_rfl)) (lc (hk 22 (by kernel_rfl)) (lc (hk 23 (by kernel_rfl)) rfl)))))))))))))))))))))))
 rintro s1 V ⟨h1,⟨g0,k_s,g_s,c_s⟩⟩
 simp only [mergeL]
 rw [k_s]
 replace HLT:=lh (show b<=g0/\b<g0/\b+1<g0/\b+1+1<g0 from by
  have hlt:=HLT.out
  have hbw:=HM.out.size
  have hbw2:=HBW.out
  have:=lt_of_block HB.out
  have:=lt_of_block HA.out
  have:=lt_of_block HR.out
  omega)
 replace HB:=sm h1 HB
 replace HA:=sm h1 HA
 replace HR:=sm h1 HR
 have HS:=lh c_s
 replace HM:=mE HM h1
 clear h1 k_s g_s c_s
 refine HK1.out _ _ ?_
 refine wsk fun KB HKB=>?_
 refine wsk fun K2 HK2=>?_
 have b0:V.cell? ⟨b,0,none⟩=some (.int .u8 p):=by rw [cell_of_row V b 0 _ _ _ HB.out];rfl
 have e1:=HKM.out.1
 have e2:=HKM.out.2.1
 have e3:((kk:Int)==21)=false:=by have:=HKM.out.2.2;simp;omega
 go_wp2_with fail
 refine HK2.out _ _ ?_
 refine wp_cond_false (by rfl) ?_
 clear b0 e1 e2 e3
 refine wc (n8 (n8 (nn::some 17::some 18::some 19::some 20::some 21::some 22::nn::[]))) (fun _ w'=>Mut [b+1] V w'/\w'.heap[b+1]?=some (cobj 34 (a.set kk (lo,hi)))) ?_ ?_
 ·intro Q2 hQ2
  refine wG (Bocoef4 V p lo hi kk a b g0) ?_ ?_ ?_
  ·exact ⟨Mut.start _ false _,fun _=>HA.out,nB,nB,nB,nB,nB,nB,nB⟩
  ·refine aC ?_ (aC ?_ (aC ?_ (aC ?_ (aC ?_ (aC ?_ (aC ?_ aN))))))
   ·intro L s w2 h hk hd hn K hK
    have s2:s 2=_:=hk 2
    go_simp
    exact hK {h with e0:=rF}
   ·intro L s w2 h hk hd hn K hK
    have s17:=h.e0 hd.1
    have kq:=(h.mu.same _ (lt_of_block HB.out) (notin1 (by omega))).trans HB.out
    have kc:w2.cell? ⟨b,0,none⟩=some (.int .u8 p):=by rw [cell_of_row w2 b 0 _ _ _ kq];rfl
    go_simp
    exact hK {h with e1:=rF}
   ·intro L s w2 h hk hd hn K hK
    have s18:=h.e1 hd.1
    have e1:=HKM.out.1
    have e2:=HKM.out.2.1
    go_simp
    exact hK {h with e2:=rF}
   ·intro L s w2 h hk hd hn K hK
    have kb:=kY h.mu HS (by have:=HLT.out;omega)
    exact rs_load rfl (hk 5) (sp_load (p:=0) kb (by simp)) (hK {h with e3:=rF})
   ·intro L s w2 h hk hd hn K hK
    exact rs_field rfl (hk 3) (fl_model0 _ _) (hK {h with e4:=rF})
   ·intro L s w2 h hk hd hn K hK
    exact rs_index rfl (h.e4 hd.1) (h.e2 hd.2.1) (ix_model8 _ kk HKM.out.2.2) (hK {h with e5:=rF})
   ·intro L s w2 h hk hd hn K hK
    have kb:=h.kt_a hn
    exact rs_store rfl (h.e5 hd.1) (h.e3 hd.2.1) (sp_store (p:=kk) kb (by have:=HL.out;have:=HKM.out.2.2;omega) _) (hK {h with mu:=h.mu.put (List.Mem.head _) _,kt_a:=fun a=>absurd a.symm bft,kr_a:=fun _=>World.putObj_heap_same (Array.getElem?_eq_some_iff.1 kb).1})
  ·intro L s w2 h hk hl
   refine cA ?_ (hQ2 s w2 (⟨h.mu,h.kr_a (hl 6)⟩))
   refine congrArg (fun l=>(⟨List.toArray l,[]⟩:Act)) ?_
   show [s 0,s 1,s 2,s 3,s 4,s 5,s 6,s 7,s 8,s 9,s 10,s 11,s 12,s 13,s 14,s 15,s 16,s 17,s 18,s 19,s 20,s 21,s 22,s 23]=_
   exact lc (hk 0 (by kernel_rfl)) (lc (hk 1 (by kernel_rfl)) (lc (hk 2 (by kernel_rfl)) (lc (hk 3 (by kernel_rfl)) (lc (hk 4 (by kernel_rfl)) (lc (hk 5 (by kernel_rfl)) (lc (hk 6 (by kernel_rfl)) (lc (hk 7 (by kernel_rfl)) (lc (hk 8 (by kernel_rfl)) (lc (hk 9 (by kernel_rfl)) (lc (hk 10 (by kernel_rfl)) (lc (hk 11 (by kernel_rfl)) (lc (hk 12 (by kernel_rfl)) (lc (hk 13 (by kernel_rfl)) (lc (hk 14 (by kernel_rfl)) (lc (hk 15 (by kernel_rfl)) (lc (hk 16 (by kernel_rfl)) (lc rfl (lc rfl (lc rfl (lc rfl (lc rfl (lc rfl (lc (hk 23 (by kernel_rfl)) rfl)))))))))))))))))))))))
 rintro s4 V ⟨h1,c_a⟩
 simp only [mergeL]
 replace HB:=j1 h1 HB (by have:=HLT.out;omega)
 replace HA:=lh c_a
 replace HR:=j1 h1 HR (by have:=HLT.out;omega)
 replace HS:=j1 h1 HS (by have:=HLT.out;omega)
 replace HM:=mB HM h1 (by have:=HBW.out;have:=HLT.out;simp;omega)
 clear h1 c_a
 refine HKB.out _ _ ?_
 have HLS:=lh (show (a.set kk (lo,hi)).length=22 by rw [List.length_set];exact HL.out)
 refine wsk fun K5 HK5=>?_
 refine wc (n8 (n8 (nn::nn::nn::nn::nn::nn::nn::some 23::[]))) (fun _ w'=>Mut [b+1+1] V w'/\w'.heap[b+1+1]?=some (cobj 34 (a.set kk (lo,hi)))) ?_ ?_
 ·intro Q2 hQ2
  refine wG (Bocoef5 V p lo hi kk a b g0) ?_ ?_ ?_
  ·exact ⟨Mut.start _ false _,fun _=>HR.out,nB,nB⟩
  ·refine aC ?_ (aC ?_ aN)
   ·intro L s w2 h hk hd hn K hK
    have kb:=kY h.mu HA (by have:=HLT.out;omega)
    exact rs_load rfl (hk 3) (md_load kb HLS.out) (hK {h with e0:=rF})
   ·intro L s w2 h hk hd hn K hK
    have kb:=h.kt_r hn
    exact rs_store rfl (hk 4) (h.e0 hd.1) (md_store kb rfl _ HLS.out) (hK {h with mu:=h.mu.put (List.Mem.head _) _,kt_r:=fun a=>absurd a.symm bft,kr_r:=fun _=>World.putObj_heap_same (Array.getElem?_eq_some_iff.1 kb).1})
  ·intro L s w2 h hk hl
   refine cA ?_ (hQ2 s w2 (⟨h.mu,h.kr_r (hl 1)⟩))
   refine congrArg (fun l=>(⟨List.toArray l,[]⟩:Act)) ?_
   show [s 0,s 1,s 2,s 3,s 4,s 5,s 6,s 7,s 8,s 9,s 10,s 11,s 12,s 13,s 14,s 15,s 16,s 17,s 18,s 19,s 20,s 21,s 22,s 23]=_
   exact lc (hk 0 (by kernel_rfl)) (lc (hk 1 (by kernel_rfl)) (lc (hk 2 (by kernel_rfl)) (lc (hk 3 (by kernel_rfl)) (lc (hk 4 (by kernel_rfl)) (lc (hk 5 (by kernel_rfl)) (lc (hk 6 (by kernel_rfl)) (lc (hk 7 (by kernel_rfl)) (lc (hk 8 (by kernel_rfl)) (lc (hk 9 (by kernel_rfl)) (lc (hk 10 (by kernel_rfl)) (lc (hk 11 (by kernel_rfl)) (lc (hk 12 (by kernel_rfl)) (lc (hk 13 (by kernel_rfl)) (lc (hk 14 (by kernel_rfl)) (lc (hk 15 (by kernel_rfl)) (lc (hk 16 (by kernel_rfl)) (lc (hk 17 (by kernel_rfl)) (lc (hk 18 (by kernel_rfl)) (lc (hk 19 (by kernel_rfl)) (lc (hk 20 (by kernel_rfl)) (lc (hk 21 (by kernel_rfl)) (lc (hk 22 (by kernel_rfl)) (lc rfl rfl)))))))))))))))))))))))
 rintro s5 V ⟨h1,c_r⟩
 simp only [mergeL]
 replace HB:=j1 h1 HB (by have:=HLT.out;omega)
 replace HA:=j1 h1 HA (by have:=HLT.out;omega)
 replace HR:=lh c_r
 replace HS:=j1 h1 HS (by have:=HLT.out;omega)
 replace HM:=mB HM h1 (by have:=HBW.out;have:=HLT.out;simp;omega)
 clear h1 c_r
 refine HK5.out _ _ ?_
 refine wp_ret ?_
 rw [HKE.out]
 exact bodyPost_ret (v:=mval (a.set kk (lo,hi))) (res_model Tryz.results15 rfl (md_loadVar HR.out HLS.out)) rfl ⟨rfl,by rw [←HBW.out];exact HM.out.to0⟩
theorem dr_Of (p lo hi:Int) (a:List (Int×Int)) (hp:0<=p/\p<=255) (ha:a.length=22) (w:World) :
  Calls Tryz.prog 15 #[.agg #[.int .u8 p,.int .i64 lo,.int .i64 hi],mval a] w fun e w'=>e=.returned (mval (bendOf p (lo,hi) a))/\Below w.heap.size w w':=by
 by_cases h:p % 22=21
 ·exact dr_Of_rest p lo hi a hp h ha w
 ·exact dr_Of_coef p lo hi a hp h ha w
structure Dn1 (V:World) (c:Int) (r:Int) (ts:List Tm) (ao:Option Addr) (cap:Nat) (b:Nat) (L:Nat->Bool) (s:Nat->Value) (w:World):Prop where
 mu:Mut [] V w
 e0:L 0->s 5=.agg #[.int .i16 c,.slice ao ts.length cap,.int .u16 r]
 e1:L 1->s 6=mval (dModel c ts r)
 al_a:L 2->∃g:Nat,s 3=.pointer (some ⟨g,0,none⟩)/\V.heap.size<=g/\g<w.heap.size/\(L 3=false->w.heap[g]?=some (cobj 34 zeroM))/\(L 3=true->w.heap[g]?=some (cobj 34 (dModel c ts r)))
 b3_2:L 3->L 2
structure Dn2 (V:World) (c:Int) (r:Int) (ts:List Tm) (ao:Option Addr) (cap:Nat) (b:Nat) (g0:Nat) (L:Nat->Bool) (s:Nat->Value) (w:World):Prop where
 mu:Mut [g0] V w
 kt_a:L 9=false->w.heap[g0]?=some (cobj 34 (dModel c ts r))
 kr_a:L 9->w.heap[g0]?=some (cobj 34 ((dModel c ts r).set 0 (4294967296+(c+32768)*65536,4294967296+(c+32768)*65536)))
 e0:L 0->s 7=.pointer (some ⟨b,0,none⟩)
 e1:L 1->s 8=.int .i16 c
 e2:L 2->s 9=.int .i64 c
 e3:L 3->s 10=.int .i64 (c+32768)
 e4:L 4->s 11=.int .i64 ((c+32768)*65536)
 e5:L 5->s 12=.int .i64 (4294967296+(c+32768)*65536)
 e6:L 6->s 13=sval (4294967296+(c+32768)*65536,4294967296+(c+32768)*65536)
 e7:L 7->s 14=.pointer (some ⟨g0,0,none⟩)
 e8:L 8->s 15=.pointer (some ⟨g0,0*2,none⟩)
structure Dn6 (V:World) (c:Int) (r:Int) (ts:List Tm) (ao:Option Addr) (cap:Nat) (b:Nat) (g0:Nat) (p:Nat) (M:List (Int×Int)) (L:Nat->Bool) (s:Nat->Value) (w:World):Prop where
 mu:Mut [g0] V w
 kt_a:L 10=false->w.heap[g0]?=some (cobj 34 M)
 kr_a:L 10->w.heap[g0]?=some (cobj 34 (nearLo M p))
 e0:L 0->s 20=.int .i64 ((p:Nat):Int)
 e1:L 1->s 21=.int .i64 ((p:Nat):Int)
 e2:L 2->s 22=.pointer (some ⟨g0,0,none⟩)
 e3:L 3->s 23=.pointer (some ⟨g0,p*2,none⟩)
 e4:L 4->s 24=.pointer (some ⟨g0,p*2,none⟩)
 e5:L 5->s 25=.int .i64 ((tAt M p).1)
 e6:L 6->s 26=.int .i64 (IntKind.i64.wrap ((tAt M p).1.tdiv 8))
 e7:L 7->s 27=.pointer (some ⟨g0,0,none⟩)
 e8:L 8->s 28=.pointer (some ⟨g0,p*2,none⟩)
 e9:L 9->s 29=.pointer (some ⟨g0,p*2,none⟩)
 b10_5:L 10->L 5
structure Dn7 (V:World) (c:Int) (r:Int) (ts:List Tm) (ao:Option Addr) (cap:Nat) (b:Nat) (g0:Nat) (p:Nat) (M:List (Int×Int)) (M1:List (Int×Int)) (L:Nat->Bool) (s:Nat->Value) (w:World):Prop where
 mu:Mut [g0] V w
 kt_a:L 10=false->w.heap[g0]?=some (cobj 34 M1)
 kr_a:L 10->w.heap[g0]?=some (cobj 34 (nearHi M1 p))
 e0:L 0->s 30=.int .i64 ((p:Nat):Int)
 e1:L 1->s 31=.int .i64 ((p:Nat):Int)
 e2:L 2->s 32=.pointer (some ⟨g0,0,none⟩)
 e3:L 3->s 33=.pointer (some ⟨g0,p*2,none⟩)
 e4:L 4->s 34=.pointer (some ⟨g0,p*2+1,none⟩)
 e5:L 5->s 35=.int .i64 ((tAt M1 p).2)
 e6:L 6->s 36=.int .i64 (IntKind.i64.wrap ((tAt M1 p).2.tdiv 8))
 e7:L 7->s 37=.pointer (some ⟨g0,0,none⟩)
 e8:L 8->s 38=.pointer (some ⟨g0,p*2,none⟩)
 e9:L 9->s 39=.pointer (some ⟨g0,p*2+1,none⟩)
 b10_5:L 10->L 5
structure Dn8 (V:World) (c:Int) (r:Int) (ts:List Tm) (ao:Option Addr) (cap:Nat) (b:Nat) (g0:Nat) (L:Nat->Bool) (s:Nat->Value) (w:World):Prop where
 mu:Mut [b+1] V w
 kt_r:L 1=false->w.heap[b+1]?=some (cobj 34 zeroM)
 kr_r:L 1->w.heap[b+1]?=some (cobj 34 (dNear c ts r))
 e0:L 0->s 40=mval (dNear c ts r)
theorem dr_Near (c r:Int) (ts:List Tm) (ao:Option Addr) (cap:Nat) (hc:-32768<=c/\c<=32767) (hr:0<=r/\r<=65535) (w:World) (ht:TmSl w ao cap ts) :
  Calls Tryz.prog 14 #[.agg #[.int .i16 c,.slice ao ts.length cap,.int .u16 r]] w fun e w'=>e=.returned (mval (dNear c ts r))/\Below w.heap.size w w':=by
 have HC:=lh hc
 have HRR:=lh hr
 have HT:=lh ht
 clear hc hr ht
 go_enter Tryz.func14,Tryz.ntmps14
 refine wsk fun K0 HK0=>?_
 go_wp2_with fail
 obtain ⟨b,hb⟩:∃b,w.heap.size=b:=⟨_,rfl⟩
 refine HK0.out _ _ ?_
 refine wp_world (fun V=>Mut [] w V/\V.heap[b]?=some (.cells #[.int .i16 c,.slice ao ts.length cap,.int .u16 r] 26 (0,0))/\V.heap[b+1]?=some (cobj 34 zeroM)) ?_
  (by
   rw [←hb]
   exact ⟨(((Mut.refl _ _).alloc _).alloc _),heap_up _ (heap_at (.cells #[.int .i16 c,.slice ao ts.length cap,.int .u16 r] 26 (0,0)) (by simp)),heap_at (cobj 34 zeroM) (by simp)⟩)
 rintro V ⟨hm,hHD,hHR⟩
 rw [hb]
 have HM:=lh hm
 have HBW:=lh hb
 have HLT:=lh trivial
 have HD:=lh hHD
 have HR:=lh hHR
 clear hm hHD hHR hb HK0
 refine wsk fun K1 HK1=>?_
 refine wc (nn::nn::nn::some 3::nn::some 5::some 6::n8 (n8 (n8 (n8 (nn::nn::[]))))) (fun s w'=>Mut [] V w'/\(∃g:Nat,s 3=.pointer (some ⟨g,0,none⟩)/\V.heap.size<=g/\w'.heap[g]?=some (cobj 34 (dModel c ts r)))) ?_ ?_
 ·intro Q2 hQ2
  refine wG (Dn1 V c r ts ao cap b) ?_ ?_ ?_
  ·exact ⟨Mut.start _ false _,nB,nB,nB,nB⟩
  ·refine aC ?_ (aC ?_ (aC ?_ (aC ?_ aN)))
   ·intro L s w2 h hk hd hn K hK
    have s1:s 1=_:=hk 1
    have kq:=(h.mu.same _ (lt_of_block HD.out) (by simp)).trans HD.out
    have ka:w2.cell? ⟨b,0,none⟩=some (.int .i16 c):=by rw [cell_of_row w2 b 0 _ _ _ kq];rfl
    have kq:=(h.mu.same _ (lt_of_block HD.out) (by simp)).trans HD.out
    have kb:w2.cell? ⟨b,1,none⟩=some (.slice ao ts.length cap):=by rw [cell_of_row w2 b 1 _ _ _ kq];rfl
    have kq:=(h.mu.same _ (lt_of_block HD.out) (by simp)).trans HD.out
    have kc:w2.cell? ⟨b,2,none⟩=some (.int .u16 r):=by rw [cell_of_row w2 b 2 _ _ _ kq];rfl
    go_simp
    exact hK {h with e0:=rF}
   ·intro L s w2 h hk hd hn K hK
    have s5:=h.e0 hd.1
    go_simp
    refine (dr_Model c r ts ao cap HC.out HRR.out _ (HT.out.on (HM.out.trans h.mu).to0)).mono ?_
    rintro e w3 ⟨rfl,hb⟩
    exact .inl ⟨_,rfl,hK {h with mu:=h.mu.step hb,al_a:=fun a=>aS hb (h.al_a a),e1:=rF}⟩
   ·intro L s w2 h hk hd hn K hK
    go_simp
    exact hK {h with mu:=h.mu.alloc _,al_a:=fun _=>aW h.mu.size h.b3_2 hn,b3_2:=rF}
   ·intro L s w2 h hk hd hn K hK
    obtain ⟨g,hg0,hg1,hgl,hg2,hg3⟩:=h.al_a hd.1
    have kb:=hg2 hn
    exact rs_store rfl hg0 (h.e1 hd.2.1) (md_store kb rfl _ (dModel_len _ _ _)) (hK {h with mu:=h.mu.putNew hg1 _,al_a:=fun a=>⟨g,hg0,hg1,by simpa using hgl,fun a=>absurd a.symm bft,fun _=>World.putObj_heap_same (Array.getElem?_eq_some_iff.1 kb).1⟩,b3_2:=fun _=>hd.1})
  ·intro L s w2 h hk hl
   refine cA ?_ (hQ2 s w2 (⟨h.mu,aE (h.al_a (hl 2)) (hl 3)⟩))
   refine congrArg (fun l=>(⟨List.toArray l,[]⟩:Act)) ?_
   show [s 0,s 1,s 2,s 3,s 4,s 5,s 6,s 7,s 8,s 9,s 10,s 11,s 12,s 13,s 14,s 15,s 16,s 17,s 18,s 19,s 20,s 21,s 22,s 23,s 24,s 25,s 26,s 27,s 28,s 29,s 30,s 31,s 32,s 33,s 34,s 35,s 36,s 37,s 38,s 39,s 40]=_
   exact lc (hk 0 (by kernel_rfl)) (lc (hk 1 (by kernel_rfl)) (lc (hk 2 (by kernel_rfl)) (lc rfl (lc (hk 4 (by kernel_rfl)) (lc rfl (lc rfl (lc (hk 7 (by kernel_rfl)) (lc (hk 8 (by kernel_rfl)) (lc (hk 9 (by kernel_rfl)) (lc (hk 10 (by kernel_rfl)) (lc (hk 11 (by kernel_rfl)) (lc (hk 12 (by kernel_rfl)) (lc (hk 13 (by kernel_rfl)) (lc (hk 14 (by kernel_rfl)) (lc (hk 15 (by kernel_rfl)) (lc (hk 16 (by kernel_rfl)) (lc (hk 17 (by kernel_rfl)) (lc (hk 18 (by kernel_rfl)) (lc (hk 19 (by kernel_rfl)) (lc (hk 20 (by kernel_rfl)) (lc (hk 21 (by kernel_rfl)) (lc (hk 22 (by kernel_rfl)) (lc (hk 23 (by kernel_rfl)) (lc (hk 24 (by kernel_rfl)) (lc (hk 25 (by kernel_rfl)) (lc (hk 26 (by kernel_rfl)) (lc (hk 27 (by kernel_rfl)) (lc (hk 28 (by kernel_rfl)) (lc (hk 29 (by kernel_rfl)) (lc (hk 30 (by kernel_rfl)) (lc (hk 31 (by kernel_rfl)) (lc (hk 32 (by kernel_rfl)) (lc (hk 33 (by kernel_rfl)) (lc (hk 34 (by kernel_rfl)) (lc (hk 35 (by kernel_rfl)) (lc (hk 36 (by kernel_rfl)) (lc (hk 37 (by kernel_rfl)) (lc (hk 38 (by kernel_rfl)) (lc (hk 39 (by kernel_rfl)) (lc (hk 40 (by kernel_rfl)) rfl))))))))))))))))))))))))))))))))))))))))
 rintro s1 V ⟨h1,⟨g0,k_a,g_a,c_a⟩⟩
 simp only [mergeL]
 rw [k_a]
 replace HLT:=lh (show b<=g0/\b<g0/\b+1<g0 from by
  have hlt:=HLT.out
  have hbw:=HM.out.size
  have hbw2:=HBW.out
  have:=lt_of_block HD.out
  have:=lt_of_block HR.out
  omega)
 replace HD:=sm h1 HD
 replace HR:=sm h1 HR
 have HA:=lh c_a
 replace HM:=mE HM h1
 clear h1 k_a g_a c_a
 refine HK1.out _ _ ?_
 refine wsk fun K2 HK2=>?_
 refine wc (nn::nn::nn::nn::nn::nn::nn::some 7::some 8::some 9::some 10::some 11::some 12::some 13::some 14::some 15::n8 (n8 (n8 (nn::[])))) (fun _ w'=>Mut [g0] V w'/\w'.heap[g0]?=some (cobj 34 ((dModel c ts r).set 0 (4294967296+(c+32768)*65536,4294967296+(c+32768)*65536)))) ?_ ?_
 ·intro Q2 hQ2
  refine wG (Dn2 V c r ts ao cap b g0) ?_ ?_ ?_
  ·exact ⟨Mut.start _ false _,fun _=>HA.out,nB,nB,nB,nB,nB,nB,nB,nB,nB,nB⟩
  ·refine aC ?_ (aC ?_ (aC ?_ (aC ?_ (aC ?_ (aC ?_ (aC ?_ (aC ?_ (aC ?_ (aC ?_ aN)))))))))
   ·intro L s w2 h hk hd hn K hK
    have s1:s 1=_:=hk 1
    go_simp
    exact hK {h with e0:=rF}
   ·intro L s w2 h hk hd hn K hK
    have s7:=h.e0 hd.1
    have kq:=(h.mu.same _ (lt_of_block HD.out) (notin1 (by have:=HLT.out;omega))).trans HD.out
    have kc:w2.cell? ⟨b,0,none⟩=some (.int .i16 c):=by rw [cell_of_row w2 b 0 _ _ _ kq];rfl
    go_simp
    exact hK {h with e1:=rF}
   ·intro L s w2 h hk hd hn K hK
    have s8:=h.e1 hd.1
    have e1:=wr_i64 (x:=c) (by have:=HC.out;omega)
    go_simp
    exact hK {h with e2:=rF}
   ·intro L s w2 h hk hd hn K hK
    have s9:=h.e2 hd.1
    have e1:=wr_i64 (x:=c+32768) (by have:=HC.out;omega)
    go_simp
    exact hK {h with e3:=rF}
   ·intro L s w2 h hk hd hn K hK
    have s10:=h.e3 hd.1
    have e1:=wr_i64 (x:=(c+32768)*65536) (by have:=HC.out;omega)
    go_simp
    exact hK {h with e4:=rF}
   ·intro L s w2 h hk hd hn K hK
    have s11:=h.e4 hd.1
    have e1:=wr_i64 (x:=4294967296+(c+32768)*65536) (by have:=HC.out;omega)
    go_simp
    exact hK {h with e5:=rF}
   ·intro L s w2 h hk hd hn K hK
    have s12:=h.e5 hd.1
    go_simp
    refine (rf_point (4294967296+(c+32768)*65536) _).mono ?_
    rintro e w3 ⟨rfl,hb⟩
    exact .inl ⟨_,rfl,hK {h with mu:=h.mu.step hb,kt_a:=fun a=>(hb.block _ (lt_of_block (h.kt_a a))).trans (h.kt_a a),kr_a:=fun a=>(hb.block _ (lt_of_block (h.kr_a a))).trans (h.kr_a a),e6:=rF}⟩
   ·intro L s w2 h hk hd hn K hK
    exact rs_field rfl (hk 3) (fl_model0 _ _) (hK {h with e7:=rF})
   ·intro L s w2 h hk hd hn K hK
    exact rs_index rfl (h.e7 hd.1) rfl (ix_model _ 0 (by decide)) (hK {h with e8:=rF})
   ·intro L s w2 h hk hd hn K hK
    have kb:=h.kt_a hn
    exact rs_store rfl (h.e8 hd.1) (h.e6 hd.2.1) (sp_store (p:=0) kb (by rw [dModel_len];decide) _) (hK {h with mu:=h.mu.put (List.Mem.head _) _,kt_a:=fun a=>absurd a.symm bft,kr_a:=fun _=>World.putObj_heap_same (Array.getElem?_eq_some_iff.1 kb).1})
  ·intro L s w2 h hk hl
   refine cA ?_ (hQ2 s w2 (⟨h.mu,h.kr_a (hl 9)⟩))
   refine congrArg (fun l=>(⟨List.toArray l,[]⟩:Act)) ?_
   show [s 0,s 1,s 2,s 3,s 4,s 5,s 6,s 7,s 8,s 9,s 10,s 11,s 12,s 13,s 14,s 15,s 16,s 17,s 18,s 19,s 20,s 21,s 22,s 23,s 24,s 25,s 26,s 27,s 28,s 29,s 30,s 31,s 32,s 33,s 34,s 35,s 36,s 37,s 38,s 39,s 40]=_
   exact lc (hk 0 (by kernel_rfl)) (lc (hk 1 (by kernel_rfl)) (lc (hk 2 (by kernel_rfl)) (lc (hk 3 (by kernel_rfl)) (lc (hk 4 (by kernel_rfl)) (lc (hk 5 (by kernel_rfl)) (lc (hk 6 (by kernel_rfl)) (lc rfl (lc rfl (lc rfl (lc rfl (lc rfl (lc rfl (lc rfl (lc rfl (lc rfl (lc (hk 16 (by kernel_rfl)) (lc (hk 17 (by kernel_rfl)) (lc (hk 18 (by kernel_rfl)) (lc (hk 19 (by kernel_rfl)) (lc (hk 20 (by kernel_rfl)) (lc (hk 21 (by kernel_rfl)) (lc (hk 22 (by kernel_rfl)) (lc (hk 23 (by kernel_rfl)) (lc (hk 24 (by kernel_rfl)) (lc (hk 25 (by kernel_rfl)) (lc (hk 26 (by kernel_rfl)) (lc (hk 27 (by kernel_rfl)) (lc (hk 28 (by kernel_rfl)) (lc (hk 29 (by kernel_rfl)) (lc (hk 30 (by kernel_rfl)) (lc (hk 31 (by kernel_rfl)) (lc (hk 32 (by kernel_rfl)) (lc (hk 33 (by kernel_rfl)) (lc (hk 34 (by kernel_rfl)) (lc (hk 35 (by kernel_rfl)) (lc (hk 36 (by kernel_rfl)) (lc (hk 37 (by kernel_rfl)) (lc (hk 38 (by kernel_rfl)) (lc (hk 39 (by kernel_rfl)) (lc (hk 40 (by kernel_rfl)) rfl))))))))))))))))))))))))))))))))))))))))
 rintro s2 V ⟨h1,c_a⟩
 simp only [mergeL]
 replace HD:=j1 h1 HD (by have:=HLT.out;omega)
 replace HR:=j1 h1 HR (by have:=HLT.out;omega)
 replace HA:=lh c_a
 replace HM:=mB HM h1 (by have:=HBW.out;have:=HLT.out;simp;omega)
 clear h1 c_a
 refine HK2.out _ _ ?_
 have HML0:=lh (show ((dModel c ts r).set 0 (4294967296+(c+32768)*65536,4294967296+(c+32768)*65536)).length=22 by rw [List.length_set,dModel_len])
 have HTG:=lh (show nearFrom 20 1 ((dModel c ts r).set 0 (4294967296+(c+32768)*65536,4294967296+(c+32768)*65536))=dNear c ts r from rfl)
 obtain ⟨M0,hM0⟩:∃M0,((dModel c ts r).set 0 (4294967296+(c+32768)*65536,4294967296+(c+32768)*65536))=M0:=⟨_,rfl⟩
 rw [hM0] at HML0 HTG HA
 clear hM0
 refine wsk fun KL HKL=>?_
 refine wp_cut_mergeP (nn::nn::nn::nn::some 4::n8 (nn::nn::nn::some 16::some 17::some 18::some 19::some 20::some 21::some 22::some 23::some 24::some 25::some 26::some 27::some 28::some 29::some 30::some 31::some 32::some 33::some 34::some 35::some 36::some 37::some 38::some 39::nn::[])) (fun _ w'=>Mut [g0] V w'/\w'.heap[g0]?=some (cobj 34 (dNear c ts r))) (fun _ _=>False) ?_ ?_ ?_
 ·intro Q2 hQ2 hP2
  go_wp2_with fail
  go_loopw [4] (fun x wr=>∃p:Nat,1<=p/\p<=21/\x=.int .i64 p/\Hid (∃M:List (Int×Int),M.length=22/\Mut [g0] V wr/\wr.heap[g0]?=some (cobj 34 M)/\nearFrom (21-p) p M=dNear c ts r)) (fun x _=>21-(intOf x).toNat)
  case atStart=>exact ⟨1,by omega,by omega,rfl,lh ⟨M0,HML0.out,Mut.refl _ _,HA.out,HTG.out⟩⟩
  case round =>
   obtain ⟨p,hp1,hp,rfl,HG⟩:=hrel
   obtain ⟨M,hml,hmu,hbx,hgo⟩:=HG.out
   have HML:=lh hml
   have HGM:=lh hmu
   have HGO:=lh hgo
   have HM0:=HM
   have HLT0:=HLT
   rcases Nat.lt_or_ge p 21 with hk | hk
   ·have t1:decide ((p:Int)<21)=true:=by simp;omega
    have HPL:=lh hk
    have HP1:=lh hp1
    have hp0:(0:Int)<=(p:Int):=by omega
    have hp9:(p:Int)<21:=by omega
    have hm2:=HM0.out.stepM hmu (by have:=HBW.out;have:=HLT0.out;intro x hx;simp at hx;right;omega)
    refine wp_world (fun U=>Mut [] w U/\Mut [g0] V U/\U.heap[g0]?=some (cobj 34 M)) ?_ ⟨hm2,hmu,hbx⟩
    clear hm2 hp1 hp HG hml hmu hbx hgo hk HM0 HTG HML0 HD HR HM HA HGM
    rintro V ⟨q1,q2,q3⟩
    have HM:=lh q1
    have HGM:=lh q2
    have HA:=lh q3
    clear q1 q2 q3
    refine wsk fun K1 HK1=>?_
    go_wp2_with fail
    refine HK1.out _ _ ?_
    refine wsk fun K2 HK2=>?_
    refine wp_block ?_
    refine wsk fun K6 HK6=>?_
    refine wc (n8 (n8 (nn::nn::nn::nn::some 20::some 21::some 22::some 23::some 24::some 25::some 26::some 27::some 28::some 29::n8 (nn::nn::nn::[])))) (fun _ w'=>Mut [g0] V w'/\w'.heap[g0]?=some (cobj 34 (nearLo M p))) ?_ ?_
    ·intro Q2 hQ2
     refine wG (Dn6 V c r ts ao cap b g0 p M) ?_ ?_ ?_
     ·exact ⟨Mut.start _ false _,fun _=>HA.out,nB,nB,nB,nB,nB,nB,nB,nB,nB,nB,nB,nB⟩
     ·refine aC ?_ (aC ?_ (aC ?_ (aC ?_ (aC ?_ (aC ?_ (aC ?_ (aC ?_ (aC ?_ (aC ?_ (aC ?_ aN))))))))))
      ·intro L s w2 h hk hd hn K hK
       exact rs_move rfl (hk 4) (hK {h with e0:=rF})
      ·intro L s w2 h hk hd hn K hK
       exact rs_move rfl (hk 4) (hK {h with e1:=rF})
      ·intro L s w2 h hk hd hn K hK
       exact rs_field rfl (hk 3) (fl_model0 _ _) (hK {h with e2:=rF})
      ·intro L s w2 h hk hd hn K hK
       exact rs_index rfl (h.e2 hd.1) (h.e1 hd.2.1) (ix_model _ p HPL.out) (hK {h with e3:=rF})
      ·intro L s w2 h hk hd hn K hK
       exact rs_field rfl (h.e3 hd.1) (fl_span0 _ p _) (hK {h with e4:=rF})
      ·intro L s w2 h hk hd hn K hK
       have kb:=(h.kt_a ((Bool.eq_false_or_eq_true (L 10)).elim (fun e=>aB (h.b10_5 e) hn) id))
       exact rs_load rfl (h.e4 hd.1) (ld_span0 (p:=p) kb (by have:=HML.out;have:=HPL.out;omega)) (hK {h with e5:=rF,b10_5:=rF})
      ·intro L s w2 h hk hd hn K hK
       have s25:=h.e5 hd.1
       go_simp
       exact hK {h with e6:=rF}
      ·intro L s w2 h hk hd hn K hK
       exact rs_field rfl (hk 3) (fl_model0 _ _) (hK {h with e7:=rF})
      ·intro L s w2 h hk hd hn K hK
       exact rs_index rfl (h.e7 hd.1) (h.e0 hd.2.1) (ix_model _ p HPL.out) (hK {h with e8:=rF})
      ·intro L s w2 h hk hd hn K hK
       exact rs_field rfl (h.e8 hd.1) (fl_span0 _ p _) (hK {h with e9:=rF})
      ·intro L s w2 h hk hd hn K hK
       have kb:=h.kt_a hn
       exact rs_store rfl (h.e9 hd.1) (h.e6 hd.2.1) (st_span0 (p:=p) kb (by have:=HML.out;have:=HPL.out;omega) (IntKind.i64.wrap ((tAt M p).1.tdiv 8))) (hK {h with mu:=h.mu.put (List.Mem.head _) _,kt_a:=fun a=>absurd a.symm bft,kr_a:=fun _=>World.putObj_heap_same (Array.getElem?_eq_some_iff.1 kb).1,b10_5:=fun _=>hd.2.2.2.2.2.2.2.1})
     ·intro L s w2 h hk hl
      refine cA ?_ (hQ2 s w2 (⟨h.mu,h.kr_a (hl 10)⟩))
      refine congrArg (fun l=>(⟨List.toArray l,[]⟩:Act)) ?_
      show [s 0,s 1,s 2,s 3,s 4,s 5,s 6,s 7,s 8,s 9,s 10,s 11,s 12,s 13,s 14,s 15,s 16,s 17,s 18,s 19,s 20,s 21,s 22,s 23,s 24,s 25,s 26,s 27,s 28,s 29,s 30,s 31,s 32,s 33,s 34,s 35,s 36,s 37,s 38,s 39,s 40]=_
      exact lc (hk 0 (by kernel_rfl)) (lc (hk 1 (by kernel_rfl)) (lc (hk 2 (by kernel_rfl)) (lc (hk 3 (by kernel_rfl)) (lc (hk 4 (by kernel_rfl)) (lc (hk 5 (by kernel_rfl)) (lc (hk 6 (by kernel_rfl)) (lc (hk 7 (by kernel_rfl)) (lc (hk 8 (by kernel_rfl)) (lc (hk 9 (by kernel_rfl)) (lc (hk 10 (by kernel_rfl)) (lc (hk 11 (by kernel_rfl)) (lc (hk 12 (by kernel_rfl)) (lc (hk 13 (by kernel_rfl)) (lc (hk 14 (by kernel_rfl)) (lc (hk 15 (by kernel_rfl)) (lc (hk 16 (by kernel_rfl)) (lc (hk 17 (by kernel_rfl)) (lc (hk 18 (by kernel_rfl)) (lc (hk 19 (by kernel_rfl)) (lc rfl (lc rfl (lc rfl (lc rfl (lc rfl (lc rfl (lc rfl (lc rfl (lc rfl (lc rfl (lc (hk 30 (by kernel_rfl)) (lc (hk 31 (by kernel_rfl)) (lc (hk 32 (by kernel_rfl)) (lc (hk 33 (by kernel_rfl)) (lc (hk 34 (by kernel_rfl)) (lc (hk 35 (by kernel_rfl)) (lc (hk 36 (by kernel_rfl)) (lc (hk 37 (by kernel_rfl)) (lc (hk 38 (by kernel_rfl)) (lc (hk 39 (by kernel_rfl)) (lc (hk 40 (by kernel_rfl)) rfl))))))))))))))))))))))))))))))))))))))))
    rintro s6 V ⟨h1,c_a⟩
    simp only [mergeL]
    replace HA:=lh c_a
    replace HM:=mB HM h1 (by have:=HBW.out;have:=HLT.out;simp;omega)
    have HF6:=lh (HGM.out.trans h1)
    clear h1 c_a
    refine HK6.out _ _ ?_
    replace HML:=lh (show (nearLo M p).length=22 by unfold nearLo;rw [List.length_set];exact HML.out)
    obtain ⟨M1,hM1⟩:∃M1,nearLo M p=M1:=⟨_,rfl⟩
    rw [hM1] at HA HML
    have HM1:=lh hM1
    clear hM1
    refine wc (n8 (n8 (n8 (nn::nn::nn::nn::nn::nn::some 30::some 31::some 32::some 33::some 34::some 35::some 36::some 37::some 38::some 39::nn::[])))) (fun _ w'=>Mut [g0] V w'/\w'.heap[g0]?=some (cobj 34 (nearHi M1 p))) ?_ ?_
    ·intro Q2 hQ2
     refine wG (Dn7 V c r ts ao cap b g0 p M M1) ?_ ?_ ?_
     ·exact ⟨Mut.start _ false _,fun _=>HA.out,nB,nB,nB,nB,nB,nB,nB,nB,nB,nB,nB,nB⟩
     ·refine aC ?_ (aC ?_ (aC ?_ (aC ?_ (aC ?_ (aC ?_ (aC ?_ (aC ?_ (aC ?_ (aC ?_ (aC ?_ aN))))))))))
      ·intro L s w2 h hk hd hn K hK
       exact rs_move rfl (hk 4) (hK {h with e0:=rF})
      ·intro L s w2 h hk hd hn K hK
       exact rs_move rfl (hk 4) (hK {h with e1:=rF})
      ·intro L s w2 h hk hd hn K hK
       exact rs_field rfl (hk 3) (fl_model0 _ _) (hK {h with e2:=rF})
      ·intro L s w2 h hk hd hn K hK
       exact rs_index rfl (h.e2 hd.1) (h.e1 hd.2.1) (ix_model _ p HPL.out) (hK {h with e3:=rF})
      ·intro L s w2 h hk hd hn K hK
       exact rs_field rfl (h.e3 hd.1) (fl_span1 _ p _) (hK {h with e4:=rF})
      ·intro L s w2 h hk hd hn K hK
       have kb:=(h.kt_a ((Bool.eq_false_or_eq_true (L 10)).elim (fun e=>aB (h.b10_5 e) hn) id))
       exact rs_load rfl (h.e4 hd.1) (ld_span1 (p:=p) kb (by have:=HML.out;have:=HPL.out;omega)) (hK {h with e5:=rF,b10_5:=rF})
      ·intro L s w2 h hk hd hn K hK
       have s35:=h.e5 hd.1
       go_simp
       exact hK {h with e6:=rF}
      ·intro L s w2 h hk hd hn K hK
       exact rs_field rfl (hk 3) (fl_model0 _ _) (hK {h with e7:=rF})
      ·intro L s w2 h hk hd hn K hK
       exact rs_index rfl (h.e7 hd.1) (h.e0 hd.2.1) (ix_model _ p HPL.out) (hK {h with e8:=rF})
      ·intro L s w2 h hk hd hn K hK
       exact rs_field rfl (h.e8 hd.1) (fl_span1 _ p _) (hK {h with e9:=rF})
      ·intro L s w2 h hk hd hn K hK
       have kb:=h.kt_a hn
       exact rs_store rfl (h.e9 hd.1) (h.e6 hd.2.1) (st_span1 (p:=p) kb (by have:=HML.out;have:=HPL.out;omega) (IntKind.i64.wrap ((tAt M1 p).2.tdiv 8))) (hK {h with mu:=h.mu.put (List.Mem.head _) _,kt_a:=fun a=>absurd a.symm bft,kr_a:=fun _=>World.putObj_heap_same (Array.getElem?_eq_some_iff.1 kb).1,b10_5:=fun _=>hd.2.2.2.2.2.2.2.1})
     ·intro L s w2 h hk hl
      refine cA ?_ (hQ2 s w2 (⟨h.mu,h.kr_a (hl 10)⟩))
      refine congrArg (fun l=>(⟨List.toArray l,[]⟩:Act)) ?_
      show [s 0,s 1,s 2,s 3,s 4,s 5,s 6,s 7,s 8,s 9,s 10,s 11,s 12,s 13,s 14,s 15,s 16,s 17,s 18,s 19,s 20,s 21,s 22,s 23,s 24,s 25,s 26,s 27,s 28,s 29,s 30,s 31,s 32,s 33,s 34,s 35,s 36,s 37,s 38,s 39,s 40]=_
      exact lc (hk 0 (by kernel_rfl)) (lc (hk 1 (by kernel_rfl)) (lc (hk 2 (by kernel_rfl)) (lc (hk 3 (by kernel_rfl)) (lc (hk 4 (by kernel_rfl)) (lc (hk 5 (by kernel_rfl)) (lc (hk 6 (by kernel_rfl)) (lc (hk 7 (by kernel_rfl)) (lc (hk 8 (by kernel_rfl)) (lc (hk 9 (by kernel_rfl)) (lc (hk 10 (by kernel_rfl)) (lc (hk 11 (by kernel_rfl)) (lc (hk 12 (by kernel_rfl)) (lc (hk 13 (by kernel_rfl)) (lc (hk 14 (by kernel_rfl)) (lc (hk 15 (by kernel_rfl)) (lc (hk 16 (by kernel_rfl)) (lc (hk 17 (by kernel_rfl)) (lc (hk 18 (by kernel_rfl)) (lc (hk 19 (by kernel_rfl)) (lc (hk 20 (by kernel_rfl)) (lc (hk 21 (by kernel_rfl)) (lc (hk 22 (by kernel_rfl)) (lc (hk 23 (by kernel_rfl)) (lc (hk 24 (by kernel_rfl)) (lc (hk 25 (by kernel_rfl)) (lc (hk 26 (by kernel_rfl)) (lc (hk 27 (by kernel_rfl)) (lc (hk 28 (by kernel_rfl)) (lc (hk 29 (by kernel_rfl)) (lc rfl (lc rfl (lc rfl (lc rfl (lc rfl (lc rfl (lc rfl (lc rfl (lc rfl (lc rfl (lc (hk 40 (by kernel_rfl)) rfl))))))))))))))))))))))))))))))))))))))))
    rintro s7 V ⟨h1,c_a⟩
    simp only [mergeL]
    replace HA:=lh c_a
    replace HM:=mB HM h1 (by have:=HBW.out;have:=HLT.out;simp;omega)
    have HF7:=lh (HF6.out.trans h1)
    clear h1 c_a
    refine HK2.out _ _ ?_
    have HF2:=lh (show nearFrom (21-(p+1)) (p+1) (nearHi M1 p)=dNear c ts r by
     rw [←HGO.out,show 21-p=(21-(p+1))+1 by have:=HPL.out;omega,nearFrom,HM1.out])
    have HF3:=lh (show (nearHi M1 p).length=22 by unfold nearHi;rw [List.length_set];exact HML.out)
    go_wp2_with fail
    go_roundw
    case rel=>first | exact ⟨p+1,by have:=HPL.out;omega,by have:=HPL.out;omega,by go_num,lh ⟨_,HF3.out,HF7.out,HA.out,HF2.out⟩⟩ | ((repeat apply Exists.intro);exact ⟨⟨p+1,by have:=HPL.out;omega,by have:=HPL.out;omega,by go_num,lh ⟨_,HF3.out,HF7.out,HA.out,HF2.out⟩⟩,rfl⟩)
    case measure=>simp [intOf];have:=HPL.out;omega
   ·obtain rfl:p=21:=by omega
    have HE:nearFrom (21-21) 21 M=M:=rfl
    rw [HE] at hgo
    rw [hgo] at hbx
    go_wp2_with fail
    exact merge_meet hQ2 (by kernel_rfl) ⟨hmu,hbx⟩
 rotate_left
 ·rintro _ _ _ h
  exact h.elim
 rintro sL V ⟨h1,h2⟩
 simp only [mergeL]
 replace HM:=mB HM h1 (by have:=HBW.out;have:=HLT.out;simp;omega)
 replace HD:=j1 h1 HD (by have:=HLT.out;omega)
 replace HR:=j1 h1 HR (by have:=HLT.out;omega)
 replace HA:=lh h2
 clear h1 h2
 refine HKL.out _ _ ?_
 refine wsk fun K8 HK8=>?_
 refine wc (n8 (n8 (n8 (n8 (n8 (some 40::[])))))) (fun _ w'=>Mut [b+1] V w'/\w'.heap[b+1]?=some (cobj 34 (dNear c ts r))) ?_ ?_
 ·intro Q2 hQ2
  refine wG (Dn8 V c r ts ao cap b g0) ?_ ?_ ?_
  ·exact ⟨Mut.start _ false _,fun _=>HR.out,nB,nB⟩
  ·refine aC ?_ (aC ?_ aN)
   ·intro L s w2 h hk hd hn K hK
    have kb:=kY h.mu HA (by have:=HLT.out;omega)
    exact rs_load rfl (hk 3) (md_load kb (dNear_len _ _ _)) (hK {h with e0:=rF})
   ·intro L s w2 h hk hd hn K hK
    have kb:=h.kt_r hn
    exact rs_store rfl (hk 2) (h.e0 hd.1) (md_store kb rfl _ (dNear_len _ _ _)) (hK {h with mu:=h.mu.put (List.Mem.head _) _,kt_r:=fun a=>absurd a.symm bft,kr_r:=fun _=>World.putObj_heap_same (Array.getElem?_eq_some_iff.1 kb).1})
  ·intro L s w2 h hk hl
   refine cA ?_ (hQ2 s w2 (⟨h.mu,h.kr_r (hl 1)⟩))
   refine congrArg (fun l=>(⟨List.toArray l,[]⟩:Act)) ?_
   show [s 0,s 1,s 2,s 3,s 4,s 5,s 6,s 7,s 8,s 9,s 10,s 11,s 12,s 13,s 14,s 15,s 16,s 17,s 18,s 19,s 20,s 21,s 22,s 23,s 24,s 25,s 26,s 27,s 28,s 29,s 30,s 31,s 32,s 33,s 34,s 35,s 36,s 37,s 38,s 39,s 40]=_
   exact lc (hk 0 (by kernel_rfl)) (lc (hk 1 (by kernel_rfl)) (lc (hk 2 (by kernel_rfl)) (lc (hk 3 (by kernel_rfl)) (lc (hk 4 (by kernel_rfl)) (lc (hk 5 (by kernel_rfl)) (lc (hk 6 (by kernel_rfl)) (lc (hk 7 (by kernel_rfl)) (lc (hk 8 (by kernel_rfl)) (lc (hk 9 (by kernel_rfl)) (lc (hk 10 (by kernel_rfl)) (lc (hk 11 (by kernel_rfl)) (lc (hk 12 (by kernel_rfl)) (lc (hk 13 (by kernel_rfl)) (lc (hk 14 (by kernel_rfl)) (lc (hk 15 (by kernel_rfl)) (lc (hk 16 (by kernel_rfl)) (lc (hk 17 (by kernel_rfl)) (lc (hk 18 (by kernel_rfl)) (lc (hk 19 (by kernel_rfl)) (lc (hk 20 (by kernel_rfl)) (lc (hk 21 (by kernel_rfl)) (lc (hk 22 (by kernel_rfl)) (lc (hk 23 (by kernel_rfl)) (lc (hk 24 (by kernel_rfl)) (lc (hk 25 (by kernel_rfl)) (lc (hk 26 (by kernel_rfl)) (lc (hk 27 (by kernel_rfl)) (lc (hk 28 (by kernel_rfl)) (lc (hk 29 (by kernel_rfl)) (lc (hk 30 (by kernel_rfl)) (lc (hk 31 (by kernel_rfl)) (lc (hk 32 (by kernel_rfl)) (lc (hk 33 (by kernel_rfl)) (lc (hk 34 (by kernel_rfl)) (lc (hk 35 (by kernel_rfl)) (lc (hk 36 (by kernel_rfl)) (lc (hk 37 (by kernel_rfl)) (lc (hk 38 (by kernel_rfl)) (lc (hk 39 (by kernel_rfl)) (lc rfl rfl))))))))))))))))))))))))))))))))))))))))
 rintro s8 V ⟨h1,c_r⟩
 simp only [mergeL]
 replace HD:=j1 h1 HD (by have:=HLT.out;omega)
 replace HR:=lh c_r
 replace HA:=j1 h1 HA (by have:=HLT.out;omega)
 replace HM:=mB HM h1 (by have:=HBW.out;have:=HLT.out;simp;omega)
 clear h1 c_r
 refine HK8.out _ _ ?_
 refine wp_ret ?_
 exact bodyPost_ret (v:=mval (dNear c ts r)) (res_model Tryz.results14 rfl (md_loadVar HR.out (dNear_len _ _ _))) rfl ⟨rfl,by rw [←HBW.out];exact HM.out.to0⟩
end Go.Proofs.YthhkcfpljgdnhaaGreat
