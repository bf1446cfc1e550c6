/- Contracts of package span: clone of digits, times, and a digit at a place. -/
import Derived.Laws.Externs
import Derived.Laws.OwnMore
import Derived.RangeFuncBox
import Derived.Test.YthhkcfpljgdnhaaGreatSpanX
import Derived.Test.YthhkcfpljgdnhaaGreatPl
import Derived.BigQuiet
import Derived.Deep.QuietTactic
set_option maxRecDepth 100000
namespace Go.Proofs.YthhkcfpljgdnhaaGreat
open Go.RowKit Mnc

theorem u64Info:(Tryz.prog.info? 112).map (fun i=>(i.zero,i.size,i.bytes))=some (some (.int .u64 0),1,8):=by kernel_rfl
theorem u64_parts:∃i0,Tryz.prog.info? 112=some i0/\i0.zero=some (.int .u64 0)/\i0.size=1/\i0.bytes=8:=by
 have h:=u64Info
 rw [Option.map_eq_some_iff] at h
 obtain ⟨i,h1,h2⟩:=h
 simp only [Prod.mk.injEq] at h2
 exact ⟨i,h1,h2.1,h2.2.1,h2.2.2⟩
theorem addr_plain (g off j:Nat):(⟨g,off,none⟩:Addr).add j=⟨g,off+j,none⟩:=by
 unfold Addr.add
 split<;>simp_all
def encU (x:Nat):Value:=.int .u64 (x:Int)

/-- The digits that a slice shows. -/
structure DgAt (W:World) (b cap:Nat) (l:List Nat):Prop where
 le:l.length<=cap
 cmax:cap<=maxLen
 lt:b<W.heap.size
 ok:dok l
 cells:∀i (x:Nat),l[i]?=some x->W.cell? ⟨b,i,none⟩=some (.int .u64 (x:Int))
theorem DgAt.on {W W':World} {b cap:Nat} {l:List Nat} (h:DgAt W b cap l) (k:Below W.heap.size W W'):DgAt W' b cap l :=
 ⟨h.le,h.cmax,Nat.lt_of_lt_of_le h.lt k.size,h.ok,fun i x hx=>(k.cell (p:=⟨b,i,none⟩) h.lt).trans (h.cells i x hx)⟩

/-- A row of digits of the call's own. -/
structure DgB (n₀:Nat) (W:World) (g cap:Nat) (L:List Nat):Prop where
 own:W.ownsRow n₀ 112 1 (.slice (some ⟨g,0,none⟩) L.length cap) L.length (L.map encU)
theorem DgB.lt {n₀:Nat} {W:World} {g cap:Nat} {L:List Nat} (h:DgB n₀ W g cap L):n₀<=g/\g<W.heap.size:=h.own.lt g rfl
theorem DgB.caps {n₀:Nat} {W:World} {g cap:Nat} {L:List Nat} (h:DgB n₀ W g cap L):L.length<=cap/\cap<=maxLen:=by
 rcases h.own.2 with ⟨h',_⟩ | ⟨g',cap',cur,h',_,_,h1,h2,_⟩
 ·simp at h'
 ·simp only [Value.slice.injEq,Option.some.injEq,Addr.mk.injEq,and_true,true_and] at h'
  obtain ⟨rfl,rfl⟩:=h'
  exact ⟨h1,h2⟩
theorem DgB.on {n₀:Nat} {W W':World} {g cap:Nat} {L:List Nat} (h:DgB n₀ W g cap L) (k:Below W.heap.size W W'):DgB n₀ W' g cap L where
 own:=by
  have hlt:=h.lt.2
  refine ⟨h.own.1,?_⟩
  rcases h.own.2 with ⟨h',_⟩ | ⟨g',cap',cur,h',hb,hg,hr⟩
  ·simp at h'
  ·have e:=h'
   simp only [Value.slice.injEq,Option.some.injEq,Addr.mk.injEq,and_true,true_and] at e
   obtain ⟨rfl,rfl⟩:=e
   exact .inr ⟨g,cap,cur,rfl,hb,(k.block _ hlt).trans hg,hr⟩
theorem DgB.at {n₀:Nat} {W:World} {g cap i x:Nat} {L:List Nat} (h:DgB n₀ W g cap L) (hx:L[i]?=some x):W.cell? ⟨g,i,none⟩=some (.int .u64 (x:Int)):=by
 have hi:=(List.getElem?_eq_some_iff.1 hx).1
 rw [h.own.cellAt i (by omega),List.getElem?_map,hx]
 rfl
theorem DgB.dg {n₀:Nat} {W:World} {g cap:Nat} {L:List Nat} (h:DgB n₀ W g cap L) (ho:dok L):DgAt W g cap L :=
 ⟨h.caps.1,h.caps.2,h.lt.2,ho,fun _ _ hx=>h.at hx⟩
theorem DgB.free {n₀:Nat} {W:World} {g cap:Nat} {L:List Nat} (h:DgB n₀ W g cap L) (i:Nat):W.frozen? ⟨g,i,none⟩=false:=by
 rcases h.own.2 with ⟨h',_⟩ | ⟨g',cap',cur,h',_,hg,_⟩
 ·simp at h'
 ·simp only [Value.slice.injEq,Option.some.injEq,Addr.mk.injEq,and_true,true_and] at h'
  obtain ⟨rfl,rfl⟩:=h'
  simp [World.frozen?,hg]
theorem DgB.set {n₀:Nat} {W:World} {g cap i x:Nat} {L:List Nat} (h:DgB n₀ W g cap L) (_:i<L.length):DgB n₀ (W.setCell ⟨g,i,none⟩ (.int .u64 (x:Int))) g cap (L.set i x) where
 own:=by
  rw [List.length_set]
  refine ⟨by simp,?_⟩
  rcases h.own.2 with ⟨h',_⟩ | ⟨g',cap',cur,h',hb,hg,h1,h2,h3,h4⟩
  ·simp at h'
  ·have e:=h'
   simp only [Value.slice.injEq,Option.some.injEq,Addr.mk.injEq,and_true,true_and] at e
   obtain ⟨rfl,rfl⟩:=e
   refine .inr ⟨g,cap,_,rfl,hb,heap_setCell_same _ _ _ _ _ _ hg,h1,h2,by simpa using h3,?_⟩
   rw [List.map_set,←h4]
   simp [List.take_set,encU]

theorem clone_digits (l:List Nat) (b cap:Nat) (w:World) (h:DgAt w b cap l) (hl:l.length<=1000) :
  Calls Tryz.prog 107 #[.slice (some ⟨b,0,none⟩) l.length cap] w fun e w'=>∃g c,e=.returned (.slice (some ⟨g,0,none⟩) l.length c)/\DgB w.heap.size w' g c l/\Below w.heap.size w w':=by
 obtain ⟨i0,hi,hz0,hz1,hz2⟩:=u64_parts
 have q22:∀(w:World) (a:Option Addr) (n c n' c':Nat),(binOp .eql 114 (.slice a n c) (.slice none n' c')).run Tryz.prog w=.ok (.bool a.isNone) w:=fun w a n c n' c'=>Lib.run_eql_slice_nil w _ _ a n c n' c' Tryz.underlying114
 have hcells:=Lib.hid (h.on (below_alloc (Below.refl w.heap.size w) (.cells #[] 112)))
 have HL:=Lib.hid hl
 clear h
 obtain ⟨n,hn⟩:∃n,n=l.length:=⟨_,rfl⟩
 have HN:=Lib.hid hn
 rw [←hn] at HL hl ⊢
 clear hn
 go_enter Tryz.func107,Tryz.ntmps107
 go_wp2_with (at_builtin;refine wpList_append_own _ rfl _ _ 114 rfl w.heap.size 112 i0 (.int .u64 0) 1 8 Tryz.underlying114 hi hz0 hz1 hz2 rfl (by decide) _ _ _ rfl (World.ownsRow_made w #[] 0 (Nat.le_refl _) (Nat.zero_le _) rfl) ⟨b,0,none⟩ n cap (l.map encU) rfl ?qc1 ?qc2 ?qc3 ?qc4 ?qc5 ?qc6 ?_)
 case qc1=>simp [HN.out]
 case qc2 =>
  intro j u hu
  rw [List.getElem?_map,Option.map_eq_some_iff] at hu
  obtain ⟨x,hx,rfl⟩:=hu
  rw [addr_plain,Nat.zero_add]
  exact hcells.out.cells j x hx
 case qc3 =>
  intro u hu
  obtain ⟨x,_,rfl⟩:=List.mem_map.1 hu
  rfl
 case qc4=>unfold maxLen;omega
 case qc5=>omega
 case qc6=>simp
 intro v' w1 hown hgrow hnil
 go_wp2
 go_ret
 obtain ⟨g,c,rfl⟩:∃g c,v'=.slice (some ⟨g,0,none⟩) n c:=by
  rcases hown.2 with ⟨h',_⟩ | ⟨g',cap',cur,h',_⟩
  ·exact absurd h' hnil
  ·exact ⟨g',cap',h'⟩
 refine ⟨g,c,rfl,⟨?_⟩,?_⟩
 ·rw [←HN.out]
  simpa using hown
 ·exact ((Below.refl _ w).alloc (Nat.le_refl _) _).grown hgrow (by simp) (by intro k hk;simp [Value.ownBlock] at hk;omega)

theorem bits_Add64 (x y:Nat) (w:World):(callFunc 109 #[.int .u64 (x:Int),.int .u64 (y:Int),.int .u64 0]).run Tryz.prog w=.ok (.value (.tuple #[.int .u64 (((x+y) % 18446744073709551616:Nat):Int),.int .u64 (((x+y) / 18446744073709551616:Nat):Int)])) w:=by
 rw [run_callFunc_extern Tryz.func109 (by kernel_rfl) (by kernel_rfl) (by kernel_rfl) (e:=add64Entry) (by kernel_rfl),run_add64 x y 0 (by omega) (by omega) (by omega) (by omega)]
 simp only [Result.andThen]
 congr 5<;>omega

theorem set_midN {acc t:List Nat} {x y:Nat} {k:Nat} (h:acc.length=k):(acc++x::t).set k y=(acc++[y])++t:=by
 subst h
 simp
theorem drop_atN {l:List Nat} {k:Nat} {x:Nat} (h:l[k]?=some x):l.drop k=x::l.drop (k+1):=by
 obtain ⟨hk,rfl⟩:=List.getElem?_eq_some_iff.1 h
 exact List.drop_eq_getElem_cons hk
theorem tm_parts {x n c:Nat}:(x*n % 18446744073709551616+c) % 18446744073709551616=(x*n+c) % 18446744073709551616/\x*n / 18446744073709551616+(x*n % 18446744073709551616+c) / 18446744073709551616=(x*n+c) / 18446744073709551616:=by
 generalize x*n=y
 omega

set_option maxHeartbeats 2000000 in
theorem dig_times (l:List Nat) (m:Nat) (b cap:Nat) (w:World) (h:DgAt w b cap l) (hl:l.length<=100) (hm:m<18446744073709551616) :
  Calls Tryz.prog 94 #[.slice (some ⟨b,0,none⟩) l.length cap,.int .u64 (m:Int)] w fun e w'=>∃g c L,e=.returned (.slice (some ⟨g,0,none⟩) (l.length+1) c)/\L.length=l.length+1/\dok L/\dval L=dval l*m/\DgB w.heap.size w' g c L/\Below w.heap.size w w':=by
 obtain ⟨i0,hi,hz0,hz1,hz2⟩:=u64_parts
 have hok:=h.ok
 have HOK:=Lib.hid hok
 have HCl:=Lib.hid (clone_digits l b cap w h (by omega))
 clear h hok
 have HM:=Lib.hid hm
 obtain ⟨n,hn⟩:∃n,n=l.length:=⟨_,rfl⟩
 have HN:=Lib.hid hn
 rw [←hn] at HCl hl ⊢
 clear hn
 go_enter Tryz.func94,Tryz.ntmps94
 go_wp2_with fail
 refine HCl.out.mono ?_
 rintro e w2 ⟨g,capd,rfl,hown,hbel⟩
 have HD:Hid (DgB w.heap.size w2 g capd l/\Below w.heap.size w w2):=Lib.hid ⟨hown,hbel⟩
 clear hown hbel
 go_wp2_with fail
 go_simp
 go_loopw [6,17] (fun cv i wr=>∃k c:Nat,k<=n/\i=.int .i64 k/\cv=.int .u64 c/\∃acc:List Nat,Hid (TmAt l m acc c k/\DgB w.heap.size wr g capd (acc++l.drop k)/\Below w.heap.size w wr)) (fun _ i _=>n-(intOf i).toNat)
 case atStart=>exact ⟨0,0,by omega,rfl,rfl,[],Lib.hid ⟨tmAt_start _ _,HD.out.1,HD.out.2⟩⟩
 case round =>
  clear HD
  obtain ⟨k,c,hk,rfl,rfl,acc,HI⟩:=hrel
  rcases Nat.lt_or_ge k n with hk' | hk'
  ·obtain ⟨x,hx⟩:∃x,l[k]?=some x:=⟨_,List.getElem?_eq_getElem (by rw [←HN.out];exact hk')⟩
   have hxo:x<18446744073709551616:=HOK.out x (List.mem_of_getElem? hx)
   have HD:Hid (l.drop k=x::l.drop (k+1)):=Lib.hid (drop_atN hx)
   have HI2:Hid (DgB w.heap.size wr g capd (acc++x::l.drop (k+1))):=Lib.hid (by rw [←HD.out];exact HI.out.2.1)
   have HX:=Lib.hid (tmAt_next HI.out.1 hx hxo HM.out)
   have c0:=HI2.out.at (i:=k) (x:=x) (by rw [←HI.out.1.len];simp)
   have f0:=HI2.out.free k
   have HMu:=Lib.hid (fun W=>bits_Mul64 x m hxo HM.out W)
   have HA:=Lib.hid (fun W=>bits_Add64 (x*m % 18446744073709551616) c W)
   have hC:=tm_bd hxo HM.out HI.out.1.cb
   obtain ⟨e1,e2⟩:=tm_parts (x:=x) (n:=m) (c:=c)
   rw [e1] at HA
   obtain ⟨S,hS⟩:∃S,S=(x*m+c) % 18446744073709551616:=⟨_,rfl⟩
   obtain ⟨C,hC2⟩:∃C,C=(x*m+c) / 18446744073709551616:=⟨_,rfl⟩
   rw [←hS] at HA HX
   rw [←hC2] at HX hC e2
   obtain ⟨H,hH⟩:∃H,H=x*m / 18446744073709551616:=⟨_,rfl⟩
   obtain ⟨O,hO⟩:∃O,O=(x*m % 18446744073709551616+c) / 18446744073709551616:=⟨_,rfl⟩
   obtain ⟨Lo,hLo⟩:∃Lo,Lo=x*m % 18446744073709551616:=⟨_,rfl⟩
   rw [←hO] at HA e2
   rw [←hH] at HMu e2
   rw [←hLo] at HMu HA
   clear hx hxo e1 hS hC2 hH hO hLo HD
   go_wp2_with (first | (go_at_call 108;refine (HMu.out _).mono ?_;rintro e w' ⟨rfl,rfl⟩) | (rw [HA.out _]))
   go_roundw
   case rel=>exact ⟨k+1,C,by omega,by go_num,by go_num,acc++[S],Lib.hid (by
     refine ⟨HX.out,?_,HI.out.2.2.setCell HI2.out.lt.1 _⟩
     have h2:=HI2.out.set (i:=k) (x:=S) (by simp [HI.out.1.len])
     rw [set_midN HI.out.1.len] at h2
     exact h2)⟩
   case measure=>simp [intOf];omega
  ·obtain rfl:k=n:=by omega
   have HV:Hid (DgB w.heap.size wr g capd acc):=Lib.hid (by
    have e:l.drop k=[]:=by rw [HN.out];simp
    have h2:=HI.out.2.1
    rw [e,List.append_nil] at h2
    exact h2)
   have HK:Hid (acc.length=k):=Lib.hid HI.out.1.len
   have HE:=Lib.hid (tmAt_end HI.out.1 HN.out.symm)
   have hown:=HV.out.own
   rw [HK.out] at hown
   have hB:=HI.out.2.2
   go_wp2_with (at_builtin;refine wpList_append_own _ rfl _ _ 114 rfl w.heap.size 112 i0 (.int .u64 0) 1 8 Tryz.underlying114 hi hz0 hz1 hz2 rfl (by decide) _ _ _ rfl (hown.alloc (.cells #[.int .u64 (c:Int)] 112)) ⟨wr.heap.size,0,none⟩ 1 1 [.int .u64 (c:Int)] rfl ?qc1 ?qc2 ?qc3 ?qc4 ?qc5 ?qc6 ?_)
   case qc1=>rfl
   case qc2 =>
    intro j u hu
    match j,hu with
    | 0,hu =>
     simp at hu
     subst hu
     rw [addr_plain]
     exact cell_of_one (heap_at _ rfl)
   case qc3 =>
    intro u hu
    simp at hu
    subst hu
    rfl
   case qc4=>unfold maxLen;omega
   case qc5=>omega
   case qc6 =>
    have:=hB.size
    simp
    omega
   intro v' w1 hown2 hgrow hnil
   obtain ⟨g2,c2,rfl⟩:=ownsRow_succ hown2
   go_wp2
   go_ret
   refine ⟨g2,c2,acc++[c],rfl,by simp [HK.out],HE.out.2,HE.out.1,⟨by simpa [HK.out,encU] using hown2⟩,?_⟩
   exact (hB.alloc (by have:=hB.size;omega) _).grown hgrow (by have:=hB.size;simp;omega) (by intro k hk;simp [Value.ownBlock] at hk;have:=HV.out.lt;omega)
end Go.Proofs.YthhkcfpljgdnhaaGreat

/- Contracts of package span: high. -/
namespace Mnc
open Go
/-- What high answers. -/
structure HiOk (l:List Nat) (sh q:Nat) (r f:Bool):Prop where
 good:f=true->q=dval l / 2 ^ sh/\(r=true ↔ dval l % 2 ^ sh≠0)
 bad:f=false->18446744073709551616<=dval l / 2 ^ sh
 lt:q<18446744073709551616
/-- .. as an ending. -/
def HiEnd (l:List Nat) (sh:Nat) (e:Ending):Prop:=∃(q:Nat) (r f:Bool),e=.returned (.tuple #[.int .u64 (q:Int),.bool r,.bool f])/\HiOk l sh q r f
theorem HiEnd.mk {l:List Nat} {sh q:Nat} {r f:Bool} (h:HiOk l sh q r f):HiEnd l sh (.returned (.tuple #[.int .u64 (q:Int),.bool r,.bool f])):=⟨q,r,f,rfl,h⟩
theorem dat_drop {l:List Nat} {k:Nat} (h:∀t,k<=t->t<l.length->dat l t=0):dval (l.drop k)=0:=by
 rw [dval_zero_iff]
 intro d hd
 obtain ⟨i,hi,rfl⟩:=List.mem_iff_getElem.1 hd
 rw [List.length_drop] at hi
 have h2:=h (k+i) (by omega) (by omega)
 unfold dat at h2
 rw [List.getD_eq_getElem?_getD,List.getElem?_eq_getElem (by omega)] at h2
 rw [List.getElem_drop]
 exact h2
theorem dat_big {l:List Nat} {k t:Nat} (hk:k<=t) (ht:t<l.length) (h:dat l t≠0):1<=dval (l.drop k):=by
 apply Nat.pos_of_ne_zero
 intro h0
 rw [dval_zero_iff] at h0
 apply h
 unfold dat
 rw [List.getD_eq_getElem?_getD,List.getElem?_eq_getElem ht]
 apply h0
 rw [List.mem_iff_getElem]
 refine ⟨t-k,by rw [List.length_drop];omega,?_⟩
 rw [List.getElem_drop]
 congr 1
 omega
theorem hi32_bad1 {l:List Nat} (h:dok l) {s:Nat} (hy:dat l (s+1) / 4294967296≠0):HiOk l (64*s+32) 0 false false:=by
 refine ⟨fun e=>by simp at e,fun _=>?_,by omega⟩
 rw [(high_32 l h s).1]
 omega
theorem hi32_bad2 {l:List Nat} (h:dok l) {s t:Nat} (hk:s+2<=t) (ht:t<l.length) (hd:dat l t≠0):HiOk l (64*s+32) 0 false false:=by
 refine ⟨fun e=>by simp at e,fun _=>?_,by omega⟩
 rw [(high_32 l h s).1]
 have:=dat_big hk ht hd
 omega
theorem hi32_ok {l:List Nat} (h:dok l) {s:Nat} (hd:∀t,s+2<=t->t<l.length->dat l t=0) (hy:dat l (s+1) / 4294967296=0):HiOk l (64*s+32) (dat l s / 4294967296+(dat l (s+1) % 4294967296)*4294967296) (dleft l s || decide (0<dat l s % 4294967296)) true:=by
 have hx:=dat_lt h s
 refine ⟨fun _=>?_,fun e=>by simp at e,by omega⟩
 rw [(high_32 l h s).1,(high_32 l h s).2,dat_drop hd]
 exact ⟨by omega,Iff.rfl⟩
theorem hi0_bad1 {l:List Nat} (h:dok l) {s:Nat} (hy:dat l (s+1)≠0) (q:Nat) (hq:q<18446744073709551616) (r:Bool):HiOk l (64*s) q r false:=by
 refine ⟨fun e=>by simp at e,fun _=>?_,hq⟩
 rw [(high_0 l h s).1,dval_drop]
 omega
theorem hi0_bad2 {l:List Nat} (h:dok l) {s t:Nat} (hk:s+2<=t) (ht:t<l.length) (hd:dat l t≠0):HiOk l (64*s) 0 false false:=by
 refine ⟨fun e=>by simp at e,fun _=>?_,by omega⟩
 have e:dval (l.drop (s+1))=dat l (s+1)+18446744073709551616*dval (l.drop (s+2)):=dval_drop l (s+1)
 rw [(high_0 l h s).1,e]
 have:=dat_big hk ht hd
 omega
theorem hi0_ok {l:List Nat} (h:dok l) {s:Nat} (hd:∀t,s+2<=t->t<l.length->dat l t=0) (hy:dat l (s+1)=0):HiOk l (64*s) (dat l s) (dleft l s) true:=by
 refine ⟨fun _=>?_,fun e=>by simp at e,dat_lt h s⟩
 have e:dval (l.drop (s+1))=dat l (s+1)+18446744073709551616*dval (l.drop (s+2)):=dval_drop l (s+1)
 rw [(high_0 l h s).1,(high_0 l h s).2,e,dat_drop hd,hy]
 exact ⟨by omega,Iff.rfl⟩
theorem or_hi (x y:Nat) (hx:x<18446744073709551616):bits .or .u64 ((x:Int) / 4294967296) (IntKind.u64.wrap ((y:Int)*4294967296))=((x / 4294967296+(y % 4294967296)*4294967296:Nat):Int):=by
 have e1:(x:Int) / 4294967296=((x / 4294967296:Nat):Int):=by omega
 have e2:IntKind.u64.wrap ((y:Int)*4294967296)=(((y % 4294967296)*4294967296:Nat):Int):=by
  rw [IntKind.wrap_u64]
  omega
 rw [e1,e2,bits_or_u64_nat _ _ (by omega) (by omega)]
 have h:=Nat.two_pow_add_eq_or_of_lt (i:=32) (b:=x / 4294967296) (by omega) (y % 4294967296)
 rw [Nat.or_comm,Nat.mul_comm (y % 4294967296),show (4294967296:Nat)=2 ^ 32 from rfl,←h]
 omega
end Mnc
namespace Go.Proofs.YthhkcfpljgdnhaaGreat
open Go.RowKit Mnc

theorem dig_at (l:List Nat) (b cap A i:Nat) (w:World) (hA:w.cell? ⟨A,0,none⟩=some (.slice (some ⟨b,0,none⟩) l.length cap)) (h:DgAt w b cap l) (_:l.length<=100) (_:i<=1000) :
  Calls Tryz.prog 110 #[.int .i64 (i:Int),.pointer (some ⟨A,0,none⟩)] w fun e w'=>e=.returned (.int .u64 (dat l i:Nat))/\w=w':=by
 rcases Nat.lt_or_ge i l.length with hlt | hge
 ·have c0:=h.cells i (l[i]) (List.getElem?_eq_getElem hlt)
  have e:dat l i=l[i]:=by unfold dat;rw [List.getD_eq_getElem?_getD,List.getElem?_eq_getElem hlt];rfl
  rw [←e] at c0
  generalize dat l i=x at *
  obtain ⟨n,hn⟩:∃n,n=l.length:=⟨_,rfl⟩
  rw [←hn] at hA hlt
  clear h e hn
  go_enter Tryz.func110,Tryz.ntmps110
  go_wp2_with fail
  go_ret
  exact ⟨rfl,rfl⟩
 ·have e:dat l i=0:=by unfold dat;rw [List.getD_eq_getElem?_getD,List.getElem?_eq_none hge];rfl
  rw [e]
  obtain ⟨n,hn⟩:∃n,n=l.length:=⟨_,rfl⟩
  rw [←hn] at hA hge
  clear h e hn
  go_enter Tryz.func110,Tryz.ntmps110
  go_wp2_with fail
  go_ret
  exact ⟨rfl,rfl⟩

/-- What high's own memory holds: the box of the digits. -/
structure HiB (w W:World) (b cap:Nat) (l:List Nat):Prop where
 bel:Below w.heap.size w W
 box:W.heap[w.heap.size]?=some (.cells #[.slice (some ⟨b,0,none⟩) l.length cap] 114 (0,0))
 dg:DgAt W b cap l
theorem HiB.start {w:World} {b cap:Nat} {l:List Nat} (h:DgAt w b cap l):HiB w (w.alloc (.cells #[.slice (some ⟨b,0,none⟩) l.length cap] 114)) b cap l :=
 ⟨below_alloc (Below.refl _ _) _,heap_at _ rfl,h.on (below_alloc (Below.refl _ _) _)⟩
theorem HiB.on {w W W':World} {b cap:Nat} {l:List Nat} (h:HiB w W b cap l) (k:Below W.heap.size W W'):HiB w W' b cap l :=
 ⟨below_step h.bel k,(k.block _ (lt_of_block h.box)).trans h.box,h.dg.on k⟩
theorem HiB.atq {w W:World} {b cap:Nat} {l:List Nat} (h:HiB w W b cap l) (hl:l.length<=100) {i:Nat} (hi:i<=1000) (m:Nat) :
  Calls Tryz.prog 110 #[.int .i64 (i:Int),.pointer (some ⟨w.heap.size,0,none⟩)] (W.drewN m) fun e w'=>e=.returned (.int .u64 (dat l i:Nat))/\w'=W.drewN m :=
 (dig_at l b cap _ i (W.drewN m) (cell_of_one (h.on (below_drewN (Below.refl _ _) m)).box) (h.on (below_drewN (Below.refl _ _) m)).dg hl hi).mono fun _ _ hh=>⟨hh.1,hh.2.symm⟩
theorem HiB.at {w W:World} {b cap:Nat} {l:List Nat} (h:HiB w W b cap l) (hl:l.length<=100) {i:Nat} (hi:i<=1000) :
  Calls Tryz.prog 110 #[.int .i64 (i:Int),.pointer (some ⟨w.heap.size,0,none⟩)] W fun e w'=>e=.returned (.int .u64 (dat l i:Nat))/\W=w' :=
 dig_at l b cap _ i W (cell_of_one h.box) h.dg hl hi

set_option maxHeartbeats 2000000 in
theorem dig_high32 (l:List Nat) (N:Int) (s:Nat) (b cap:Nat) (w:World) (h:DgAt w b cap l) (hl:l.length<=100) (hs:s<=100) (hq:N.tdiv 64=(s:Int)) (hr:N.tmod 64=32) :
  Calls Tryz.prog 95 #[.slice (some ⟨b,0,none⟩) l.length cap,.int .i64 N] w fun e w'=>HiEnd l (64*s+32) e/\Below w.heap.size w w':=by
 have HB:=Lib.hid (HiB.start h)
 have HL:=Lib.hid hl
 clear h
 obtain ⟨n,hn⟩:∃n,n=l.length:=⟨_,rfl⟩
 have HN:=Lib.hid hn
 rw [←hn] at hl ⊢
 have HB1:=HB
 rw [←hn] at HB1
 clear hn
 go_enter Tryz.func95,Tryz.ntmps95
 go_wp2_with fail
 go_simp
 go_loop [5,18] (fun r i=>∃k:Nat,k<=s/\i=.int .i64 k/\r=.bool (dleft l k)) (fun _ i=>s-(intOf i).toNat)
 case atStart=>exact ⟨0,by omega,rfl,rfl⟩
 case round =>
  obtain ⟨k,hk,rfl,rfl⟩:=hrel
  rcases Nat.lt_or_ge k s with hk' | hk'
  ·have HA:=Lib.hid (HB1.out.at HL.out (i:=k) (by omega))
   have HX:=Lib.hid (dleft_next l k)
   generalize dat l k=x at *
   cases hd:dleft l k with
   | true =>
    rw [hd] at HX
    go_wp2_with fail
    go_round
    case rel=>exact ⟨k+1,by omega,by go_num,by rw [HX.out];simp⟩
    case measure=>simp [intOf];omega
   | false =>
    rw [hd] at HX
    go_wp2_with (go_at_call 110;refine HA.out.mono ?_;rintro e w' ⟨rfl,rfl⟩)
    go_round
    case rel=>exact ⟨k+1,by omega,by go_num,by rw [HX.out];simp⟩
    case measure=>simp [intOf];omega
  ·obtain rfl:k=s:=by omega
   have HA0:=Lib.hid (fun m=>HB1.out.atq HL.out (i:=k) (by omega) m)
   have HA1:=Lib.hid (fun m=>HB1.out.atq HL.out (i:=k+1) (by omega) m)
   generalize w.alloc (.cells #[.slice (some ⟨b,0,none⟩) n cap] 114)=W at *
   obtain ⟨x,hx⟩:∃x,x=dat l k:=⟨_,rfl⟩
   obtain ⟨y,hy⟩:∃y,y=dat l (k+1):=⟨_,rfl⟩
   rw [←hx] at HA0
   rw [←hy] at HA1
   have ek:(((k+1:Nat)):Int)=(k:Int)+1:=by omega
   rw [ek] at HA1
   have HX:=Lib.hid hx
   have HY:=Lib.hid hy
   have HDg:=HB.out.dg.ok
   have hxo:x<18446744073709551616:=by rw [hx];exact dat_lt HDg k
   have hyo:y<18446744073709551616:=by rw [hy];exact dat_lt HDg (k+1)
   obtain ⟨r,hr8⟩:∃r,r=dleft l k:=⟨_,rfl⟩
   rw [←hr8]
   have HR:=Lib.hid hr8
   clear hr8 hx hy HDg
   go_wp2_with fail
   cases r with
   | true =>
    go_quiet (fail)
    have HB8:Hid (HiB w (W.drewN nq) b cap l):=Lib.hid (HB1.out.on (below_drewN (Below.refl _ _) nq))
    have HA0:=Lib.hid (fun m=>HB8.out.atq HL.out (i:=k) (by omega) m)
    have HA1:=Lib.hid (fun m=>HB8.out.atq HL.out (i:=k+1) (by omega) m)
    rw [←HX.out] at HA0
    rw [←HY.out,ek] at HA1
    generalize W.drewN nq=W8 at *
    go_wp2_with fail
    go_quiet (first | (go_at_call 110;with_reducible refine Calls.quiet_of_same (HA0.out _)) | (go_at_call 110;with_reducible refine Calls.quiet_of_same (HA1.out _)))
    have HB9:Hid (HiB w (W8.drewN nq) b cap l):=Lib.hid (HB8.out.on (below_drewN (Below.refl _ _) nq))
    have HA1:=Lib.hid (HB9.out.at HL.out (i:=k+1) (by omega))
    rw [←HY.out,ek] at HA1
    generalize W8.drewN nq=W9 at *
    rw [or_hi x y hxo]
    obtain ⟨R,hR⟩:∃R,R=true:=⟨_,rfl⟩
    have HRR:Hid (R=(dleft l k || decide (0<dat l k % 4294967296))):=Lib.hid (by rw [hR,←HR.out,Bool.true_or])
    rw [←hR]
    clear hR
    obtain ⟨q,hq⟩:∃q,q=x / 4294967296+(y % 4294967296)*4294967296:=⟨_,rfl⟩
    rw [←hq]
    have HQ:=Lib.hid hq
    clear hq
    by_cases hy0:y / 4294967296=0
    ·have d0:decide ((0:Int)<(y:Int) / 4294967296)=false:=by simp;omega
     have HY0:=Lib.hid hy0
     clear hy0
     go_wp2_with (go_at_call 110;refine HA1.out.mono ?_;rintro e w' ⟨rfl,rfl⟩)
     go_loop [4,5,11] (fun a c i=>∃j:Nat,k+2<=j/\j<=102+n/\i=.int .i64 j/\a=.int .u64 q/\c=.bool R/\Hid (∀t,k+2<=t->t<j->t<l.length->dat l t=0)) (fun _ _ i=>1000-(intOf i).toNat)
     case atStart=>exact ⟨k+2,by omega,by omega,by go_num,rfl,rfl,Lib.hid (fun t h1 h2=>by omega)⟩
     case round =>
      obtain ⟨j,hj1,hj2,rfl,rfl,rfl,HJ⟩:=hrel
      have b0:=cell_of_one HB9.out.box
      rw [←HN.out] at b0
      rcases Nat.lt_or_ge j n with hj' | hj'
      ·obtain ⟨z,hz⟩:∃z,z=dat l j:=⟨_,rfl⟩
       have c0:=HB9.out.dg.cells j z (by rw [hz];unfold dat;rw [List.getD_eq_getElem?_getD,List.getElem?_eq_getElem (by rw [←HN.out];exact hj')];rfl)
       have HZ:=Lib.hid hz
       clear hz
       by_cases hz0:z=0
       ·subst hz0
        go_wp2_with fail
        go_round
        case rel=>exact ⟨j+1,by omega,by omega,by go_num,rfl,rfl,Lib.hid (fun t h1 h2 h3=>by
          rcases Nat.lt_or_ge t j with h | h
          ·exact HJ.out t h1 h h3
          ·rw [show t=j by omega];exact HZ.out.symm)⟩
        case measure=>simp [intOf];omega
       ·have d1:decide ((0:Int)<(z:Int))=true:=by simp;omega
        have HZ0:=Lib.hid hz0
        clear hz0
        go_wp2_with fail
        refine bodyPost_ret (v:=.tuple #[.int .u64 0,.bool false,.bool false]) (by simp [results,Tryz.results95,go_sem]) rfl ?_
        exact ⟨HiEnd.mk (hi32_bad2 HB9.out.dg.ok hj1 (by rw [←HN.out];exact hj') (by rw [←HZ.out];exact HZ0.out)),HB9.out.bel⟩
        exfalso
        have:=HZ0.out
        omega
      ·go_wp2_with fail
       refine bodyPost_ret (v:=.tuple #[.int .u64 (q:Int),.bool R,.bool true]) (by simp [results,Tryz.results95,go_sem]) rfl ?_
       refine ⟨HiEnd.mk ?_,HB9.out.bel⟩
       rw [HQ.out,HRR.out,HX.out,HY.out]
       exact hi32_ok HB9.out.dg.ok (fun t h1 h2=>HJ.out t h1 (by have:=HN.out;omega) h2) (by rw [←HY.out];exact HY0.out)
    ·have d0:decide ((0:Int)<(y:Int) / 4294967296)=true:=by simp;omega
     have HY0:=Lib.hid hy0
     clear hy0
     go_wp2_with (go_at_call 110;refine HA1.out.mono ?_;rintro e w' ⟨rfl,rfl⟩)
     refine bodyPost_ret (v:=.tuple #[.int .u64 0,.bool false,.bool false]) (by simp [results,Tryz.results95,go_sem]) rfl ?_
     exact ⟨HiEnd.mk (hi32_bad1 HB9.out.dg.ok (by rw [←HY.out];exact HY0.out)),HB9.out.bel⟩
   | false =>
    go_quiet (first | (go_at_call 110;with_reducible refine Calls.quiet_of_same (HA0.out _)) | (go_at_call 110;with_reducible refine Calls.quiet_of_same (HA1.out _)))
    have HB8:Hid (HiB w (W.drewN nq) b cap l):=Lib.hid (HB1.out.on (below_drewN (Below.refl _ _) nq))
    have HA0:=Lib.hid (fun m=>HB8.out.atq HL.out (i:=k) (by omega) m)
    have HA1:=Lib.hid (fun m=>HB8.out.atq HL.out (i:=k+1) (by omega) m)
    rw [←HX.out] at HA0
    rw [←HY.out,ek] at HA1
    generalize W.drewN nq=W8 at *
    go_wp2_with fail
    go_quiet (first | (go_at_call 110;with_reducible refine Calls.quiet_of_same (HA0.out _)) | (go_at_call 110;with_reducible refine Calls.quiet_of_same (HA1.out _)))
    have HB9:Hid (HiB w (W8.drewN nq) b cap l):=Lib.hid (HB8.out.on (below_drewN (Below.refl _ _) nq))
    have HA1:=Lib.hid (HB9.out.at HL.out (i:=k+1) (by omega))
    rw [←HY.out,ek] at HA1
    generalize W8.drewN nq=W9 at *
    rw [or_hi x y hxo]
    rw [M64.maskN x hxo]
    obtain ⟨R,hR⟩:∃R,R=decide ((0:Int)<((x % 4294967296:Nat):Int)):=⟨_,rfl⟩
    rw [←hR]
    have HRR:Hid (R=(dleft l k || decide (0<dat l k % 4294967296))):=Lib.hid (by rw [hR,←HR.out,←HX.out,Bool.false_or,Bool.eq_iff_iff];simp only [decide_eq_true_eq];omega)
    clear hR
    obtain ⟨q,hq⟩:∃q,q=x / 4294967296+(y % 4294967296)*4294967296:=⟨_,rfl⟩
    rw [←hq]
    have HQ:=Lib.hid hq
    clear hq
    by_cases hy0:y / 4294967296=0
    ·have d0:decide ((0:Int)<(y:Int) / 4294967296)=false:=by simp;omega
     have HY0:=Lib.hid hy0
     clear hy0
     go_wp2_with (go_at_call 110;refine HA1.out.mono ?_;rintro e w' ⟨rfl,rfl⟩)
     go_loop [4,5,11] (fun a c i=>∃j:Nat,k+2<=j/\j<=102+n/\i=.int .i64 j/\a=.int .u64 q/\c=.bool R/\Hid (∀t,k+2<=t->t<j->t<l.length->dat l t=0)) (fun _ _ i=>1000-(intOf i).toNat)
     case atStart=>exact ⟨k+2,by omega,by omega,by go_num,rfl,rfl,Lib.hid (fun t h1 h2=>by omega)⟩
     case round =>
      obtain ⟨j,hj1,hj2,rfl,rfl,rfl,HJ⟩:=hrel
      have b0:=cell_of_one HB9.out.box
      rw [←HN.out] at b0
      rcases Nat.lt_or_ge j n with hj' | hj'
      ·obtain ⟨z,hz⟩:∃z,z=dat l j:=⟨_,rfl⟩
       have c0:=HB9.out.dg.cells j z (by rw [hz];unfold dat;rw [List.getD_eq_getElem?_getD,List.getElem?_eq_getElem (by rw [←HN.out];exact hj')];rfl)
       have HZ:=Lib.hid hz
       clear hz
       by_cases hz0:z=0
       ·subst hz0
        go_wp2_with fail
        go_round
        case rel=>exact ⟨j+1,by omega,by omega,by go_num,rfl,rfl,Lib.hid (fun t h1 h2 h3=>by
          rcases Nat.lt_or_ge t j with h | h
          ·exact HJ.out t h1 h h3
          ·rw [show t=j by omega];exact HZ.out.symm)⟩
        case measure=>simp [intOf];omega
       ·have d1:decide ((0:Int)<(z:Int))=true:=by simp;omega
        have HZ0:=Lib.hid hz0
        clear hz0
        go_wp2_with fail
        refine bodyPost_ret (v:=.tuple #[.int .u64 0,.bool false,.bool false]) (by simp [results,Tryz.results95,go_sem]) rfl ?_
        exact ⟨HiEnd.mk (hi32_bad2 HB9.out.dg.ok hj1 (by rw [←HN.out];exact hj') (by rw [←HZ.out];exact HZ0.out)),HB9.out.bel⟩
        exfalso
        have:=HZ0.out
        omega
      ·go_wp2_with fail
       refine bodyPost_ret (v:=.tuple #[.int .u64 (q:Int),.bool R,.bool true]) (by simp [results,Tryz.results95,go_sem]) rfl ?_
       refine ⟨HiEnd.mk ?_,HB9.out.bel⟩
       rw [HQ.out,HRR.out,HX.out,HY.out]
       exact hi32_ok HB9.out.dg.ok (fun t h1 h2=>HJ.out t h1 (by have:=HN.out;omega) h2) (by rw [←HY.out];exact HY0.out)
    ·have d0:decide ((0:Int)<(y:Int) / 4294967296)=true:=by simp;omega
     have HY0:=Lib.hid hy0
     clear hy0
     go_wp2_with (go_at_call 110;refine HA1.out.mono ?_;rintro e w' ⟨rfl,rfl⟩)
     refine bodyPost_ret (v:=.tuple #[.int .u64 0,.bool false,.bool false]) (by simp [results,Tryz.results95,go_sem]) rfl ?_
     exact ⟨HiEnd.mk (hi32_bad1 HB9.out.dg.ok (by rw [←HY.out];exact HY0.out)),HB9.out.bel⟩
end Go.Proofs.YthhkcfpljgdnhaaGreat

/- Contracts of package span: high by whole digits. Printed by wip/genPB.py. -/
namespace Mnc
open Go
theorem and_lo (x:Nat) (hx:x<18446744073709551616):bits .and .u64 (x:Int) 0=0:=by
 have h:=bits_and_u64_nat x 0 hx (by omega)
 rw [Nat.and_zero] at h
 exact h
theorem or_lo (x y:Nat) (hx:x<18446744073709551616):bits .or .u64 (x:Int) (IntKind.u64.wrap ((y:Int)*18446744073709551616))=((x:Nat):Int):=by
 have e2:IntKind.u64.wrap ((y:Int)*18446744073709551616)=((0:Nat):Int):=by
  rw [IntKind.wrap_u64]
  omega
 rw [e2,bits_or_u64_nat _ _ hx (by omega),Nat.or_zero]
end Mnc
namespace Go.Proofs.YthhkcfpljgdnhaaGreat
open Go.RowKit Mnc
set_option maxHeartbeats 2000000 in
theorem dig_high0 (l:List Nat) (N:Int) (s:Nat) (b cap:Nat) (w:World) (h:DgAt w b cap l) (hl:l.length<=100) (hs:s<=100) (hq:N.tdiv 64=(s:Int)) (hr:N.tmod 64=0) :
  Calls Tryz.prog 95 #[.slice (some ⟨b,0,none⟩) l.length cap,.int .i64 N] w fun e w'=>HiEnd l (64*s) e/\Below w.heap.size w w':=by
 have HB:=Lib.hid (HiB.start h)
 have HL:=Lib.hid hl
 clear h
 obtain ⟨n,hn⟩:∃n,n=l.length:=⟨_,rfl⟩
 have HN:=Lib.hid hn
 rw [←hn] at hl ⊢
 have HB1:=HB
 rw [←hn] at HB1
 clear hn
 go_enter Tryz.func95,Tryz.ntmps95
 go_wp2_with fail
 go_simp
 go_loop [5,18] (fun r i=>∃k:Nat,k<=s/\i=.int .i64 k/\r=.bool (dleft l k)) (fun _ i=>s-(intOf i).toNat)
 case atStart=>exact ⟨0,by omega,rfl,rfl⟩
 case round =>
  obtain ⟨k,hk,rfl,rfl⟩:=hrel
  rcases Nat.lt_or_ge k s with hk' | hk'
  ·have HA:=Lib.hid (HB1.out.at HL.out (i:=k) (by omega))
   have HX:=Lib.hid (dleft_next l k)
   generalize dat l k=x at *
   cases hd:dleft l k with
   | true =>
    rw [hd] at HX
    go_wp2_with fail
    go_round
    case rel=>exact ⟨k+1,by omega,by go_num,by rw [HX.out];simp⟩
    case measure=>simp [intOf];omega
   | false =>
    rw [hd] at HX
    go_wp2_with (go_at_call 110;refine HA.out.mono ?_;rintro e w' ⟨rfl,rfl⟩)
    go_round
    case rel=>exact ⟨k+1,by omega,by go_num,by rw [HX.out];simp⟩
    case measure=>simp [intOf];omega
  ·obtain rfl:k=s:=by omega
   have HA0:=Lib.hid (fun m=>HB1.out.atq HL.out (i:=k) (by omega) m)
   have HA1:=Lib.hid (fun m=>HB1.out.atq HL.out (i:=k+1) (by omega) m)
   generalize w.alloc (.cells #[.slice (some ⟨b,0,none⟩) n cap] 114)=W at *
   obtain ⟨x,hx⟩:∃x,x=dat l k:=⟨_,rfl⟩
   obtain ⟨y,hy⟩:∃y,y=dat l (k+1):=⟨_,rfl⟩
   rw [←hx] at HA0
   rw [←hy] at HA1
   have ek:(((k+1:Nat)):Int)=(k:Int)+1:=by omega
   rw [ek] at HA1
   have HX:=Lib.hid hx
   have HY:=Lib.hid hy
   have HDg:=HB.out.dg.ok
   have hxo:x<18446744073709551616:=by rw [hx];exact dat_lt HDg k
   have hyo:y<18446744073709551616:=by rw [hy];exact dat_lt HDg (k+1)
   obtain ⟨r,hr8⟩:∃r,r=dleft l k:=⟨_,rfl⟩
   rw [←hr8]
   have HR:=Lib.hid hr8
   clear hr8 hx hy HDg
   go_wp2_with fail
   cases r with
   | true =>
    go_quiet (fail)
    have HB8:Hid (HiB w (W.drewN nq) b cap l):=Lib.hid (HB1.out.on (below_drewN (Below.refl _ _) nq))
    have HA0:=Lib.hid (fun m=>HB8.out.atq HL.out (i:=k) (by omega) m)
    have HA1:=Lib.hid (fun m=>HB8.out.atq HL.out (i:=k+1) (by omega) m)
    rw [←HX.out] at HA0
    rw [←HY.out,ek] at HA1
    generalize W.drewN nq=W8 at *
    go_wp2_with fail
    go_quiet (first | (go_at_call 110;with_reducible refine Calls.quiet_of_same (HA0.out _)) | (go_at_call 110;with_reducible refine Calls.quiet_of_same (HA1.out _)))
    have HB9:Hid (HiB w (W8.drewN nq) b cap l):=Lib.hid (HB8.out.on (below_drewN (Below.refl _ _) nq))
    have HA1:=Lib.hid (HB9.out.at HL.out (i:=k+1) (by omega))
    rw [←HY.out,ek] at HA1
    generalize W8.drewN nq=W9 at *
    rw [or_lo x y hxo]
    obtain ⟨R,hR⟩:∃R,R=true:=⟨_,rfl⟩
    have HRR:Hid (R=dleft l k):=Lib.hid (by rw [hR,←HR.out])
    rw [←hR]
    clear hR
    go_wp2_with fail
    go_loop [4,5,11] (fun a c i=>∃j:Nat,k+2<=j/\j<=102+n/\i=.int .i64 j/\a=.int .u64 x/\c=.bool R/\Hid (∀t,k+2<=t->t<j->t<l.length->dat l t=0)) (fun _ _ i=>1000-(intOf i).toNat)
    case atStart=>exact ⟨k+2,by omega,by omega,by go_num,rfl,rfl,Lib.hid (fun t h1 h2=>by omega)⟩
    case round =>
     obtain ⟨j,hj1,hj2,rfl,rfl,rfl,HJ⟩:=hrel
     have b0:=cell_of_one HB9.out.box
     rw [←HN.out] at b0
     rcases Nat.lt_or_ge j n with hj' | hj'
     ·obtain ⟨z,hz⟩:∃z,z=dat l j:=⟨_,rfl⟩
      have c0:=HB9.out.dg.cells j z (by rw [hz];unfold dat;rw [List.getD_eq_getElem?_getD,List.getElem?_eq_getElem (by rw [←HN.out];exact hj')];rfl)
      have HZ:=Lib.hid hz
      clear hz
      by_cases hz0:z=0
      ·subst hz0
       go_wp2_with fail
       go_round
       case rel=>exact ⟨j+1,by omega,by omega,by go_num,rfl,rfl,Lib.hid (fun t h1 h2 h3=>by
         rcases Nat.lt_or_ge t j with h | h
         ·exact HJ.out t h1 h h3
         ·rw [show t=j by omega];exact HZ.out.symm)⟩
       case measure=>simp [intOf];omega
      ·have d1:decide ((0:Int)<(z:Int))=true:=by simp;omega
       have HZ0:=Lib.hid hz0
       clear hz0
       go_wp2_with fail
       refine bodyPost_ret (v:=.tuple #[.int .u64 0,.bool false,.bool false]) (by simp [results,Tryz.results95,go_sem]) rfl ?_
       exact ⟨HiEnd.mk (hi0_bad2 HB9.out.dg.ok hj1 (by rw [←HN.out];exact hj') (by rw [←HZ.out];exact HZ0.out)),HB9.out.bel⟩
       exfalso
       have:=HZ0.out
       omega
     ·by_cases hy0:y=0
      ·have HY0:=Lib.hid hy0
       have d2:((y:Int)==0)=true:=by simp [hy0]
       clear hy0
       go_wp2_with (go_at_call 110;refine HA1.out.mono ?_;rintro e w' ⟨rfl,rfl⟩)
       refine bodyPost_ret (v:=.tuple #[.int .u64 (x:Int),.bool R,.bool true]) (by simp [results,Tryz.results95,go_sem]) rfl ?_
       refine ⟨HiEnd.mk ?_,HB9.out.bel⟩
       rw [HRR.out,HX.out]
       exact hi0_ok HB9.out.dg.ok (fun t h1 h2=>HJ.out t h1 (by have:=HN.out;omega) h2) (by rw [←HY.out];exact HY0.out)
      ·have HY0:=Lib.hid hy0
       have d2:((y:Int)==0)=false:=by simp;exact hy0
       clear hy0
       go_wp2_with (go_at_call 110;refine HA1.out.mono ?_;rintro e w' ⟨rfl,rfl⟩)
       refine bodyPost_ret (v:=.tuple #[.int .u64 (x:Int),.bool R,.bool false]) (by simp [results,Tryz.results95,go_sem]) rfl ?_
       exact ⟨HiEnd.mk (hi0_bad1 HB9.out.dg.ok (by rw [←HY.out];exact HY0.out) x hxo R),HB9.out.bel⟩
   | false =>
    go_quiet (first | (go_at_call 110;with_reducible refine Calls.quiet_of_same (HA0.out _)) | (go_at_call 110;with_reducible refine Calls.quiet_of_same (HA1.out _)))
    have HB8:Hid (HiB w (W.drewN nq) b cap l):=Lib.hid (HB1.out.on (below_drewN (Below.refl _ _) nq))
    have HA0:=Lib.hid (fun m=>HB8.out.atq HL.out (i:=k) (by omega) m)
    have HA1:=Lib.hid (fun m=>HB8.out.atq HL.out (i:=k+1) (by omega) m)
    rw [←HX.out] at HA0
    rw [←HY.out,ek] at HA1
    generalize W.drewN nq=W8 at *
    go_wp2_with fail
    go_quiet (first | (go_at_call 110;with_reducible refine Calls.quiet_of_same (HA0.out _)) | (go_at_call 110;with_reducible refine Calls.quiet_of_same (HA1.out _)))
    have HB9:Hid (HiB w (W8.drewN nq) b cap l):=Lib.hid (HB8.out.on (below_drewN (Below.refl _ _) nq))
    have HA1:=Lib.hid (HB9.out.at HL.out (i:=k+1) (by omega))
    rw [←HY.out,ek] at HA1
    generalize W8.drewN nq=W9 at *
    rw [or_lo x y hxo]
    rw [and_lo x hxo]
    obtain ⟨R,hR⟩:∃R,R=false:=⟨_,rfl⟩
    have HRR:Hid (R=dleft l k):=Lib.hid (by rw [hR,←HR.out])
    rw [show decide ((0:Int)<0)=false from rfl,←hR]
    clear hR
    go_wp2_with fail
    go_loop [4,5,11] (fun a c i=>∃j:Nat,k+2<=j/\j<=102+n/\i=.int .i64 j/\a=.int .u64 x/\c=.bool R/\Hid (∀t,k+2<=t->t<j->t<l.length->dat l t=0)) (fun _ _ i=>1000-(intOf i).toNat)
    case atStart=>exact ⟨k+2,by omega,by omega,by go_num,rfl,rfl,Lib.hid (fun t h1 h2=>by omega)⟩
    case round =>
     obtain ⟨j,hj1,hj2,rfl,rfl,rfl,HJ⟩:=hrel
     have b0:=cell_of_one HB9.out.box
     rw [←HN.out] at b0
     rcases Nat.lt_or_ge j n with hj' | hj'
     ·obtain ⟨z,hz⟩:∃z,z=dat l j:=⟨_,rfl⟩
      have c0:=HB9.out.dg.cells j z (by rw [hz];unfold dat;rw [List.getD_eq_getElem?_getD,List.getElem?_eq_getElem (by rw [←HN.out];exact hj')];rfl)
      have HZ:=Lib.hid hz
      clear hz
      by_cases hz0:z=0
      ·subst hz0
       go_wp2_with fail
       go_round
       case rel=>exact ⟨j+1,by omega,by omega,by go_num,rfl,rfl,Lib.hid (fun t h1 h2 h3=>by
         rcases Nat.lt_or_ge t j with h | h
         ·exact HJ.out t h1 h h3
         ·rw [show t=j by omega];exact HZ.out.symm)⟩
       case measure=>simp [intOf];omega
      ·have d1:decide ((0:Int)<(z:Int))=true:=by simp;omega
       have HZ0:=Lib.hid hz0
       clear hz0
       go_wp2_with fail
       refine bodyPost_ret (v:=.tuple #[.int .u64 0,.bool false,.bool false]) (by simp [results,Tryz.results95,go_sem]) rfl ?_
       exact ⟨HiEnd.mk (hi0_bad2 HB9.out.dg.ok hj1 (by rw [←HN.out];exact hj') (by rw [←HZ.out];exact HZ0.out)),HB9.out.bel⟩
       exfalso
       have:=HZ0.out
       omega
     ·by_cases hy0:y=0
      ·have HY0:=Lib.hid hy0
       have d2:((y:Int)==0)=true:=by simp [hy0]
       clear hy0
       go_wp2_with (go_at_call 110;refine HA1.out.mono ?_;rintro e w' ⟨rfl,rfl⟩)
       refine bodyPost_ret (v:=.tuple #[.int .u64 (x:Int),.bool R,.bool true]) (by simp [results,Tryz.results95,go_sem]) rfl ?_
       refine ⟨HiEnd.mk ?_,HB9.out.bel⟩
       rw [HRR.out,HX.out]
       exact hi0_ok HB9.out.dg.ok (fun t h1 h2=>HJ.out t h1 (by have:=HN.out;omega) h2) (by rw [←HY.out];exact HY0.out)
      ·have HY0:=Lib.hid hy0
       have d2:((y:Int)==0)=false:=by simp;exact hy0
       clear hy0
       go_wp2_with (go_at_call 110;refine HA1.out.mono ?_;rintro e w' ⟨rfl,rfl⟩)
       refine bodyPost_ret (v:=.tuple #[.int .u64 (x:Int),.bool R,.bool false]) (by simp [results,Tryz.results95,go_sem]) rfl ?_
       exact ⟨HiEnd.mk (hi0_bad1 HB9.out.dg.ok (by rw [←HY.out];exact HY0.out) x hxo R),HB9.out.bel⟩
end Go.Proofs.YthhkcfpljgdnhaaGreat

/- Contracts of package span: power. -/
namespace Mnc
open Go
/-- What power makes of high's answer. -/
theorem pwr_hi {v:Int} {n:Nat} {l:List Nat} {sh q:Nat} {r:Bool} (h:HiOk l sh q r true) (hl:dval l=v.natAbs ^ n) (hs:sh=32*(n-1)) (hq:q<=4503599627370496) :
  pwr v n=if (decide (v<0) && decide (n % 2=1))=true then (-(if r=true then (q:Int)+1 else q),-(q:Int),0) else ((q:Int),if r=true then (q:Int)+1 else q,0):=by
 obtain ⟨h1,h2⟩:=h.good rfl
 have e:pDen n=2 ^ sh:=by rw [hs];rfl
 rw [hl,←e] at h1 h2
 rw [pwr_ok (by omega),pwr_rnd,pwr_rnd]
 have r0:rsz false (v.natAbs ^ n) (pDen n)=q:=by unfold rsz;simp [h1]
 have r1:rsz true (v.natAbs ^ n) (pDen n)=if r=true then q+1 else q:=by
  unfold rsz
  rw [←h1]
  cases r
  ·have:¬v.natAbs ^ n % pDen n≠0:=fun hh=>by have:=h2.2 hh;simp at this
   simp [this]
  ·have:v.natAbs ^ n % pDen n≠0:=h2.1 rfl
   simp [this]
 cases hneg:(decide (v<0) && decide (n % 2=1))
 ·simp only [Bool.bne_false,r0,r1,Bool.false_eq_true,if_false]
  cases r<;>simp
 ·simp only [Bool.bne_true,Bool.not_false,Bool.not_true,r0,r1,if_true]
  cases r<;>simp
theorem pwr_hi_bad {v:Int} {n:Nat} {l:List Nat} {sh q:Nat} {r f:Bool} (h:HiOk l sh q r f) (hl:dval l=v.natAbs ^ n) (hs:sh=32*(n-1)) (hq:f=false∨4503599627370496<q):pwr v n=(0,0,6):=by
 have e:pDen n=2 ^ sh:=by rw [hs];rfl
 apply pwr_bad
 rw [e,←hl]
 cases f with
 | false=>have:=h.bad rfl;omega
 | true =>
  have:=(h.good rfl).1
  rcases hq with hq | hq
  ·simp at hq
  ·omega
end Mnc
namespace Go.Proofs.YthhkcfpljgdnhaaGreat
open Go.RowKit Mnc
theorem dig_high (l:List Nat) (n:Nat) (b cap:Nat) (w:World) (h:DgAt w b cap l) (hl:l.length<=100) (hn:n<=16) (h1:1<=n) :
  Calls Tryz.prog 95 #[.slice (some ⟨b,0,none⟩) l.length cap,.int .i64 (32*((n:Int)-1))] w fun e w'=>HiEnd l (32*(n-1)) e/\Below w.heap.size w w':=by
 rcases Nat.mod_two_eq_zero_or_one (n-1) with hm | hm
 ·have:=dig_high0 l (32*((n:Int)-1)) ((n-1) / 2) b cap w h hl (by omega) (by rw [Int.tdiv_eq_ediv_of_nonneg (by omega)];omega) (by rw [Int.tmod_eq_emod_of_nonneg (by omega)];omega)
  rw [show 64*((n-1) / 2)=32*(n-1) by omega] at this
  exact this
 ·have:=dig_high32 l (32*((n:Int)-1)) ((n-1) / 2) b cap w h hl (by omega) (by rw [Int.tdiv_eq_ediv_of_nonneg (by omega)];omega) (by rw [Int.tmod_eq_emod_of_nonneg (by omega)];omega)
  rw [show 64*((n-1) / 2)+32=32*(n-1) by omega] at this
  exact this

theorem DgB.low {n₀ n₁:Nat} {W:World} {g cap:Nat} {L:List Nat} (h:DgB n₁ W g cap L) (k:n₀<=n₁):DgB n₀ W g cap L where
 own:=by
  refine ⟨h.own.1,?_⟩
  rcases h.own.2 with h' | ⟨g',cap',cur,h1,h2,hr⟩
  ·exact .inl h'
  ·exact .inr ⟨g',cap',cur,h1,Nat.le_trans k h2,hr⟩
/-- The digits of a power under way. -/
structure PwAt (w W:World) (m k g c:Nat) (L:List Nat):Prop where
 len:L.length=k+1
 ok:dok L
 val:dval L=m ^ k
 own:DgB w.heap.size W g c L
 bel:Below w.heap.size w W
theorem PwAt.start (w:World) (m:Nat):PwAt w (w.alloc (.cells #[.int .u64 1] 112)) m 0 w.heap.size 1 [1] :=
 ⟨rfl,fun d hd=>by simp at hd;omega,rfl,⟨World.ownsRow_lit w #[.int .u64 1] 1 (Nat.le_refl _) (by decide) rfl⟩,below_alloc (Below.refl _ _) _⟩
theorem PwAt.next {w W W':World} {m k g c g' c':Nat} {L L':List Nat} (h:PwAt w W m k g c L) (h1:L'.length=L.length+1) (h2:dok L') (h3:dval L'=dval L*m) (h4:DgB W.heap.size W' g' c' L') (h5:Below W.heap.size W W'):PwAt w W' m (k+1) g' c' L' :=
 ⟨by rw [h1,h.len],h2,by rw [h3,h.val,Nat.pow_succ],h4.low h.bel.size,below_step h.bel h5⟩

set_option maxHeartbeats 2000000 in
theorem span_power (v:Int) (n:Nat) (hv:ok v) (h1:1<=n) (hn:n<=16) (w:World) :
  Calls Tryz.prog 74 #[.int .i64 v,.int .i64 (n:Int)] w fun e w'=>e=.returned (.tuple #[.int .i64 (pwr v n).1,.int .i64 (pwr v n).2.1,.int .i64 (pwr v n).2.2])/\Below w.heap.size w w':=by
 obtain ⟨m,hm⟩:∃m,m=v.natAbs:=⟨_,rfl⟩
 have hm1:max v (-v)=(m:Int):=by omega
 obtain ⟨hv1,hv2⟩:=hv
 have hm2:m<=4503599627370496:=by omega
 have HM:=Lib.hid hm
 clear hm
 have HP:=Lib.hid (PwAt.start w m)
 have HE:=Lib.hid (fun (l:List Nat) (sh q:Nat) (r:Bool) h hl hs hq=>@pwr_hi v n l sh q r h hl hs hq)
 have HB:=Lib.hid (fun (l:List Nat) (sh q:Nat) (r f:Bool) h hl hs hq=>@pwr_hi_bad v n l sh q r f h hl hs hq)
 rw [←HM.out] at HE HB
 obtain ⟨P,hP⟩:∃P,P=pwr v n:=⟨_,rfl⟩
 rw [←hP] at HE HB ⊢
 clear hP
 go_enter Tryz.func74,Tryz.ntmps74
 go_upto_region 4 with (fail)
 go_loopw [8,19] (fun dv i wr=>∃k g c:Nat,k<=n/\i=.int .i64 k/\dv=.slice (some ⟨g,0,none⟩) (k+1) c/\∃L:List Nat,Hid (PwAt w wr m k g c L)) (fun _ i _=>n-(intOf i).toNat)
 case atStart=>exact ⟨0,_,_,by omega,rfl,rfl,[1],HP⟩
 case round =>
  clear HP
  obtain ⟨k,g,c,hk,rfl,rfl,L,HI⟩:=hrel
  rcases Nat.lt_or_ge k n with hk' | hk'
  ·have HT:=Lib.hid (fun W hD=>dig_times L m g c W hD (by rw [HI.out.len];omega) (by omega))
   rw [HI.out.len] at HT
   go_wp2_with fail
   refine (HT.out _ (HI.out.own.dg HI.out.ok)).mono ?_
   rintro e w2 ⟨g2,c2,L2,rfl,h1,h2,h3,h4,h5⟩
   have HI2:=Lib.hid (HI.out.next (by rw [h1,HI.out.len]) h2 h3 h4 h5)
   clear h1 h2 h3 h4 h5
   go_wp2_with fail
   go_roundw
   case rel=>exact ⟨k+1,g2,c2,by omega,by go_num,rfl,L2,HI2⟩
   case measure=>simp [intOf];omega
  ·obtain rfl:k=n:=by omega
   have HT:=Lib.hid (fun W hD=>dig_high L k g c W hD (by rw [HI.out.len];omega) hn h1)
   rw [HI.out.len] at HT
   go_wp2_with fail
   refine (HT.out _ (HI.out.own.dg HI.out.ok)).mono ?_
   rintro e w2 ⟨⟨q,r,f,rfl,hH⟩,hbel⟩
   have HBW:=Lib.hid (below_step HI.out.bel hbel)
   have HH:=Lib.hid hH
   clear hbel hH
   cases f with
   | false =>
    have HPP:=Lib.hid (HB.out _ _ _ _ _ HH.out HI.out.val rfl (.inl rfl))
    go_wp2_with fail
    exact bodyPost_ret (v:=.tuple #[.int .i64 0,.int .i64 0,.int .i64 6]) (by simp [results,Tryz.results74,go_sem]) rfl ⟨by rw [HPP.out],HBW.out⟩
   | true =>
    by_cases hq:q<=4503599627370496
    ·have HPP:=Lib.hid (HE.out _ _ _ _ HH.out HI.out.val rfl hq)
     have d1:decide ((4503599627370496:Int)<(q:Int))=false:=by simp;omega
     by_cases hv0:v<0
     ·have d2:decide (v<0)=true:=by simp;omega
      by_cases ho:k % 2=1
      ·have d3:((k:Int) % 2==1)=true:=by simp;omega
       have d4:decide (k % 2=1)=true:=by simp [ho]
       clear hv0 ho
       cases r with
       | true =>
        go_wp2_with fail
        exact bodyPost_ret (v:=.tuple #[.int .i64 (-((q:Int)+1)),.int .i64 (-(q:Int)),.int .i64 0]) (by simp [results,Tryz.results74,go_sem]) rfl ⟨by rw [HPP.out];simp [d2,d4],HBW.out⟩
       | false =>
        go_wp2_with fail
        exact bodyPost_ret (v:=.tuple #[.int .i64 (-(q:Int)),.int .i64 (-(q:Int)),.int .i64 0]) (by simp [results,Tryz.results74,go_sem]) rfl ⟨by rw [HPP.out];simp [d2,d4],HBW.out⟩
      ·have d3:((k:Int) % 2==1)=false:=by simp;omega
       have d4:decide (k % 2=1)=false:=by simp [ho]
       clear hv0 ho
       cases r with
       | true =>
        go_wp2_with fail
        exact bodyPost_ret (v:=.tuple #[.int .i64 (q:Int),.int .i64 ((q:Int)+1),.int .i64 0]) (by simp [results,Tryz.results74,go_sem]) rfl ⟨by rw [HPP.out];simp [d2,d4],HBW.out⟩
       | false =>
        go_wp2_with fail
        exact bodyPost_ret (v:=.tuple #[.int .i64 (q:Int),.int .i64 (q:Int),.int .i64 0]) (by simp [results,Tryz.results74,go_sem]) rfl ⟨by rw [HPP.out];simp [d2,d4],HBW.out⟩
     ·have d2:decide (v<0)=false:=by simp;omega
      clear hv0
      cases r with
      | true =>
       go_wp2_with fail
       exact bodyPost_ret (v:=.tuple #[.int .i64 (q:Int),.int .i64 ((q:Int)+1),.int .i64 0]) (by simp [results,Tryz.results74,go_sem]) rfl ⟨by rw [HPP.out];simp [d2],HBW.out⟩
      | false =>
       go_wp2_with fail
       exact bodyPost_ret (v:=.tuple #[.int .i64 (q:Int),.int .i64 (q:Int),.int .i64 0]) (by simp [results,Tryz.results74,go_sem]) rfl ⟨by rw [HPP.out];simp [d2],HBW.out⟩
    ·have HPP:=Lib.hid (HB.out _ _ _ _ _ HH.out HI.out.val rfl (.inr (by omega)))
     have d1:decide ((4503599627370496:Int)<(q:Int))=true:=by simp;omega
     go_wp2_with fail
     exact bodyPost_ret (v:=.tuple #[.int .i64 0,.int .i64 0,.int .i64 6]) (by simp [results,Tryz.results74,go_sem]) rfl ⟨by rw [HPP.out],HBW.out⟩
end Go.Proofs.YthhkcfpljgdnhaaGreat

/- Contracts of package span: Pow, Sqr. Printed by wip/genSP.py. -/
namespace Mnc
open Go
theorem pwr_err (v:Int) (n:Nat):(pwr v n).2.2=0/\v.natAbs ^ n / pDen n<=4503599627370496∨((pwr v n).2.2==0)=false/\¬v.natAbs ^ n / pDen n<=4503599627370496:=by
 by_cases h:v.natAbs ^ n / pDen n<=4503599627370496
 ·exact .inl ⟨by rw [pwr_ok h],h⟩
 ·exact .inr ⟨by rw [pwr_bad h];rfl,h⟩
theorem sPow_arg {s:Int×Int} {n:Int} (h:okS s) (hn:n<0∨16<n):sPow s n=((0,0),2):=by rw [sPow,if_pos h,if_pos hn]
theorem sPow_zero {s:Int×Int} (h:okS s):sPow s 0=((4294967296,4294967296),0):=by rw [sPow,if_pos h,if_neg (by omega),if_pos rfl]
theorem sPow_even {s:Int×Int} {n:Nat} (h:okS s) (h1:1<=n) (hn:n<=16) (he:n % 2=0):sPow s (n:Int)=pw (sAbs s).1 n:=by rw [sPow,if_pos h,if_neg (by omega),if_neg (by omega),if_pos (by omega)];rfl
theorem sPow_odd {s:Int×Int} {n:Nat} (h:okS s) (h1:1<=n) (hn:n<=16) (he:n % 2=1):sPow s (n:Int)=pw s n:=by rw [sPow,if_pos h,if_neg (by omega),if_neg (by omega),if_neg (by omega)];rfl
theorem sPow_bad {s:Int×Int} {n:Int} (h:¬okS s):sPow s n=((0,0),20):=by rw [sPow,if_neg h]
theorem sAbs_ok {s:Int×Int} (h:okS s):okS (sAbs s).1/\0<=(sAbs s).1.1:=by
 have e:sAbs s=_:=on1_ok h
 obtain ⟨h1,h2,h3⟩:=h
 rw [e]
 simp only
 exact ⟨⟨by omega,by omega,by omega⟩,by omega⟩
end Mnc
namespace Go.Proofs.YthhkcfpljgdnhaaGreat
open Go.RowKit Mnc

set_option maxHeartbeats 2000000 in
theorem span_Pow_bad (s:Int×Int) (n:Int) (hs:¬okS s) (w:World) :
  Calls Tryz.prog 42 #[.agg #[.int .i64 s.1,.int .i64 s.2],.int .i64 n] w fun e w'=>e=.returned (.tuple #[.agg #[.int .i64 (sPow s n).1.1,.int .i64 (sPow s n).1.2],.int .i64 (sPow s n).2])/\Below w.heap.size w w':=by
 have hB:=Bx2.start w s (0,0)
 have H:=Lib.hid hs
 have HR:=Lib.hid (sPow_bad (n:=n) hs)
 clear hs
 go_enter Tryz.func42,Tryz.ntmps42
 go_wp2_with fail
 refine (span_Check_bad H.out _).mono ?_;rintro e w2 ⟨rfl,hbel⟩
 have hB:=hB.on hbel
 clear hbel
 have c0:=cell_two0 hB.b1
 have c1:=cell_two1 hB.b1
 have f0:=free_two (i:=0) hB.b1
 have f1:=free_two (i:=1) hB.b1
 have l2:=lt_of_block hB.b1
 go_wp2_with fail
 exact bodyPost_ret (v:=.tuple #[.agg #[.int .i64 0,.int .i64 0],.int .i64 20]) (by simp [results,Tryz.results42,go_sem,c0,c1]) rfl ⟨ret_sp HR.out,below_set2 hB.bel (by omega) _ _⟩

set_option maxHeartbeats 2000000 in
theorem span_Pow_low (s:Int×Int) (n:Int) (hs:okS s) (hn:n<0) (w:World) :
  Calls Tryz.prog 42 #[.agg #[.int .i64 s.1,.int .i64 s.2],.int .i64 n] w fun e w'=>e=.returned (.tuple #[.agg #[.int .i64 (sPow s n).1.1,.int .i64 (sPow s n).1.2],.int .i64 (sPow s n).2])/\Below w.heap.size w w':=by
 have hB:=Bx2.start w s (0,0)
 have H:=Lib.hid hs
 have HR:=Lib.hid (sPow_arg (n:=n) hs (.inl hn))
 clear hs
 go_enter Tryz.func42,Tryz.ntmps42
 go_wp2_with fail
 refine (span_Check_ok H.out _).mono ?_;rintro e w2 ⟨rfl,hbel⟩
 have hB:=hB.on hbel
 clear hbel
 have c0:=cell_two0 hB.b1
 have c1:=cell_two1 hB.b1
 have f0:=free_two (i:=0) hB.b1
 have f1:=free_two (i:=1) hB.b1
 have l2:=lt_of_block hB.b1
 go_wp2_with fail
 exact bodyPost_ret (v:=.tuple #[.agg #[.int .i64 0,.int .i64 0],.int .i64 2]) (by simp [results,Tryz.results42,go_sem,c0,c1]) rfl ⟨ret_sp HR.out,below_set2 hB.bel (by omega) _ _⟩

set_option maxHeartbeats 2000000 in
theorem span_Pow_high (s:Int×Int) (n:Int) (hs:okS s) (hn:16<n) (w:World) :
  Calls Tryz.prog 42 #[.agg #[.int .i64 s.1,.int .i64 s.2],.int .i64 n] w fun e w'=>e=.returned (.tuple #[.agg #[.int .i64 (sPow s n).1.1,.int .i64 (sPow s n).1.2],.int .i64 (sPow s n).2])/\Below w.heap.size w w':=by
 have hB:=Bx2.start w s (0,0)
 have H:=Lib.hid hs
 have HR:=Lib.hid (sPow_arg (n:=n) hs (.inr hn))
 have d1:decide (n<0)=false:=by simp;omega
 clear hs
 go_enter Tryz.func42,Tryz.ntmps42
 go_wp2_with fail
 refine (span_Check_ok H.out _).mono ?_;rintro e w2 ⟨rfl,hbel⟩
 have hB:=hB.on hbel
 clear hbel
 have c0:=cell_two0 hB.b1
 have c1:=cell_two1 hB.b1
 have f0:=free_two (i:=0) hB.b1
 have f1:=free_two (i:=1) hB.b1
 have l2:=lt_of_block hB.b1
 go_wp2_with fail
 exact bodyPost_ret (v:=.tuple #[.agg #[.int .i64 0,.int .i64 0],.int .i64 2]) (by simp [results,Tryz.results42,go_sem,c0,c1]) rfl ⟨ret_sp HR.out,below_set2 hB.bel (by omega) _ _⟩

set_option maxHeartbeats 2000000 in
theorem span_Pow_zero (s:Int×Int) (hs:okS s) (w:World) :
  Calls Tryz.prog 42 #[.agg #[.int .i64 s.1,.int .i64 s.2],.int .i64 0] w fun e w'=>e=.returned (.tuple #[.agg #[.int .i64 (sPow s 0).1.1,.int .i64 (sPow s 0).1.2],.int .i64 (sPow s 0).2])/\Below w.heap.size w w':=by
 have hB:=Bx2.start w s (0,0)
 have H:=Lib.hid hs
 have HR:=Lib.hid (sPow_zero hs)
 clear hs
 go_enter Tryz.func42,Tryz.ntmps42
 go_wp2_with fail
 refine (span_Check_ok H.out _).mono ?_;rintro e w2 ⟨rfl,hbel⟩
 have hB:=hB.on hbel
 clear hbel
 go_wp2_with fail
 refine (span_Point _ _).mono ?_;rintro e w3 ⟨rfl,hbel⟩
 rw [sOf_ok (show okS (4294967296,4294967296) from ⟨by decide,by decide,by decide⟩)]
 have hB:=hB.on hbel
 clear hbel
 have c0:=cell_two0 hB.b1
 have c1:=cell_two1 hB.b1
 have f0:=free_two (i:=0) hB.b1
 have f1:=free_two (i:=1) hB.b1
 have l2:=lt_of_block hB.b1
 go_wp2_with fail
 exact bodyPost_ret (v:=.tuple #[.agg #[.int .i64 4294967296,.int .i64 4294967296],.int .i64 0]) (by simp [results,Tryz.results42,go_sem,c0,c1]) rfl ⟨ret_sp HR.out,below_set2 hB.bel (by omega) _ _⟩

set_option maxHeartbeats 2000000 in
theorem span_Pow_odd (s:Int×Int) (n:Nat) (hs:okS s) (h1:1<=n) (hn:n<=16) (ho:n % 2=1) (w:World) :
  Calls Tryz.prog 42 #[.agg #[.int .i64 s.1,.int .i64 s.2],.int .i64 (n:Int)] w fun e w'=>e=.returned (.tuple #[.agg #[.int .i64 (sPow s (n:Int)).1.1,.int .i64 (sPow s (n:Int)).1.2],.int .i64 (sPow s (n:Int)).2])/\Below w.heap.size w w':=by
 have hB:=Bx2.start w s (0,0)
 have H:=Lib.hid hs
 have HR:=Lib.hid (sPow_odd hs h1 hn ho)
 have HP1:=Lib.hid (fun W=>span_power s.1 n hs.lo h1 hn W)
 have HP2:=Lib.hid (fun W=>span_power s.2 n hs.hi h1 hn W)
 have HX:=Lib.hid (fun hb=>pw_bad (a:=s) (n:=n) hs.2.1 (.inl ho) hb)
 have HO:=Lib.hid (fun k1 k2=>pw_ok (a:=s) (n:=n) k1 k2)
 have hE1:=pwr_err s.1 n
 have hE2:=pwr_err s.2 n
 generalize pwr s.1 n=p1 at *
 generalize pwr s.2 n=p2 at *
 have d3:((n:Int) % 2==0)=false:=by simp;omega
 have d4:((n:Int)==0)=false:=by simp;omega
 clear hs
 go_enter Tryz.func42,Tryz.ntmps42
 go_wp2_with fail
 refine (span_Check_ok H.out _).mono ?_;rintro e w2 ⟨rfl,hbel⟩
 have hB:=hB.on hbel
 clear hbel
 have a0:=cell_two0 hB.b0
 have a1:=cell_two1 hB.b0
 go_wp2_with fail
 refine (HP1.out _).mono ?_;rintro e w4 ⟨rfl,hbel⟩
 have hB:=hB.on hbel
 clear hbel a0 a1
 have a0:=cell_two0 hB.b0
 have a1:=cell_two1 hB.b0
 go_wp2_with fail
 refine (HP2.out _).mono ?_;rintro e w5 ⟨rfl,hbel⟩
 have hB:=hB.on hbel
 clear hbel a0 a1
 rcases hE1 with ⟨z1,k1⟩ | ⟨z1,k1⟩
 ·rcases hE2 with ⟨z2,k2⟩ | ⟨z2,k2⟩
  ·have HR2:=Lib.hid (HR.out.trans (HO.out k1 k2))
   clear k1 k2
   go_wp2_with fail
   refine (span_told _ _ _).mono ?_;rintro e w6 ⟨rfl,hbel⟩
   rw [←HR2.out]
   have hB:=hB.on hbel
   clear hbel
   have c0:=cell_two0 hB.b1
   have c1:=cell_two1 hB.b1
   have f0:=free_two (i:=0) hB.b1
   have f1:=free_two (i:=1) hB.b1
   have l2:=lt_of_block hB.b1
   go_wp2_with fail
   exact bodyPost_ret (v:=.tuple #[.agg #[.int .i64 (sPow s (n:Int)).1.1,.int .i64 (sPow s (n:Int)).1.2],.int .i64 (sPow s (n:Int)).2]) (by simp [results,Tryz.results42,go_sem,c0,c1]) rfl ⟨rfl,below_set2 hB.bel (by omega) _ _⟩
  ·have c0:=cell_two0 hB.b1
   have c1:=cell_two1 hB.b1
   have f0:=free_two (i:=0) hB.b1
   have f1:=free_two (i:=1) hB.b1
   have l2:=lt_of_block hB.b1
   go_wp2_with fail
   exact bodyPost_ret (v:=.tuple #[.agg #[.int .i64 0,.int .i64 0],.int .i64 6]) (by simp [results,Tryz.results42,go_sem,c0,c1]) rfl ⟨ret_sp (HR.out.trans (HX.out (fun hh=>k2 hh.2))),below_set2 hB.bel (by omega) _ _⟩
 ·have c0:=cell_two0 hB.b1
  have c1:=cell_two1 hB.b1
  have f0:=free_two (i:=0) hB.b1
  have f1:=free_two (i:=1) hB.b1
  have l2:=lt_of_block hB.b1
  go_wp2_with fail
  exact bodyPost_ret (v:=.tuple #[.agg #[.int .i64 0,.int .i64 0],.int .i64 6]) (by simp [results,Tryz.results42,go_sem,c0,c1]) rfl ⟨ret_sp (HR.out.trans (HX.out (fun hh=>k1 hh.1))),below_set2 hB.bel (by omega) _ _⟩

set_option maxHeartbeats 2000000 in
theorem span_Pow_even (s:Int×Int) (n:Nat) (hs:okS s) (h1:1<=n) (hn:n<=16) (ho:n % 2=0) (w:World) :
  Calls Tryz.prog 42 #[.agg #[.int .i64 s.1,.int .i64 s.2],.int .i64 (n:Int)] w fun e w'=>e=.returned (.tuple #[.agg #[.int .i64 (sPow s (n:Int)).1.1,.int .i64 (sPow s (n:Int)).1.2],.int .i64 (sPow s (n:Int)).2])/\Below w.heap.size w w':=by
 have hB:=Bx2.start w s (0,0)
 have H:=Lib.hid hs
 have HR:=Lib.hid (sPow_even hs h1 hn ho)
 have hA:=sAbs_ok hs
 have HAb:=Lib.hid (fun W=>span_Abs s W)
 generalize sAbs s=ab at *
 obtain ⟨A,hAA⟩:∃A,A=ab.1:=⟨_,rfl⟩
 rw [←hAA] at HR hA HAb
 have HP1:=Lib.hid (fun W=>span_power A.1 n hA.1.lo h1 hn W)
 have HP2:=Lib.hid (fun W=>span_power A.2 n hA.1.hi h1 hn W)
 have HX:=Lib.hid (fun hb=>pw_bad (a:=A) (n:=n) hA.1.2.1 (.inr hA.2) hb)
 have HO:=Lib.hid (fun k1 k2=>pw_ok (a:=A) (n:=n) k1 k2)
 have hE1:=pwr_err A.1 n
 have hE2:=pwr_err A.2 n
 generalize pwr A.1 n=p1 at *
 generalize pwr A.2 n=p2 at *
 have d3:((n:Int) % 2==0)=true:=by simp;omega
 have d4:((n:Int)==0)=false:=by simp;omega
 clear hs hA hAA
 go_enter Tryz.func42,Tryz.ntmps42
 go_wp2_with fail
 refine (span_Check_ok H.out _).mono ?_;rintro e w2 ⟨rfl,hbel⟩
 have hB:=hB.on hbel
 clear hbel
 have a0:=cell_two0 hB.b0
 have a1:=cell_two1 hB.b0
 have g0:=free_two (i:=0) hB.b0
 have g1:=free_two (i:=1) hB.b0
 have l0:=lt_of_block hB.b0
 go_wp2_with fail
 refine (HAb.out _).mono ?_;rintro e w3 ⟨rfl,hbel⟩
 have hB:=hB.on hbel
 clear hbel a0 a1 g0 g1 l0
 have a0:=cell_two0 hB.b0
 have a1:=cell_two1 hB.b0
 have g0:=free_two (i:=0) hB.b0
 have g1:=free_two (i:=1) hB.b0
 have l0:=lt_of_block hB.b0
 have hB2:=hB.set A.1 A.2
 have HB2:=Lib.hid hB2
 clear hB hB2
 go_upto_region 10 with (fail)
 have hB:=HB2.out
 generalize (w3.setCell ⟨w.heap.size,0,none⟩ (.int .i64 A.1)).setCell ⟨w.heap.size,1,none⟩ (.int .i64 A.2)=W3 at *
 clear HB2 a0 a1 g0 g1 l0
 have a0:=cell_two0 hB.b0
 have a1:=cell_two1 hB.b0
 go_wp2_with fail
 refine (HP1.out _).mono ?_;rintro e w4 ⟨rfl,hbel⟩
 have hB:=hB.on hbel
 clear hbel a0 a1
 have a0:=cell_two0 hB.b0
 have a1:=cell_two1 hB.b0
 go_wp2_with fail
 refine (HP2.out _).mono ?_;rintro e w5 ⟨rfl,hbel⟩
 have hB:=hB.on hbel
 clear hbel a0 a1
 rcases hE1 with ⟨z1,k1⟩ | ⟨z1,k1⟩
 ·rcases hE2 with ⟨z2,k2⟩ | ⟨z2,k2⟩
  ·have HR2:=Lib.hid (HR.out.trans (HO.out k1 k2))
   clear k1 k2
   go_wp2_with fail
   refine (span_told _ _ _).mono ?_;rintro e w6 ⟨rfl,hbel⟩
   rw [←HR2.out]
   have hB:=hB.on hbel
   clear hbel
   have c0:=cell_two0 hB.b1
   have c1:=cell_two1 hB.b1
   have f0:=free_two (i:=0) hB.b1
   have f1:=free_two (i:=1) hB.b1
   have l2:=lt_of_block hB.b1
   go_wp2_with fail
   exact bodyPost_ret (v:=.tuple #[.agg #[.int .i64 (sPow s (n:Int)).1.1,.int .i64 (sPow s (n:Int)).1.2],.int .i64 (sPow s (n:Int)).2]) (by simp [results,Tryz.results42,go_sem,c0,c1]) rfl ⟨rfl,below_set2 hB.bel (by omega) _ _⟩
  ·have c0:=cell_two0 hB.b1
   have c1:=cell_two1 hB.b1
   have f0:=free_two (i:=0) hB.b1
   have f1:=free_two (i:=1) hB.b1
   have l2:=lt_of_block hB.b1
   go_wp2_with fail
   exact bodyPost_ret (v:=.tuple #[.agg #[.int .i64 0,.int .i64 0],.int .i64 6]) (by simp [results,Tryz.results42,go_sem,c0,c1]) rfl ⟨ret_sp (HR.out.trans (HX.out (fun hh=>k2 hh.2))),below_set2 hB.bel (by omega) _ _⟩
 ·have c0:=cell_two0 hB.b1
  have c1:=cell_two1 hB.b1
  have f0:=free_two (i:=0) hB.b1
  have f1:=free_two (i:=1) hB.b1
  have l2:=lt_of_block hB.b1
  go_wp2_with fail
  exact bodyPost_ret (v:=.tuple #[.agg #[.int .i64 0,.int .i64 0],.int .i64 6]) (by simp [results,Tryz.results42,go_sem,c0,c1]) rfl ⟨ret_sp (HR.out.trans (HX.out (fun hh=>k1 hh.1))),below_set2 hB.bel (by omega) _ _⟩

theorem span_Pow (s:Int×Int) (n:Int) (w:World) :
  Calls Tryz.prog 42 #[.agg #[.int .i64 s.1,.int .i64 s.2],.int .i64 n] w fun e w'=>e=.returned (.tuple #[.agg #[.int .i64 (sPow s n).1.1,.int .i64 (sPow s n).1.2],.int .i64 (sPow s n).2])/\Below w.heap.size w w':=by
 by_cases hs:okS s
 ·rcases Int.lt_or_le n 0 with h0 | h0
  ·exact span_Pow_low s n hs h0 w
  ·rcases Int.lt_or_le 16 n with h16 | h16
   ·exact span_Pow_high s n hs h16 w
   ·obtain ⟨k,rfl⟩:=Int.eq_ofNat_of_zero_le h0
    rcases Nat.eq_zero_or_pos k with rfl | hk
    ·exact span_Pow_zero s hs w
    ·rcases Nat.mod_two_eq_zero_or_one k with hm | hm
     ·exact span_Pow_even s k hs hk (by omega) hm w
     ·exact span_Pow_odd s k hs hk (by omega) hm w
 ·exact span_Pow_bad s n hs w
end Go.Proofs.YthhkcfpljgdnhaaGreat
