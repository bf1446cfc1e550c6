/- Rows of digits to the base 65536 of the reference of layer 2; its parts. Printed by wip/genRP.py. -/
import Derived.Test.YthhkcfpljgdnhaaGreatRefSX
import Derived.Test.YthhkcfpljgdnhaaGreatPowX
import Derived.Laws.OwnMore
import Derived.Deep.QuietTactic
import Derived.BigQuiet
import Derived.Test.YthhkcfpljgdnhaaGreatPl
set_option maxRecDepth 100000
set_option maxHeartbeats 4000000
namespace Mnc
open Go
/-- Digits to the base 65536, the least significant one first. -/
def iok (l:List Nat):Prop:=∀x∈l,x<65536
def ival:List Nat->Nat
 | []=>0
 | x::l=>x+65536*ival l
theorem ival_append (l m:List Nat):ival (l++m)=ival l+65536 ^ l.length*ival m:=by
 induction l with
 | nil=>simp [ival]
 | cons x l ih =>
  simp only [List.cons_append,ival,ih,List.length_cons,Nat.pow_succ,Nat.mul_add]
  rw [Nat.mul_comm (65536 ^ l.length) 65536,Nat.mul_assoc,Nat.add_assoc]
theorem iok_append {l m:List Nat} (h:iok l) (k:iok m):iok (l++m):=fun x hx=>by
 rcases List.mem_append.1 hx with hx | hx
 ·exact h x hx
 ·exact k x hx
/-- What parts has done when v is left of V. -/
structure PtAt (V v:Nat) (l:List Nat):Prop where
 ok:iok l
 val:ival l+65536 ^ l.length*v=V
theorem ptAt_start (V:Nat):PtAt V V []:=⟨(fun _ h=>by cases h),by simp [ival]⟩
theorem ptAt_next {V v:Nat} {l:List Nat} (h:PtAt V v l):PtAt V (v / 65536) (l++[v % 65536]) where
 ok:=iok_append h.ok (fun x hx=>by rw [List.mem_singleton] at hx;omega)
 val:=by
  rw [ival_append,←h.val]
  simp only [ival,Nat.mul_zero,Nat.add_zero,List.length_append,List.length_cons,List.length_nil,Nat.zero_add,Nat.pow_succ,Nat.add_assoc]
  congr 1
  rw [Nat.mul_assoc,←Nat.mul_add]
  congr 1
  omega
theorem ptAt_len {V v:Nat} {l:List Nat} (h:PtAt V v l) (hV:V<=4503599627370496) (hv:0<v):l.length<=3:=by
 apply Nat.le_of_not_lt
 intro hl
 have h1:65536 ^ 4<=65536 ^ l.length:=Nat.pow_le_pow_right (by decide) hl
 have h2:65536 ^ l.length*1<=65536 ^ l.length*v:=Nat.mul_le_mul_left _ hv
 have:=h.val
 have e:(65536 ^ 4:Nat)=18446744073709551616:=by decide
 omega
end Mnc
namespace Go.Proofs.YthhkcfpljgdnhaaGreat
open Go.RowKit Mnc

theorem i64Info:(Tryz.prog.info? 3).map (fun i=>(i.zero,i.size,i.bytes))=some (some (.int .i64 0),1,8):=by kernel_rfl
theorem i64_parts:∃i0,Tryz.prog.info? 3=some i0/\i0.zero=some (.int .i64 0)/\i0.size=1/\i0.bytes=8:=by
 have h:=i64Info
 rw [Option.map_eq_some_iff] at h
 obtain ⟨i,h1,h2⟩:=h
 simp only [Prod.mk.injEq] at h2
 exact ⟨i,h1,h2.1,h2.2.1,h2.2.2⟩
theorem addr_plainI (g off j:Nat):(⟨g,off,none⟩:Addr).add j=⟨g,off+j,none⟩:=by
 unfold Addr.add
 split<;>simp_all
def encI (x:Nat):Value:=.int .i64 (x:Int)

/-- The digits that a slice shows. -/
structure IgAt (W:World) (b cap:Nat) (l:List Nat):Prop where
 le:l.length<=cap
 cmax:cap<=maxLen
 lt:b<W.heap.size
 ok:iok l
 cells:∀i (x:Nat),l[i]?=some x->W.cell? ⟨b,i,none⟩=some (.int .i64 (x:Int))
theorem IgAt.on {W W':World} {b cap:Nat} {l:List Nat} (h:IgAt W b cap l) (k:Below W.heap.size W W'):IgAt W' b cap l :=
 ⟨h.le,h.cmax,Nat.lt_of_lt_of_le h.lt k.size,h.ok,fun i x hx=>(k.cell (p:=⟨b,i,none⟩) h.lt).trans (h.cells i x hx)⟩

/-- A row of digits of the call's own. -/
structure IgB (n₀:Nat) (W:World) (g cap:Nat) (L:List Nat):Prop where
 own:W.ownsRow n₀ 3 1 (.slice (some ⟨g,0,none⟩) L.length cap) L.length (L.map encI)
theorem IgB.lt {n₀:Nat} {W:World} {g cap:Nat} {L:List Nat} (h:IgB n₀ W g cap L):n₀<=g/\g<W.heap.size:=h.own.lt g rfl
theorem IgB.caps {n₀:Nat} {W:World} {g cap:Nat} {L:List Nat} (h:IgB n₀ W g cap L):L.length<=cap/\cap<=maxLen:=by
 rcases h.own.2 with ⟨h',_⟩ | ⟨g',cap',cur,h',_,_,h1,h2,_⟩
 ·simp at h'
 ·simp only [Value.slice.injEq,Option.some.injEq,Addr.mk.injEq,and_true,true_and] at h'
  obtain ⟨rfl,rfl⟩:=h'
  exact ⟨h1,h2⟩
theorem IgB.on {n₀:Nat} {W W':World} {g cap:Nat} {L:List Nat} (h:IgB n₀ W g cap L) (k:Below W.heap.size W W'):IgB n₀ W' g cap L where
 own:=by
  have hlt:=h.lt.2
  refine ⟨h.own.1,?_⟩
  rcases h.own.2 with ⟨h',_⟩ | ⟨g',cap',cur,h',hb,hg,hr⟩
  ·simp at h'
  ·have e:=h'
   simp only [Value.slice.injEq,Option.some.injEq,Addr.mk.injEq,and_true,true_and] at e
   obtain ⟨rfl,rfl⟩:=e
   exact .inr ⟨g,cap,cur,rfl,hb,(k.block _ hlt).trans hg,hr⟩
theorem IgB.at {n₀:Nat} {W:World} {g cap i x:Nat} {L:List Nat} (h:IgB n₀ W g cap L) (hx:L[i]?=some x):W.cell? ⟨g,i,none⟩=some (.int .i64 (x:Int)):=by
 have hi:=(List.getElem?_eq_some_iff.1 hx).1
 rw [h.own.cellAt i (by omega),List.getElem?_map,hx]
 rfl
theorem IgB.dg {n₀:Nat} {W:World} {g cap:Nat} {L:List Nat} (h:IgB n₀ W g cap L) (ho:iok L):IgAt W g cap L :=
 ⟨h.caps.1,h.caps.2,h.lt.2,ho,fun _ _ hx=>h.at hx⟩
theorem IgB.free {n₀:Nat} {W:World} {g cap:Nat} {L:List Nat} (h:IgB n₀ W g cap L) (i:Nat):W.frozen? ⟨g,i,none⟩=false:=by
 rcases h.own.2 with ⟨h',_⟩ | ⟨g',cap',cur,h',_,hg,_⟩
 ·simp at h'
 ·simp only [Value.slice.injEq,Option.some.injEq,Addr.mk.injEq,and_true,true_and] at h'
  obtain ⟨rfl,rfl⟩:=h'
  simp [World.frozen?,hg]
theorem IgB.set {n₀:Nat} {W:World} {g cap i x:Nat} {L:List Nat} (h:IgB n₀ W g cap L) (_:i<L.length):IgB n₀ (W.setCell ⟨g,i,none⟩ (.int .i64 (x:Int))) g cap (L.set i x) where
 own:=by
  rw [List.length_set]
  refine ⟨by simp,?_⟩
  rcases h.own.2 with ⟨h',_⟩ | ⟨g',cap',cur,h',hb,hg,h1,h2,h3,h4⟩
  ·simp at h'
  ·have e:=h'
   simp only [Value.slice.injEq,Option.some.injEq,Addr.mk.injEq,and_true,true_and] at e
   obtain ⟨rfl,rfl⟩:=e
   refine .inr ⟨g,cap,_,rfl,hb,heap_setCell_same _ _ _ _ _ _ hg,h1,h2,by simpa using h3,?_⟩
   rw [List.map_set,←h4]
   simp [List.take_set,encI]


/-- What lies when parts has made the digits l: nothing yet, or a row of its own. -/
def RowI (n₀:Nat) (W:World) (v:Value) (l:List Nat):Prop:=(v=.slice none 0 0/\l=[])∨∃g c:Nat,v=.slice (some ⟨g,0,none⟩) l.length c/\IgB n₀ W g c l
theorem RowI.row {n₀:Nat} {W:World} {v:Value} {l:List Nat} (h:RowI n₀ W v l):W.ownsRow n₀ 3 1 v l.length (l.map encI):=by
 rcases h with ⟨rfl,rfl⟩ | ⟨g,c,rfl,hb⟩
 ·exact World.ownsRow_nil _ _ _ _
 ·exact hb.own
theorem RowI.low {n₀ k:Nat} {W:World} {v:Value} {l:List Nat} (h:RowI n₀ W v l) (hk:v.ownBlock=some k):n₀<=k:=by
 rcases h with ⟨rfl,rfl⟩ | ⟨g,c,rfl,hb⟩
 ·cases hk
 ·simp [Value.ownBlock] at hk
  have:=hb.lt
  omega
set_option maxHeartbeats 2000000 in
theorem ref2_parts (V:Nat) (hV:V<=4503599627370496) (w:World) :
  Calls Tryz.prog 128 #[.int .i64 (V:Int)] w fun e w'=>∃v l,e=.returned v/\RowI w.heap.size w' v l/\iok l/\ival l=V/\l.length<=4/\Below w.heap.size w w':=by
 obtain ⟨i0,hi,hz0,hz1,hz2⟩:=i64_parts
 have HV:=Lib.hid hV
 go_enter Tryz.func128,Tryz.ntmps128
 go_wp2_with fail
 go_loopw [0,3] (fun a b wr=>∃(v:Nat) (l:List Nat),a=.int .i64 (v:Int)/\v<=V/\Hid (RowI w.heap.size wr b l/\PtAt V v l/\l.length<=4/\Below w.heap.size w wr)) (fun a _ _=>(intOf a).toNat)
 case atStart=>exact ⟨V,[],rfl,Nat.le_refl _,Lib.hid ⟨.inl ⟨rfl,rfl⟩,ptAt_start V,by simp,Below.refl _ _⟩⟩
 case round =>
  obtain ⟨v,l,rfl,hv,HI⟩:=hrel
  have hv2:(v:Int)<=4503599627370496:=by omega
  rcases Nat.eq_zero_or_pos v with h0 | h0
  ·subst h0
   go_wp2_with fail
   go_ret
   exact ⟨_,l,rfl,HI.out.1,HI.out.2.1.ok,by have:=HI.out.2.1.val;simpa using this,HI.out.2.2.1,HI.out.2.2.2⟩
  ·have hlen:=ptAt_len HI.out.2.1 HV.out h0
   have HX:=Lib.hid (ptAt_next HI.out.2.1)
   obtain ⟨X,hX⟩:∃X,X=v % 65536:=⟨_,rfl⟩
   obtain ⟨Y,hY⟩:∃Y,Y=v / 65536:=⟨_,rfl⟩
   rw [←hX,←hY] at HX
   have e1:(v:Int) % 65536=(X:Int):=by omega
   have e2:(v:Int) / 65536=(Y:Int):=by omega
   have hYv:Y<v:=by omega
   clear hX hY
   have hown:=HI.out.1.row
   have hB:=HI.out.2.2.2
   obtain ⟨n,hn⟩:∃n,n=l.length:=⟨_,rfl⟩
   rw [←hn] at hown hlen
   have HN:=Lib.hid hn
   clear hn
   go_wp2_with (at_builtin;refine wpList_append_own _ rfl _ _ 147 rfl w.heap.size 3 i0 (.int .i64 0) 1 8 Tryz.underlying147 hi hz0 hz1 hz2 rfl (by decide) _ _ _ rfl (hown.alloc (.cells #[.int .i64 (X:Int)] 3)) ⟨wr.heap.size,0,none⟩ 1 1 [.int .i64 (X:Int)] rfl ?qc1 ?qc2 ?qc3 ?qc4 ?qc5 ?qc6 ?_)
   case qc1=>rfl
   case qc2 =>
    intro j u hu
    match j,hu with
    | 0,hu =>
     simp at hu
     subst hu
     rw [addr_plainI]
     exact cell_of_one (heap_at _ rfl)
   case qc3 =>
    intro u hu
    simp at hu
    subst hu
    rfl
   case qc4=>unfold maxLen;omega
   case qc5=>omega
   case qc6 =>
    have:=hB.size
    simp
    omega
   intro v' w1 hown2 hgrow hnil
   obtain ⟨g2,c2,rfl⟩:=ownsRow_succ hown2
   have HB2:Hid (Below w.heap.size w w1):=Lib.hid ((hB.alloc (by have:=hB.size;omega) _).grown hgrow (by have:=hB.size;simp;omega) (fun k hk=>HI.out.1.low hk))
   have HR:Hid (RowI w.heap.size w1 (.slice (some ⟨g2,0,none⟩) (n+1) c2) (l++[X])):=Lib.hid (.inr ⟨g2,c2,by rw [List.length_append,←HN.out];rfl,⟨by rw [List.length_append,←HN.out,List.map_append];exact hown2⟩⟩)
   clear hown2 hgrow hnil hown hB
   go_wp2_with fail
   go_roundw
   case rel=>exact ⟨Y,l++[X],rfl,by omega,Lib.hid ⟨HR.out,HX.out,by rw [List.length_append,←HN.out];simp;omega,HB2.out⟩⟩
   case measure=>simp [intOf];omega
end Go.Proofs.YthhkcfpljgdnhaaGreat

/- Contract of the reference of layer 2: product of rows of digits. -/
namespace Mnc
open Go
theorem ival_take_succ {l:List Nat} {k x:Nat} (h:l[k]?=some x):ival (l.take (k+1))=ival (l.take k)+65536 ^ k*x:=by
 obtain ⟨hk,rfl⟩:=List.getElem?_eq_some_iff.1 h
 rw [List.take_add_one,ival_append,h]
 simp only [Option.toList_some,ival,Nat.mul_zero,Nat.add_zero,List.length_take,Nat.min_eq_left (Nat.le_of_lt hk)]
theorem ival_zeros (n:Nat):ival (List.replicate n 0)=0:=by
 induction n with
 | zero=>rfl
 | succ n ih=>rw [List.replicate_succ,ival,ih]
/-- The inner loop: k digits of S + A * l, and a carry. -/
structure InAt (S l:List Nat) (A k c:Nat) (Z:List Nat):Prop where
 len:Z.length=k
 ok:iok Z
 cb:c<65536
 val:ival Z+65536 ^ k*c=ival (S.take k)+A*ival (l.take k)
theorem inAt_start (S l:List Nat) (A:Nat):InAt S l A 0 0 []:=⟨rfl,(fun _ h=>by cases h),by decide,by simp [ival]⟩
theorem inAt_next {S l Z:List Nat} {A k c x b:Nat} (h:InAt S l A k c Z) (hx:S[k]?=some x) (hb:l[k]?=some b) (xo:x<65536) (bo:b<65536) (ao:A<65536) :
  InAt S l A (k+1) ((x+A*b+c) / 65536) (Z++[(x+A*b+c) % 65536])/\x+A*b+c<4294967296:=by
 have hab:A*b<=65535*65535:=Nat.mul_le_mul (by omega) (by omega)
 have hc:=h.cb
 refine ⟨⟨by simp [h.len],iok_append h.ok (fun y hy=>by rw [List.mem_singleton] at hy;omega),by omega,?_⟩,by omega⟩
 rw [ival_append,h.len,ival_take_succ hx,ival_take_succ hb,Nat.mul_add A]
 have hv:=h.val
 have e:A*(65536 ^ k*b)=65536 ^ k*(A*b):=by rw [←Nat.mul_assoc,Nat.mul_comm A,Nat.mul_assoc]
 have e2:65536 ^ (k+1)*((x+A*b+c) / 65536)=65536 ^ k*(65536*((x+A*b+c) / 65536)):=by rw [Nat.pow_succ,Nat.mul_assoc]
 simp only [ival,Nat.mul_zero,Nat.add_zero]
 rw [e,e2,Nat.add_assoc,←Nat.mul_add,Nat.mod_add_div]
 rw [Nat.mul_add,Nat.mul_add]
 omega
/-- The outer loop: i digits of a done; X the digits so far. -/
structure OutAt (a b:List Nat) (i:Nat) (X:List Nat):Prop where
 len:X.length=i+b.length
 ok:iok X
 val:ival X=ival (a.take i)*ival b
theorem outAt_start (a b:List Nat):OutAt a b 0 (List.replicate b.length 0):=⟨by simp,(fun x hx=>by rw [List.eq_of_mem_replicate hx];decide),by simp [ival_zeros,ival]⟩
theorem outAt_next {a b X Z:List Nat} {i c A:Nat} (h:OutAt a b i X) (hA:a[i]?=some A) (k:InAt (X.drop i) b A b.length c Z):OutAt a b (i+1) (X.take i++Z++[c]) where
 len:=by
  have:=h.len
  simp only [List.length_append,List.length_take,k.len,List.length_cons,List.length_nil]
  omega
 ok:=iok_append (iok_append (fun x hx=>h.ok x (List.mem_of_mem_take hx)) k.ok) (fun x hx=>by rw [List.mem_singleton] at hx;rw [hx];exact k.cb)
 val:=by
  have hl:(X.take i).length=i:=by have:=h.len;rw [List.length_take];omega
  have hd:(X.drop i).length=b.length:=by have:=h.len;rw [List.length_drop];omega
  have hv:=k.val
  rw [List.take_of_length_le (by omega),List.take_of_length_le (Nat.le_refl _)] at hv
  have hX:ival X=ival (X.take i)+65536 ^ i*ival (X.drop i):=by
   conv=>lhs;rw [←List.take_append_drop i X]
   rw [ival_append,hl]
  rw [List.append_assoc,ival_append,ival_append,hl,k.len,ival_take_succ hA]
  simp only [ival,Nat.mul_zero,Nat.add_zero]
  rw [hv,Nat.mul_add,←Nat.add_assoc,←hX,h.val,Nat.add_mul,Nat.mul_assoc]
theorem outAt_end {a b X:List Nat} (h:OutAt a b a.length X):ival X=ival a*ival b:=by
 rw [h.val,List.take_of_length_le (Nat.le_refl _)]
end Mnc
namespace Go.Proofs.YthhkcfpljgdnhaaGreat
open Go.RowKit Mnc

theorem made_zeros (N:Nat):(madeCells (Value.int .i64 0).cells (N*1)).toList=(List.replicate N 0).map encI:=by
 rw [Nat.mul_one]
 apply List.ext_getElem
 ·simp [size_madeCells]
 ·intro i h1 h2
  simp [madeCells,Value.cells,encI,Nat.mod_one]
theorem at_midI {p z r:List Nat} {x:Nat} {k:Nat} (h:p.length+z.length=k):(p++z++x::r)[k]?=some x:=by
 subst h
 rw [List.getElem?_append_right (by simp)]
 simp
theorem set_midI {p z r:List Nat} {x y:Nat} {k:Nat} (h:p.length+z.length=k):(p++z++x::r).set k y=p++(z++[y])++r:=by
 subst h
 rw [List.set_append_right _ _ (by simp)]
 simp

theorem take_drop_nil {X:List Nat} {j:Nat} (r:List Nat):X.take j++[]++((X.drop j).drop 0++r)=X++r:=by
 rw [List.append_nil,List.drop_zero,←List.append_assoc,List.take_append_drop]
theorem ref2_product (la lb:List Nat) (ga ca:Nat) (bo:Option Addr) (cb:Nat) (w:World) (ha:IgAt w ga ca la) (hb:∀(k b:Nat),lb[k]?=some b->∃gb,bo=some ⟨gb,0,none⟩/\IgAt w gb cb lb) (ob:iok lb) (hla:la.length<=100) (hlb:lb.length<=4) :
  Calls Tryz.prog 127 #[.slice (some ⟨ga,0,none⟩) la.length ca,.slice bo lb.length cb] w fun e w'=>∃g L,e=.returned (.slice (some ⟨g,0,none⟩) (la.length+lb.length) (la.length+lb.length))/\L.length=la.length+lb.length/\iok L/\ival L=ival la*ival lb/\IgB w.heap.size w' g (la.length+lb.length) L/\Below w.heap.size w w':=by
 obtain ⟨i0,hi,hz0,hz1,hz2⟩:=i64_parts
 have HA:=Lib.hid ha
 have HB:=Lib.hid hb
 have HOb:=Lib.hid ob
 clear ha hb ob
 obtain ⟨n,hn⟩:∃n,n=la.length:=⟨_,rfl⟩
 obtain ⟨m,hm⟩:∃m,m=lb.length:=⟨_,rfl⟩
 obtain ⟨N,hN⟩:∃N,N=n+m:=⟨_,rfl⟩
 have HN:=Lib.hid hn
 have HM:=Lib.hid hm
 have hNi:(n:Int)+(m:Int)=(N:Int):=by omega
 rw [←hn] at hla ⊢
 rw [←hm] at hlb ⊢
 rw [←hN]
 have HNN:=Lib.hid hN
 obtain ⟨w1,hrun,hown,hgrow⟩:=run_makeSlice_full (P:=Tryz.prog) w w.heap.size 147 3 i0 (.int .i64 0) 1 Tryz.underlying147 hi hz0 hz1 .i64 .i64 N (by omega) (by rw [hz2];omega) (by unfold maxLen;omega) (Nat.le_refl _)
 rw [made_zeros] at hown
 have HS:Hid (OutAt la lb 0 (List.replicate m 0)/\IgB w.heap.size w1 w.heap.size N (List.replicate m 0++List.replicate (n-0) 0)/\Below w.heap.size w w1):=Lib.hid ⟨by rw [hm];exact outAt_start la lb,⟨by
  rw [List.replicate_append_replicate,List.length_replicate,show m+(n-0)=N by omega]
  exact hown⟩,(Below.refl _ w).grown hgrow (Nat.le_refl _) (fun k hk=>by cases hk)⟩
 clear hn hm hN hown hgrow
 go_enter Tryz.func127,Tryz.ntmps127
 go_wp2_with fail
 clear hrun
 obtain ⟨G,hG⟩:∃G,G=w.heap.size:=⟨_,rfl⟩
 have HGs:=Lib.hid hG
 go_loopw [6] (fun i wr=>∃j:Nat,j<=n/\i=.int .i64 j/\∃X,Hid (OutAt la lb j X/\IgB w.heap.size wr w.heap.size N (X++List.replicate (n-j) 0)/\Below w.heap.size w wr)) (fun i _=>n-(intOf i).toNat)
 case atStart=>exact ⟨0,by omega,rfl,_,HS⟩
 case round =>
  clear HS hG
  obtain ⟨j,hj,rfl,X,HI⟩:=hrel
  rcases Nat.lt_or_ge j n with hj' | hj'
  ·obtain ⟨A,hA⟩:∃A,la[j]?=some A:=⟨_,List.getElem?_eq_getElem (by rw [←HN.out];exact hj')⟩
   have HAj:=Lib.hid hA
   have oA:A<65536:=HA.out.ok A (List.mem_of_getElem? hA)
   clear hA
   have HS2:Hid (InAt (X.drop j) lb A 0 0 []/\IgB w.heap.size wr w.heap.size N (X.take j++[]++((X.drop j).drop 0++List.replicate (n-j) 0))/\Below w.heap.size w wr):=Lib.hid ⟨inAt_start _ _ _,by rw [take_drop_nil];exact HI.out.2.1,HI.out.2.2⟩
   go_wp2_with fail
   go_loopw [7,8] (fun cv kv wr=>∃k c:Nat,k<=m/\kv=.int .i64 k/\cv=.int .i64 c/\∃Z,Hid (InAt (X.drop j) lb A k c Z/\IgB w.heap.size wr w.heap.size N (X.take j++Z++((X.drop j).drop k++List.replicate (n-j) 0))/\Below w.heap.size w wr)) (fun _ kv _=>m-(intOf kv).toNat)
   case atStart=>exact ⟨0,0,by omega,rfl,rfl,[],HS2⟩
   case round =>
    clear HS2
    obtain ⟨k,c,hk,rfl,rfl,Z,HJ⟩:=hrel
    have hcb:c<65536:=HJ.out.1.cb
    rcases Nat.lt_or_ge k m with hk' | hk'
    ·obtain ⟨b,hb⟩:∃b,lb[k]?=some b:=⟨_,List.getElem?_eq_getElem (by rw [←HM.out];exact hk')⟩
     have hXl:(X.drop j).length=m:=by
      have:=HI.out.1.len
      have:=HM.out
      rw [List.length_drop]
      omega
     obtain ⟨x,hx⟩:∃x,(X.drop j)[k]?=some x:=⟨_,List.getElem?_eq_getElem (by omega)⟩
     have xo:x<65536:=HI.out.1.ok x (List.mem_of_mem_drop (List.mem_of_getElem? hx))
     have bo':b<65536:=HOb.out b (List.mem_of_getElem? hb)
     obtain ⟨hnx,hlt⟩:=inAt_next HJ.out.1 hx hb xo bo' oA
     obtain ⟨gb,rfl,hgb⟩:=HB.out k b hb
     have hlen:(X.take j).length+Z.length=j+k:=by
      have:=HI.out.1.len
      have:=HM.out
      rw [HJ.out.1.len,List.length_take]
      omega
     have hrow:Hid (IgB w.heap.size wr w.heap.size N (X.take j++Z++x::((X.drop j).drop (k+1)++List.replicate (n-j) 0))):=Lib.hid (by
      have h2:=HJ.out.2.1
      rw [drop_atN hx] at h2
      exact h2)
     have c0:=hrow.out.at (i:=j+k) (at_midI hlen)
     have f0:=hrow.out.free (j+k)
     have c1:=(HJ.out.2.2.cell (p:=⟨ga,j,none⟩) HA.out.lt).trans (HA.out.cells j A HAj.out)
     have c2:=(HJ.out.2.2.cell (p:=⟨gb,k,none⟩) hgb.lt).trans (hgb.cells k b hb)
     have HLen:=Lib.hid hlen
     have hcb2:k<cb∨True:=Or.inr trivial
     have hcap:=hgb.le
     rw [←HM.out] at hcap
     have hcapa:=HA.out.le
     rw [←HN.out] at hcapa
     obtain ⟨AB,hAB⟩:∃AB,AB=A*b:=⟨_,rfl⟩
     have e1:(A:Int)*(b:Int)=(AB:Int):=by rw [hAB];exact (Int.natCast_mul A b).symm
     rw [←hAB] at hnx hlt
     obtain ⟨S,hS⟩:∃S,S=x+AB+c:=⟨_,rfl⟩
     have e2:(x:Int)+(AB:Int)+(c:Int)=(S:Int):=by omega
     rw [←hS] at hnx hlt
     obtain ⟨R,hR⟩:∃R,R=S % 65536:=⟨_,rfl⟩
     obtain ⟨Q,hQ⟩:∃Q,Q=S / 65536:=⟨_,rfl⟩
     have e3:(S:Int) % 65536=(R:Int):=by omega
     have e4:(S:Int) / 65536=(Q:Int):=by omega
     rw [←hR,←hQ] at hnx
     have HX:=Lib.hid hnx
     have hltI:(S:Int)<4294967296:=by omega
     have hABI:(AB:Int)<4294967296:=by omega
     have i1:(0:Int)<=(j:Int)+(k:Int):=by omega
     have i2:(j:Int)+(k:Int)<(N:Int):=by omega
     have i3:(j:Int)<(n:Int):=by omega
     have i4:(k:Int)<(m:Int):=by omega
     clear hAB hR hQ hnx hx hb hgb hlen hXl hcb2 hlt hS
     go_wp2_with fail
     go_quiet (fail)
     go_wp2_with fail
     go_roundw
     case rel=>exact ⟨k+1,Q,by omega,by go_num,by go_num,Z++[R],Lib.hid ⟨HX.out,by
       have h2:=(hrow.out.on (below_drewN (Below.refl _ _) nq)).set (i:=j+k) (x:=R) (by have:=HLen.out;simp only [List.length_append,List.length_cons];omega)
       rw [set_midI HLen.out] at h2
       exact h2,(below_drewN HJ.out.2.2 _).setCell (Nat.le_refl _) _⟩⟩
     case measure=>simp [intOf];omega
    ·obtain rfl:k=m:=by omega
     have hXl:X.length=j+k:=by rw [HM.out];exact HI.out.1.len
     have hlen:(X.take j).length+Z.length=j+k:=by
      rw [HJ.out.1.len,List.length_take]
      omega
     have hrow:Hid (IgB w.heap.size wr w.heap.size N (X.take j++Z++0::List.replicate (n-(j+1)) 0)):=Lib.hid (by
      have h2:=HJ.out.2.1
      rw [List.drop_drop,List.drop_of_length_le (by omega),List.nil_append,show n-j=(n-(j+1))+1 by omega,List.replicate_succ] at h2
      exact h2)
     have c0:=hrow.out.at (i:=j+k) (at_midI hlen)
     have f0:=hrow.out.free (j+k)
     have HLen:=Lib.hid hlen
     have HO:Hid (OutAt la lb (j+1) (X.take j++Z++[c])):=Lib.hid (outAt_next HI.out.1 HAj.out (by rw [←HM.out];exact HJ.out.1))
     clear hlen hXl
     go_wp2_with fail
     go_roundw
     case rel=>exact ⟨j+1,by omega,by go_num,X.take j++Z++[c],Lib.hid ⟨HO.out,by
       have h2:=hrow.out.set (i:=j+k) (x:=c) (by have:=HLen.out;simp only [List.length_append,List.length_cons];omega)
       rw [set_midI HLen.out,←List.append_assoc (X.take j)] at h2
       exact h2,HJ.out.2.2.setCell (Nat.le_refl _) _⟩⟩
     case measure=>simp [intOf];omega
  ·obtain rfl:j=n:=by omega
   go_wp2_with fail
   go_ret
   exact ⟨_,X,rfl,by rw [HI.out.1.len,HNN.out,HM.out],HI.out.1.ok,by have h2:=HI.out.1;rw [HN.out] at h2;exact outAt_end h2,by have h2:=HI.out.2.1;simpa using h2,HI.out.2.2⟩
end Go.Proofs.YthhkcfpljgdnhaaGreat

/- Contract of the reference of layer 2: power. -/
namespace Mnc
open Go
theorem ival_bd {l:List Nat} (h:iok l):ival l<65536 ^ l.length:=by
 induction l with
 | nil=>simp [ival]
 | cons x l ih =>
  have hx:=h x (by simp)
  have:=ih (fun y hy=>h y (by simp [hy]))
  simp only [ival,List.length_cons,Nat.pow_succ]
  omega
theorem ival_split (l:List Nat) (k:Nat):ival l=ival (l.take k)+65536 ^ (min k l.length)*ival (l.drop k):=by
 conv=>lhs;rw [←List.take_append_drop k l]
 rw [ival_append,List.length_take]
theorem ival_div {l:List Nat} (h:iok l) (k:Nat):ival l / 65536 ^ k=ival (l.drop k)/\ival l % 65536 ^ k=ival (l.take k):=by
 rcases Nat.lt_or_ge k l.length with hk | hk
 ·have e:=ival_split l k
  rw [Nat.min_eq_left (Nat.le_of_lt hk)] at e
  have hb:=ival_bd (l:=l.take k) (fun y hy=>h y (List.mem_of_mem_take hy))
  rw [List.length_take,Nat.min_eq_left (Nat.le_of_lt hk)] at hb
  have hp:0<65536 ^ k:=Nat.pow_pos (by decide)
  rw [e]
  constructor
  ·rw [Nat.add_mul_div_left _ _ hp,Nat.div_eq_of_lt hb,Nat.zero_add]
  ·rw [Nat.add_mul_mod_self_left,Nat.mod_eq_of_lt hb]
 ·have hb:=ival_bd h
  have:65536 ^ l.length<=65536 ^ k:=Nat.pow_le_pow_right (by decide) hk
  rw [List.drop_of_length_le hk,List.take_of_length_le hk]
  exact ⟨Nat.div_eq_of_lt (by omega),Nat.mod_eq_of_lt (by omega)⟩
theorem ival_drop {l:List Nat} {k x:Nat} (h:l[k]?=some x):ival (l.drop k)=x+65536*ival (l.drop (k+1)):=by
 obtain ⟨hk,rfl⟩:=List.getElem?_eq_some_iff.1 h
 rw [List.drop_eq_getElem_cons hk]
 rfl
theorem ival_drop_le (l:List Nat) (a k:Nat):ival (l.drop (a+k))<=ival (l.drop a):=by
 induction k with
 | zero=>exact Nat.le_refl _
 | succ k ih =>
  refine Nat.le_trans ?_ ih
  rw [←Nat.add_assoc]
  rcases Nat.lt_or_ge (a+k) l.length with h | h
  ·obtain ⟨x,hx⟩:∃x,l[a+k]?=some x:=⟨_,List.getElem?_eq_getElem h⟩
   rw [ival_drop hx]
   omega
  ·rw [List.drop_of_length_le (by omega),List.drop_of_length_le (by omega)]
   exact Nat.le_refl _
theorem pow_two_digits (n:Nat):65536 ^ (2*n)=4294967296 ^ n:=by rw [Nat.pow_mul]
/-- The power of a size, rounded. -/
def pwX (v n:Nat) (up:Bool):Nat:=rsz up (v ^ n) (4294967296 ^ (n-1))
theorem pwX_ge {l:List Nat} {v n:Nat} (h:iok l) (hv:ival l=v ^ n) (up:Bool):ival (l.drop (2*(n-1)))<=pwX v n up:=by
 rw [←(ival_div h (2*(n-1))).1,pow_two_digits,hv]
 exact rsz_ge _ _ _
theorem take_pos {l:List Nat} {j x:Nat} {R:Bool} (h:R=decide (0<ival (l.take j))) (hx:l[j]?=some x):(R || decide (0<x))=decide (0<ival (l.take (j+1))):=by
 have hp:0<65536 ^ j:=Nat.pow_pos (by decide)
 rw [ival_take_succ hx,h,←Bool.decide_or,decide_eq_decide]
 constructor
 ·rintro (h | h)
  ·omega
  ·have:=Nat.mul_pos hp h
   omega
 ·intro h
  rcases Nat.eq_zero_or_pos x with h0 | h0
  ·subst h0
   left
   simpa using h
  ·exact .inr h0
theorem pwX_of {l:List Nat} {v n:Nat} (h:iok l) (hv:ival l=v ^ n) (up:Bool):pwX v n up=if (up && decide (0<ival (l.take (2*(n-1)))))=true then ival (l.drop (2*(n-1)))+1 else ival (l.drop (2*(n-1))):=by
 obtain ⟨e1,e2⟩:=ival_div h (2*(n-1))
 rw [pow_two_digits,hv] at e1 e2
 unfold pwX rsz
 rw [e1,e2]
 cases up<;>simp [Nat.pos_iff_ne_zero]
end Mnc
namespace Go.Proofs.YthhkcfpljgdnhaaGreat
open Go.RowKit Mnc

theorem IgB.low {n₀ n₁:Nat} {W:World} {g cap:Nat} {L:List Nat} (h:IgB n₁ W g cap L) (k:n₀<=n₁):IgB n₀ W g cap L where
 own:=by
  refine ⟨h.own.1,?_⟩
  rcases h.own.2 with h' | ⟨g',cap',cur,h1,h2,hr⟩
  ·exact .inl h'
  ·exact .inr ⟨g',cap',cur,h1,Nat.le_trans k h2,hr⟩
/-- The digits of a power under way. -/
structure PlAt (w W:World) (v k g c:Nat) (L:List Nat):Prop where
 len:L.length<=1+4*k
 ok:iok L
 val:ival L=v ^ k
 own:IgB w.heap.size W g c L
 bel:Below w.heap.size w W
theorem PlAt.start (w:World) (v:Nat):PlAt w (w.alloc (.cells #[.int .i64 1] 3)) v 0 w.heap.size 1 [1] :=
 ⟨by simp,fun d hd=>by simp at hd;omega,rfl,⟨World.ownsRow_lit w #[.int .i64 1] 1 (Nat.le_refl _) (by decide) rfl⟩,below_alloc (Below.refl _ _) _⟩
/-- How power answers. -/
def PwEnd (v n:Nat) (up:Bool) (e:Ending):Prop:=∃(X:Nat) (F:Bool),e=.returned (.tuple #[.int .i64 (X:Int),.bool F])/\(F=true->X=pwX v n up/\X<=4503599627370496)/\(F=false->4503599627370496<pwX v n up)/\X<=4503599627436032

theorem ref2_power (v n:Nat) (hv:v<=4503599627370496) (h1:1<=n) (hn:n<=16) (up:Bool) (w:World) :
  Calls Tryz.prog 121 #[.int .i64 (v:Int),.int .i64 (n:Int),.bool up] w fun e w'=>PwEnd v n up e/\Below w.heap.size w w':=by
 have HV:=Lib.hid hv
 have HP:=Lib.hid (PlAt.start w v)
 clear hv
 go_enter Tryz.func121,Tryz.ntmps121
 go_wp2_with fail
 go_loopw [8,9] (fun dv i wr=>∃k g c z:Nat,k<=n/\i=.int .i64 k/\dv=.slice (some ⟨g,0,none⟩) z c/\∃L:List Nat,Hid (PlAt w wr v k g c L/\z=L.length)) (fun _ i _=>n-(intOf i).toNat)
 case atStart=>exact ⟨0,_,_,1,by omega,rfl,rfl,[1],Lib.hid ⟨HP.out,rfl⟩⟩
 case round =>
  clear HP
  obtain ⟨k,g,c,z,hk,rfl,rfl,L,HI⟩:=hrel
  rcases Nat.lt_or_ge k n with hk' | hk'
  ·go_wp2_with fail
   refine (ref2_parts v HV.out _).mono ?_
   rintro e w2 ⟨vb,lb,rfl,hr,hok,hval,hl4,hbel⟩
   have HIa:=Lib.hid ((HI.out.1.own.on hbel).dg HI.out.1.ok)
   have HB2:=Lib.hid (below_step HI.out.1.bel hbel)
   have hz:∃(bo:Option Addr) (cb:Nat),vb=.slice bo lb.length cb/\∀(j b:Nat),lb[j]?=some b->∃gb,bo=some ⟨gb,0,none⟩/\IgAt w2 gb cb lb:=by
    rcases hr with ⟨rfl,rfl⟩ | ⟨gb,cb,rfl,hb⟩
    ·exact ⟨none,0,rfl,fun j b h=>by simp at h⟩
    ·exact ⟨some ⟨gb,0,none⟩,cb,rfl,fun _ _ _=>⟨gb,rfl,hb.dg hok⟩⟩
   obtain ⟨bo,cb,rfl,hzb⟩:=hz
   have HPR:=Lib.hid (ref2_product L lb g c bo cb w2 HIa.out hzb hok (by have:=HI.out.1.len;omega) hl4)
   rw [←HI.out.2] at HPR
   have HF:Hid (ival lb=v/\lb.length<=4):=Lib.hid ⟨hval,hl4⟩
   clear hr hok hval hl4 hbel hzb
   go_wp2_with fail
   refine HPR.out.mono ?_
   rintro e w3 ⟨g3,L3,rfl,h3,h4,h5,h6,h7⟩
   have HN2:Hid (PlAt w w3 v (k+1) g3 (z+lb.length) L3/\z+lb.length=L3.length):=Lib.hid ⟨⟨by have:=HI.out.1.len;have:=HI.out.2;have:=HF.out.2;omega,h4,by rw [h5,HI.out.1.val,HF.out.1,Nat.pow_succ],h6.low HB2.out.size,below_step HB2.out h7⟩,h3.symm⟩
   clear h3 h4 h5 h6 h7 HPR
   go_wp2_with fail
   go_roundw
   case rel=>exact ⟨k+1,g3,z+lb.length,z+lb.length,by omega,by go_num,rfl,L3,HN2⟩
   case measure=>simp [intOf];omega
  ·obtain rfl:k=n:=by omega
   clear hk hk'
   go_wp2_with fail
   obtain ⟨d,hd⟩:∃d,d=2*(k-1):=⟨_,rfl⟩
   have hdi:(2:Int)*((k:Int)-1)=(d:Int):=by omega
   have hd30:d<=30:=by omega
   have HD:=Lib.hid hd
   have hz65:z<=65:=by have:=HI.out.1.len;have:=HI.out.2;omega
   clear hd
   have HKd:=Lib.hid (show 1<=k/\k<=16 from ⟨h1,hn⟩)
   go_loop [10,11] (fun r i=>∃(j:Nat) (R:Bool),j<=z/\j<=d/\i=.int .i64 j/\r=.bool R/\Hid (R=decide (0<ival (L.take j)))) (fun _ i=>z-(intOf i).toNat)
   case atStart=>exact ⟨0,false,by omega,by omega,rfl,rfl,Lib.hid (by simp [ival])⟩
   case round =>
    obtain ⟨j,R,hj,hjd,rfl,rfl,HR⟩:=hrel
    by_cases hjd':j<d
    ·by_cases hj':j<z
     ·obtain ⟨x,hx⟩:∃x,L[j]?=some x:=⟨_,List.getElem?_eq_getElem (by rw [←HI.out.2];exact hj')⟩
      have c0:=HI.out.1.own.at hx
      have HT:=Lib.hid (take_pos HR.out hx)
      have i1:(0:Int)<=(j:Int):=by omega
      have i2:(j:Int)<(z:Int):=by omega
      clear hx
      cases R with
      | true =>
       go_wp2_with fail
       go_roundw
       case rel=>exact ⟨j+1,true,by omega,by omega,by go_num,rfl,Lib.hid (by rw [←HT.out];rfl)⟩
       case measure=>simp [intOf];omega
      | false =>
       by_cases hx0:0<x
       ·have e1:decide ((0:Int)<(x:Int))=true:=by simp;omega
        have e2:decide (0<x)=true:=decide_eq_true hx0
        go_wp2_with fail
        go_roundw
        case rel=>exact ⟨j+1,true,by omega,by omega,by go_num,rfl,Lib.hid (by rw [←HT.out,e2];rfl)⟩
        case measure=>simp [intOf];omega
       ·have e1:decide ((0:Int)<(x:Int))=false:=by simp;omega
        have e2:decide (0<x)=false:=decide_eq_false hx0
        go_wp2_with fail
        go_roundw
        case rel=>exact ⟨j+1,false,by omega,by omega,by go_num,rfl,Lib.hid (by rw [←HT.out,e2];rfl)⟩
        case measure=>simp [intOf];omega
     ·have i5:¬(j:Int)<(z:Int):=by omega
      have i6:(j:Int)<(d:Int):=by omega
      have HT2:Hid (R=decide (0<ival (L.take d))):=Lib.hid (by rw [HR.out];rw [List.take_of_length_le (by have:=HI.out.2;omega),List.take_of_length_le (by have:=HI.out.2;omega)])
      clear HR
      go_wp2_with fail
      go_loop [12,13] (fun o i=>∃a O:Nat,a<=z/\(d<=a∨a=z)/\i=.int .i64 ((a:Int)-1)/\o=.int .i64 O/\(O:Int)<=4503599627436031/\Hid (O=ival (L.drop a))) (fun _ i=>(intOf i+1).toNat)
      case atStart=>exact ⟨z,0,by omega,.inr rfl,rfl,rfl,by omega,Lib.hid (by rw [HI.out.2,List.drop_of_length_le (Nat.le_refl _)];rfl)⟩
      case round =>
       obtain ⟨a,O,ha,had,rfl,rfl,hO,HO⟩:=hrel
       by_cases hda:d<a
       ·obtain ⟨x,hx⟩:∃x,L[a-1]?=some x:=⟨_,List.getElem?_eq_getElem (by rw [←HI.out.2];omega)⟩
        have hxo:(x:Int)<65536:=by have:=HI.out.1.ok x (List.mem_of_getElem? hx);omega
        have HDr:Hid (ival (L.drop (a-1))=x+65536*O):=Lib.hid (by rw [ival_drop hx,HO.out,show a-1+1=a by omega])
        have c0:=HI.out.1.own.at hx
        have ea:((a-1:Nat):Int)=(a:Int)-1:=by omega
        obtain ⟨a',ha'⟩:∃a',a'=a-1:=⟨_,rfl⟩
        rw [←ha'] at ea c0 HDr
        rw [←ea]
        have i1:(0:Int)<=(a':Int):=by omega
        have i2:(a':Int)<(z:Int):=by omega
        have i3:(d:Int)<=(a':Int):=by omega
        have i4:(a':Int)<(a:Int):=by omega
        have HA':=Lib.hid ha'
        clear ea ha'
        clear hx
        by_cases hbig:(68719476736:Int)<(O:Int)
        ·have HB:Hid (4503599627370496<pwX v k up):=Lib.hid (by
          have h2:=pwX_ge HI.out.1.ok HI.out.1.val up
          rw [←HD.out] at h2
          have h3:=ival_drop_le L d (a'-d)
          have:=HA'.out
          rw [show d+(a'-d)=a' by omega,HDr.out] at h3
          omega)
         go_wp2_with fail
         go_ret2
         exact ⟨⟨0,false,rfl,(fun h=>by cases h),fun _=>HB.out,by omega⟩,HI.out.1.bel⟩
        ·obtain ⟨O2,hO2⟩:∃O2,O2=O*65536+x:=⟨_,rfl⟩
         have e2:(O:Int)*65536+(x:Int)=(O2:Int):=by omega
         have b2:(O2:Int)<=4503599627436031:=by omega
         have HO2:Hid (O2=ival (L.drop a')):=Lib.hid (by rw [HDr.out];omega)
         clear hO2
         go_wp2_with fail
         go_roundw
         case rel=>exact ⟨a',O2,by omega,.inl (by omega),rfl,by go_num,b2,HO2⟩
         case measure=>simp [intOf]<;>omega
       ·have HX:Hid (O=ival (L.drop d)):=Lib.hid (by
         rw [HO.out]
         rcases had with h | h
         ·rw [show a=d by omega]
         ·rw [List.drop_of_length_le (by have:=HI.out.2;omega),List.drop_of_length_le (by have:=HI.out.2;omega)])
        have HPX:Hid (pwX v k up=if (up && R)=true then O+1 else O):=Lib.hid (by
         have h2:=pwX_of HI.out.1.ok HI.out.1.val up
         rw [←HD.out,←HX.out,←HT2.out] at h2
         exact h2)
        have i3:¬(d:Int)<=(a:Int)-1:=by omega
        clear HX HO HT2
        cases up with
        | false =>
         by_cases hf:(O:Int)<=4503599627370496
         ·have HF:Hid (pwX v k false=O):=Lib.hid (by rw [HPX.out];simp)
          clear HPX
          go_wp2_with fail
          go_ret2
          exact ⟨⟨O,true,(by first | rfl | simp),(fun _=>⟨HF.out.symm,by omega⟩),(fun h=>by cases h),by omega⟩,HI.out.1.bel⟩
         ·have HF:Hid (pwX v k false=O):=Lib.hid (by rw [HPX.out];simp)
          clear HPX
          go_wp2_with fail
          go_ret2
          exact ⟨⟨O,false,(by first | rfl | simp),(fun h=>by cases h),(fun _=>by rw [HF.out];omega),by omega⟩,HI.out.1.bel⟩
        | true =>
         cases R with
         | false =>
          by_cases hf:(O:Int)<=4503599627370496
          ·have HF:Hid (pwX v k true=O):=Lib.hid (by rw [HPX.out];simp)
           clear HPX
           go_wp2_with fail
           go_ret2
           exact ⟨⟨O,true,(by first | rfl | simp),(fun _=>⟨HF.out.symm,by omega⟩),(fun h=>by cases h),by omega⟩,HI.out.1.bel⟩
          ·have HF:Hid (pwX v k true=O):=Lib.hid (by rw [HPX.out];simp)
           clear HPX
           go_wp2_with fail
           go_ret2
           exact ⟨⟨O,false,(by first | rfl | simp),(fun h=>by cases h),(fun _=>by rw [HF.out];omega),by omega⟩,HI.out.1.bel⟩
         | true =>
          by_cases hf:(O:Int)+1<=4503599627370496
          ·have HF:Hid (pwX v k true=(O+1)):=Lib.hid (by rw [HPX.out];simp)
           clear HPX
           go_wp2_with fail
           go_ret2
           exact ⟨⟨(O+1),true,(by first | rfl | simp),(fun _=>⟨HF.out.symm,by omega⟩),(fun h=>by cases h),by omega⟩,HI.out.1.bel⟩
          ·have HF:Hid (pwX v k true=(O+1)):=Lib.hid (by rw [HPX.out];simp)
           clear HPX
           go_wp2_with fail
           go_ret2
           exact ⟨⟨(O+1),false,(by first | rfl | simp),(fun h=>by cases h),(fun _=>by rw [HF.out];omega),by omega⟩,HI.out.1.bel⟩
    ·have i5:¬(j:Int)<(d:Int):=by omega
     have HT2:Hid (R=decide (0<ival (L.take d))):=Lib.hid (by rw [HR.out];rw [show j=d by omega])
     clear HR
     go_wp2_with fail
     go_loop [12,13] (fun o i=>∃a O:Nat,a<=z/\(d<=a∨a=z)/\i=.int .i64 ((a:Int)-1)/\o=.int .i64 O/\(O:Int)<=4503599627436031/\Hid (O=ival (L.drop a))) (fun _ i=>(intOf i+1).toNat)
     case atStart=>exact ⟨z,0,by omega,.inr rfl,rfl,rfl,by omega,Lib.hid (by rw [HI.out.2,List.drop_of_length_le (Nat.le_refl _)];rfl)⟩
     case round =>
      obtain ⟨a,O,ha,had,rfl,rfl,hO,HO⟩:=hrel
      by_cases hda:d<a
      ·obtain ⟨x,hx⟩:∃x,L[a-1]?=some x:=⟨_,List.getElem?_eq_getElem (by rw [←HI.out.2];omega)⟩
       have hxo:(x:Int)<65536:=by have:=HI.out.1.ok x (List.mem_of_getElem? hx);omega
       have HDr:Hid (ival (L.drop (a-1))=x+65536*O):=Lib.hid (by rw [ival_drop hx,HO.out,show a-1+1=a by omega])
       have c0:=HI.out.1.own.at hx
       have ea:((a-1:Nat):Int)=(a:Int)-1:=by omega
       obtain ⟨a',ha'⟩:∃a',a'=a-1:=⟨_,rfl⟩
       rw [←ha'] at ea c0 HDr
       rw [←ea]
       have i1:(0:Int)<=(a':Int):=by omega
       have i2:(a':Int)<(z:Int):=by omega
       have i3:(d:Int)<=(a':Int):=by omega
       have i4:(a':Int)<(a:Int):=by omega
       have HA':=Lib.hid ha'
       clear ea ha'
       clear hx
       by_cases hbig:(68719476736:Int)<(O:Int)
       ·have HB:Hid (4503599627370496<pwX v k up):=Lib.hid (by
         have h2:=pwX_ge HI.out.1.ok HI.out.1.val up
         rw [←HD.out] at h2
         have h3:=ival_drop_le L d (a'-d)
         have:=HA'.out
         rw [show d+(a'-d)=a' by omega,HDr.out] at h3
         omega)
        go_wp2_with fail
        go_ret2
        exact ⟨⟨0,false,rfl,(fun h=>by cases h),fun _=>HB.out,by omega⟩,HI.out.1.bel⟩
       ·obtain ⟨O2,hO2⟩:∃O2,O2=O*65536+x:=⟨_,rfl⟩
        have e2:(O:Int)*65536+(x:Int)=(O2:Int):=by omega
        have b2:(O2:Int)<=4503599627436031:=by omega
        have HO2:Hid (O2=ival (L.drop a')):=Lib.hid (by rw [HDr.out];omega)
        clear hO2
        go_wp2_with fail
        go_roundw
        case rel=>exact ⟨a',O2,by omega,.inl (by omega),rfl,by go_num,b2,HO2⟩
        case measure=>simp [intOf]<;>omega
      ·have HX:Hid (O=ival (L.drop d)):=Lib.hid (by
        rw [HO.out]
        rcases had with h | h
        ·rw [show a=d by omega]
        ·rw [List.drop_of_length_le (by have:=HI.out.2;omega),List.drop_of_length_le (by have:=HI.out.2;omega)])
       have HPX:Hid (pwX v k up=if (up && R)=true then O+1 else O):=Lib.hid (by
        have h2:=pwX_of HI.out.1.ok HI.out.1.val up
        rw [←HD.out,←HX.out,←HT2.out] at h2
        exact h2)
       have i3:¬(d:Int)<=(a:Int)-1:=by omega
       clear HX HO HT2
       cases up with
       | false =>
        by_cases hf:(O:Int)<=4503599627370496
        ·have HF:Hid (pwX v k false=O):=Lib.hid (by rw [HPX.out];simp)
         clear HPX
         go_wp2_with fail
         go_ret2
         exact ⟨⟨O,true,(by first | rfl | simp),(fun _=>⟨HF.out.symm,by omega⟩),(fun h=>by cases h),by omega⟩,HI.out.1.bel⟩
        ·have HF:Hid (pwX v k false=O):=Lib.hid (by rw [HPX.out];simp)
         clear HPX
         go_wp2_with fail
         go_ret2
         exact ⟨⟨O,false,(by first | rfl | simp),(fun h=>by cases h),(fun _=>by rw [HF.out];omega),by omega⟩,HI.out.1.bel⟩
       | true =>
        cases R with
        | false =>
         by_cases hf:(O:Int)<=4503599627370496
         ·have HF:Hid (pwX v k true=O):=Lib.hid (by rw [HPX.out];simp)
          clear HPX
          go_wp2_with fail
          go_ret2
          exact ⟨⟨O,true,(by first | rfl | simp),(fun _=>⟨HF.out.symm,by omega⟩),(fun h=>by cases h),by omega⟩,HI.out.1.bel⟩
         ·have HF:Hid (pwX v k true=O):=Lib.hid (by rw [HPX.out];simp)
          clear HPX
          go_wp2_with fail
          go_ret2
          exact ⟨⟨O,false,(by first | rfl | simp),(fun h=>by cases h),(fun _=>by rw [HF.out];omega),by omega⟩,HI.out.1.bel⟩
        | true =>
         by_cases hf:(O:Int)+1<=4503599627370496
         ·have HF:Hid (pwX v k true=(O+1)):=Lib.hid (by rw [HPX.out];simp)
          clear HPX
          go_wp2_with fail
          go_ret2
          exact ⟨⟨(O+1),true,(by first | rfl | simp),(fun _=>⟨HF.out.symm,by omega⟩),(fun h=>by cases h),by omega⟩,HI.out.1.bel⟩
         ·have HF:Hid (pwX v k true=(O+1)):=Lib.hid (by rw [HPX.out];simp)
          clear HPX
          go_wp2_with fail
          go_ret2
          exact ⟨⟨(O+1),false,(by first | rfl | simp),(fun h=>by cases h),(fun _=>by rw [HF.out];omega),by omega⟩,HI.out.1.bel⟩
end Go.Proofs.YthhkcfpljgdnhaaGreat

/- Contracts of the reference of layer 2: raised, Pow. -/
namespace Mnc
open Go
/-- A power, rounded. -/
def rwr (up:Bool) (v:Int) (n:Nat):Int:=rnd up (v ^ n) (4294967296 ^ (n-1))
theorem one_pos' (n:Nat):(0:Int)<4294967296 ^ n:=Int.pow_pos (by decide)
theorem rwr_mono (up:Bool) {x y:Int} {n:Nat} (h:x ^ n<=y ^ n):rwr up x n<=rwr up y n:=rnd_up_mono up (one_pos' _) h
theorem rwr_le (x:Int) (n:Nat):rwr false x n<=rwr true x n:=rnd_le (one_pos' _)
theorem rwr_nat (up:Bool) (V n:Nat):rwr up (V:Int) n=(pwX V n up:Int):=by
 have h:=rnd_size false up (V ^ n) (4294967296 ^ (n-1)) (Nat.pow_pos (by decide))
 simp only [Bool.false_eq_true,if_false,Bool.bne_false] at h
 unfold rwr pwX
 rw [←h,Int.natCast_pow,Int.natCast_pow]
 rfl
theorem neg_pow_even (x:Int) (k:Nat):(-x) ^ (2*k)=x ^ (2*k):=by
 rw [Int.pow_mul,Int.pow_mul]
 congr 1
 rw [Int.pow_succ,Int.pow_succ,Int.pow_succ,Int.pow_succ,Int.pow_zero,Int.pow_zero,Int.one_mul,Int.one_mul]
 exact Int.neg_mul_neg x x
theorem rwr_even (up:Bool) (x:Int) {n:Nat} (h:n % 2=0):rwr up (-x) n=rwr up x n:=by
 unfold rwr
 rw [show n=2*(n / 2) by omega,neg_pow_even]
theorem rwr_odd (up:Bool) (V n:Nat) (h:n % 2=1):rwr up (-(V:Int)) n=-(pwX V n (!up):Int):=by
 have h2:=rnd_size true up (V ^ n) (4294967296 ^ (n-1)) (Nat.pow_pos (by decide))
 simp only [if_true,Bool.bne_true] at h2
 unfold rwr pwX
 have e:(-(V:Int)) ^ n=-((V:Int) ^ n):=by
  rw [show n=2*(n / 2)+1 by omega]
  exact neg_pow_odd _ _
 rw [←h2,e,Int.natCast_pow,Int.natCast_pow]
 rfl
theorem sPow_pw {s:Int×Int} {n:Nat} (h:okS s) (h1:1<=n) (hn:n<=16):sPow s (n:Int)=if n % 2=0 then sT (rwr false (max (max s.1 (-s.2)) 0) n) (rwr true (max s.2 (-s.1)) n) else sT (rwr false s.1 n) (rwr true s.2 n):=by
 unfold sPow
 rw [if_pos h,if_neg (by omega),if_neg (by omega),sAbs_val h]
 by_cases e:n % 2=0
 ·rw [if_pos e,if_pos (by omega)]
  rfl
 ·rw [if_neg e,if_neg (by omega)]
  rfl
/-- What Pow of the reference makes of the four powers. -/
def pLo (s:Int×Int) (n:Nat):Int:=if n % 2=0/\s.1<0/\0<s.2 then 0 else min (rwr false s.1 n) (rwr false s.2 n)
def pHi (s:Int×Int) (n:Nat):Int:=max (rwr true s.1 n) (rwr true s.2 n)
def pAll (s:Int×Int) (n:Nat):Prop:=ok (rwr false s.1 n)/\ok (rwr false s.2 n)/\ok (rwr true s.1 n)/\ok (rwr true s.2 n)
theorem rwr_zero (n:Nat) (h1:1<=n):rwr false 0 n=0:=by
 unfold rwr
 rw [Int.zero_pow (by omega)]
 exact Int.zero_ediv _
theorem rwr_nn {x:Int} {n:Nat} (h:0<=x ^ n):0<=rwr false x n:=Int.ediv_nonneg h (Int.le_of_lt (one_pos' _))
theorem even_nn (x:Int) {n:Nat} (h:n % 2=0):0<=x ^ n:=by
 by_cases hx:0<=x
 ·exact pow_nn hx n
 ·rw [show n=2*(n / 2) by omega,←neg_pow_even]
  exact pow_nn (by omega) _
theorem even_le {x y:Int} {n:Nat} (h:n % 2=0) (h1:x<=y) (h2:-x<=y):x ^ n<=y ^ n:=by
 by_cases hx:0<=x
 ·exact pow_le_pos hx h1 n
 ·have:=pow_le_pos (x:=-x) (y:=y) (by omega) h2 n
  rw [show n=2*(n / 2) by omega,neg_pow_even,←show n=2*(n / 2) by omega] at this
  exact this
theorem pow_laws {s:Int×Int} {n:Nat} (h:okS s) (h1:1<=n) (hn:n<=16):(pAll s n->pLo s n<=pHi s n/\sPow s (n:Int)=sT (pLo s n) (pHi s n))/\(¬pAll s n->sPow s (n:Int)=((0,0),6)):=by
 rw [sPow_pw h h1 hn]
 obtain ⟨g1,g2,g3⟩:=h
 have a1:=rwr_le s.1 n
 have a2:=rwr_le s.2 n
 -- one form for all: the answer's ends are the least and the greatest
 have key:∀lo hi:Int,lo=pLo s n->hi=pHi s n->(lo<=hi)->((-4503599627370496<=lo/\hi<=4503599627370496)->pAll s n)->(pAll s n->pLo s n<=pHi s n/\sT lo hi=sT (pLo s n) (pHi s n))/\(¬pAll s n->sT lo hi=((0,0),6)):=by
  rintro lo hi rfl rfl hle hk
  exact ⟨fun _=>⟨hle,rfl⟩,fun hno=>sT_bad (fun g=>hno (hk g))⟩
 by_cases e:n % 2=0
 ·rw [if_pos e]
  have n1:=rwr_nn (even_nn s.1 e)
  have n2:=rwr_nn (even_nn s.2 e)
  by_cases p1:0<=s.1
  ·have m1:=rwr_mono false (even_le e (x:=s.1) (y:=s.2) g2 (by omega))
   have m2:=rwr_mono true (even_le e (x:=s.1) (y:=s.2) g2 (by omega))
   rw [show max (max s.1 (-s.2)) 0=s.1 by omega,show max s.2 (-s.1)=s.2 by omega]
   exact key _ _ (by unfold pLo;rw [if_neg (by omega)];omega) (by unfold pHi;omega) (by omega) (fun g=>by unfold pAll ok;omega)
  ·by_cases p2:s.2<=0
   ·have m1:=rwr_mono false (even_le e (x:=s.2) (y:=-s.1) (by omega) (by omega))
    have m2:=rwr_mono true (even_le e (x:=s.2) (y:=-s.1) (by omega) (by omega))
    rw [rwr_even _ _ e] at m1 m2
    rw [show max (max s.1 (-s.2)) 0=-s.2 by omega,show max s.2 (-s.1)=-s.1 by omega,rwr_even _ _ e,rwr_even _ _ e]
    exact key _ _ (by unfold pLo;rw [if_neg (by omega)];omega) (by unfold pHi;omega) (by omega) (fun g=>by unfold pAll ok;omega)
   ·rw [show max (max s.1 (-s.2)) 0=0 by omega,rwr_zero n h1]
    have hh:rwr true (max s.2 (-s.1)) n=pHi s n:=by
     unfold pHi
     by_cases p3:-s.1<=s.2
     ·have m2:=rwr_mono true (even_le e (x:=s.1) (y:=s.2) g2 p3)
      rw [show max s.2 (-s.1)=s.2 by omega]
      omega
     ·have m2:=rwr_mono true (even_le e (x:=s.2) (y:=-s.1) (by omega) (by omega))
      rw [rwr_even _ _ e] at m2
      rw [show max s.2 (-s.1)=-s.1 by omega,rwr_even _ _ e]
      omega
    rw [hh]
    exact key _ _ (by unfold pLo;rw [if_pos (by omega)]) rfl (by unfold pHi;omega) (fun g=>by unfold pHi at g;unfold pAll ok;omega)
 ·rw [if_neg e]
  have hm:s.1 ^ n<=s.2 ^ n:=by
   rw [show n=2*(n / 2)+1 by omega]
   exact pow_le_odd g2 _
  have m1:=rwr_mono false hm
  have m2:=rwr_mono true hm
  exact key _ _ (by unfold pLo;rw [if_neg (by omega)];omega) (by unfold pHi;omega) (by omega) (fun g=>by unfold pAll ok;omega)
end Mnc
namespace Go.Proofs.YthhkcfpljgdnhaaGreat
open Go.RowKit Mnc

/-- How raised answers. -/
def RsEnd (v:Int) (n:Nat) (up:Bool) (e:Ending):Prop:=∃(X:Int) (F:Bool),e=.returned (.tuple #[.int .i64 X,.bool F])/\(F=true->X=rwr up v n/\ok X)/\(F=false->¬ok (rwr up v n))/\-4503599627436032<=X/\X<=4503599627436032

set_option maxHeartbeats 2000000 in
theorem ref2_raised (v:Int) (hv:ok v) (n:Nat) (h1:1<=n) (hn:n<=16) (up:Bool) (w:World) :
  Calls Tryz.prog 102 #[.int .i64 v,.int .i64 (n:Int),.bool up] w fun e w'=>RsEnd v n up e/\Below w.heap.size w w':=by
 obtain ⟨hv1,hv2⟩:=hv
 by_cases hp:0<=v
 ·obtain ⟨V,rfl⟩:=Int.eq_ofNat_of_zero_le hp
  have HW:=Lib.hid (rwr_nat up V n)
  have HC:=Lib.hid (fun W=>ref2_power V n (by omega) h1 hn up W)
  go_enter Tryz.func102,Tryz.ntmps102
  go_wp2_with fail
  refine (HC.out _).mono ?_;rintro e w2 ⟨⟨X,F,rfl,h2,h3,h4⟩,hb⟩
  have H2:=Lib.hid h2
  have H3:=Lib.hid h3
  have H4:=Lib.hid h4
  clear h2 h3 h4
  go_wp2_with fail
  go_ret2
  exact ⟨⟨X,F,rfl,(fun h=>⟨by rw [HW.out,(H2.out h).1],by have:=(H2.out h).2;unfold ok;omega⟩),(fun h=>by rw [HW.out];have:=H3.out h;unfold ok;omega),by omega,by have:=H4.out;omega⟩,hb⟩
 ·obtain ⟨V,hV⟩:=Int.eq_ofNat_of_zero_le (show 0<=-v by omega)
  have d0:decide (0<=v)=false:=decide_eq_false hp
  by_cases ev:n % 2=0
  ·have HW:=Lib.hid (show rwr up v n=(pwX V n up:Int) by rw [←rwr_even up v ev,hV];exact rwr_nat up V n)
   have HC:=Lib.hid (fun W=>ref2_power V n (by omega) h1 hn up W)
   have d1:((n:Int) % 2==0)=true:=by simp;omega
   go_enter Tryz.func102,Tryz.ntmps102
   go_wp2_with fail
   refine (HC.out _).mono ?_;rintro e w2 ⟨⟨X,F,rfl,h2,h3,h4⟩,hb⟩
   have H2:=Lib.hid h2
   have H3:=Lib.hid h3
   have H4:=Lib.hid h4
   clear h2 h3 h4
   go_wp2_with fail
   go_ret2
   exact ⟨⟨X,F,rfl,(fun h=>⟨by rw [HW.out,(H2.out h).1],by have:=(H2.out h).2;unfold ok;omega⟩),(fun h=>by rw [HW.out];have:=H3.out h;unfold ok;omega),by omega,by have:=H4.out;omega⟩,hb⟩
  ·have HW:=Lib.hid (show rwr up v n=-(pwX V n (!up):Int) by rw [show v=-(V:Int) by omega];exact rwr_odd up V n (by omega))
   have HC:=Lib.hid (fun W=>ref2_power V n (by omega) h1 hn (!up) W)
   have d1:((n:Int) % 2==0)=false:=by simp;omega
   go_enter Tryz.func102,Tryz.ntmps102
   go_wp2_with fail
   refine (HC.out _).mono ?_;rintro e w2 ⟨⟨X,F,rfl,h2,h3,h4⟩,hb⟩
   have H2:=Lib.hid h2
   have H3:=Lib.hid h3
   have H4:=Lib.hid h4
   have h5:(X:Int)<=4503599627436032:=by omega
   clear h2 h3 h4
   go_wp2_with fail
   go_ret2
   exact ⟨⟨-(X:Int),F,rfl,(fun h=>⟨by rw [HW.out,(H2.out h).1],by have:=(H2.out h).2;unfold ok;omega⟩),(fun h=>by rw [HW.out];have:=H3.out h;unfold ok;omega),by omega,by omega⟩,hb⟩

set_option maxHeartbeats 8000000 in
theorem ref2_Pow_bad (s:Int×Int) (n:Int) (h:¬okS s) (w:World) :
  Calls Tryz.prog 84 #[.agg #[.int .i64 s.1,.int .i64 s.2],.int .i64 n] w fun e w'=>e=.returned (.tuple #[.agg #[.int .i64 (sPow s n).1.1,.int .i64 (sPow s n).1.2],.int .i64 (sPow s n).2])/\Below w.heap.size w w':=by
 have hB:=Bx2.start w s (0,0)
 have H:=Lib.hid h
 have HR:=Lib.hid (show sPow s n=((0,0),20) from if_neg h)
 clear h
 go_enter Tryz.func84,Tryz.ntmps84
 go_wp2_with fail
 refine (ref2_Right_bad H.out _).mono ?_;rintro e w2 ⟨rfl,hbel⟩
 replace hB:=hB.on hbel
 clear hbel
 have c0:=cell_two0 hB.b1
 have c1:=cell_two1 hB.b1
 have f0:=free_two (i:=0) hB.b1
 have f1:=free_two (i:=1) hB.b1
 have l2:=lt_of_block hB.b1
 go_wp2_with fail
 exact bodyPost_ret (v:=.tuple #[.agg #[.int .i64 0,.int .i64 0],.int .i64 20]) (by simp [results,Tryz.results84,go_sem,c0,c1]) rfl ⟨ret_sp HR.out,below_set2 hB.bel (by omega) _ _⟩

set_option maxHeartbeats 8000000 in
theorem ref2_Pow_low (s:Int×Int) (n:Int) (h:okS s) (hn:n<0) (w:World) :
  Calls Tryz.prog 84 #[.agg #[.int .i64 s.1,.int .i64 s.2],.int .i64 n] w fun e w'=>e=.returned (.tuple #[.agg #[.int .i64 (sPow s n).1.1,.int .i64 (sPow s n).1.2],.int .i64 (sPow s n).2])/\Below w.heap.size w w':=by
 have hB:=Bx2.start w s (0,0)
 have H:=Lib.hid h
 have HR:=Lib.hid (show sPow s n=((0,0),2) by unfold sPow;rw [if_pos h,if_pos (by omega)])
 clear h
 go_enter Tryz.func84,Tryz.ntmps84
 go_wp2_with fail
 refine (ref2_Right_ok H.out _).mono ?_;rintro e w2 ⟨rfl,hbel⟩
 replace hB:=hB.on hbel
 clear hbel
 have c0:=cell_two0 hB.b1
 have c1:=cell_two1 hB.b1
 have f0:=free_two (i:=0) hB.b1
 have f1:=free_two (i:=1) hB.b1
 have l2:=lt_of_block hB.b1
 go_wp2_with fail
 exact bodyPost_ret (v:=.tuple #[.agg #[.int .i64 0,.int .i64 0],.int .i64 2]) (by simp [results,Tryz.results84,go_sem,c0,c1]) rfl ⟨ret_sp HR.out,below_set2 hB.bel (by omega) _ _⟩

set_option maxHeartbeats 8000000 in
theorem ref2_Pow_high (s:Int×Int) (n:Int) (h:okS s) (hn:16<n) (w:World) :
  Calls Tryz.prog 84 #[.agg #[.int .i64 s.1,.int .i64 s.2],.int .i64 n] w fun e w'=>e=.returned (.tuple #[.agg #[.int .i64 (sPow s n).1.1,.int .i64 (sPow s n).1.2],.int .i64 (sPow s n).2])/\Below w.heap.size w w':=by
 have hB:=Bx2.start w s (0,0)
 have H:=Lib.hid h
 have HR:=Lib.hid (show sPow s n=((0,0),2) by unfold sPow;rw [if_pos h,if_pos (by omega)])
 clear h
 go_enter Tryz.func84,Tryz.ntmps84
 go_wp2_with fail
 refine (ref2_Right_ok H.out _).mono ?_;rintro e w2 ⟨rfl,hbel⟩
 replace hB:=hB.on hbel
 clear hbel
 have c0:=cell_two0 hB.b1
 have c1:=cell_two1 hB.b1
 have f0:=free_two (i:=0) hB.b1
 have f1:=free_two (i:=1) hB.b1
 have l2:=lt_of_block hB.b1
 go_wp2_with fail
 exact bodyPost_ret (v:=.tuple #[.agg #[.int .i64 0,.int .i64 0],.int .i64 2]) (by simp [results,Tryz.results84,go_sem,c0,c1]) rfl ⟨ret_sp HR.out,below_set2 hB.bel (by omega) _ _⟩

set_option maxHeartbeats 8000000 in
theorem ref2_Pow_zero (s:Int×Int) (h:okS s) (w:World) :
  Calls Tryz.prog 84 #[.agg #[.int .i64 s.1,.int .i64 s.2],.int .i64 0] w fun e w'=>e=.returned (.tuple #[.agg #[.int .i64 (sPow s 0).1.1,.int .i64 (sPow s 0).1.2],.int .i64 (sPow s 0).2])/\Below w.heap.size w w':=by
 have hB:=Bx2.start w s (0,0)
 have H:=Lib.hid h
 have HR:=Lib.hid (show sPow s 0=((4294967296,4294967296),0) by unfold sPow;rw [if_pos h,if_neg (by omega),if_pos rfl])
 clear h
 go_enter Tryz.func84,Tryz.ntmps84
 go_wp2_with fail
 refine (ref2_Right_ok H.out _).mono ?_;rintro e w2 ⟨rfl,hbel⟩
 replace hB:=hB.on hbel
 clear hbel
 have c0:=cell_two0 hB.b1
 have c1:=cell_two1 hB.b1
 have f0:=free_two (i:=0) hB.b1
 have f1:=free_two (i:=1) hB.b1
 have l2:=lt_of_block hB.b1
 go_wp2_with fail
 exact bodyPost_ret (v:=.tuple #[.agg #[.int .i64 4294967296,.int .i64 4294967296],.int .i64 0]) (by simp [results,Tryz.results84,go_sem,c0,c1]) rfl ⟨ret_sp HR.out,below_set2 hB.bel (by omega) _ _⟩

set_option maxHeartbeats 8000000 in
theorem ref2_Pow_odd (s:Int×Int) (n:Nat) (h:okS s) (h1:1<=n) (hn:n<=16) (he:n % 2=1) (w:World) :
  Calls Tryz.prog 84 #[.agg #[.int .i64 s.1,.int .i64 s.2],.int .i64 (n:Int)] w fun e w'=>e=.returned (.tuple #[.agg #[.int .i64 (sPow s (n:Int)).1.1,.int .i64 (sPow s (n:Int)).1.2],.int .i64 (sPow s (n:Int)).2])/\Below w.heap.size w w':=by
 have hB:=Bx2.start w s (0,0)
 have H:=Lib.hid h
 have HL:=Lib.hid (pow_laws h h1 hn)
 have HLo:=Lib.hid (show pLo s n=(min (rwr false s.1 n) (rwr false s.2 n)) from if_neg (by omega))
 have HHi:=Lib.hid (show pHi s n=max (rwr true s.1 n) (rwr true s.2 n) from rfl)
 have HC1:=Lib.hid (fun W=>ref2_raised s.1 h.lo n h1 hn false W)
 have HC2:=Lib.hid (fun W=>ref2_raised s.2 h.hi n h1 hn false W)
 have HC3:=Lib.hid (fun W=>ref2_raised s.1 h.lo n h1 hn true W)
 have HC4:=Lib.hid (fun W=>ref2_raised s.2 h.hi n h1 hn true W)
 have d1:((n:Int) % 2==0)=false:=by simp;omega
 clear h
 go_enter Tryz.func84,Tryz.ntmps84
 go_wp2_with fail
 refine (ref2_Right_ok H.out _).mono ?_;rintro e w2 ⟨rfl,hbel⟩
 replace hB:=hB.on hbel
 clear hbel
 have a0:=cell_two0 hB.b0
 have a1:=cell_two1 hB.b0
 have la:=lt_of_block hB.b0
 go_wp2_with fail
 clear a0 a1 la
 refine (HC1.out _).mono ?_;rintro e w2 ⟨⟨R1,F1,rfl,ha1,hb1,-,-⟩,hbel⟩
 replace hB:=hB.on hbel
 clear hbel
 have HA1:=Lib.hid ha1
 have HB1:=Lib.hid hb1
 clear ha1 hb1
 have a0:=cell_two0 hB.b0
 have a1:=cell_two1 hB.b0
 have la:=lt_of_block hB.b0
 go_wp2_with fail
 clear a0 a1 la
 refine (HC2.out _).mono ?_;rintro e w2 ⟨⟨R2,F2,rfl,ha2,hb2,-,-⟩,hbel⟩
 replace hB:=hB.on hbel
 clear hbel
 have HA2:=Lib.hid ha2
 have HB2:=Lib.hid hb2
 clear ha2 hb2
 have a0:=cell_two0 hB.b0
 have a1:=cell_two1 hB.b0
 have la:=lt_of_block hB.b0
 go_wp2_with fail
 clear a0 a1 la
 refine (HC3.out _).mono ?_;rintro e w2 ⟨⟨R3,F3,rfl,ha3,hb3,-,-⟩,hbel⟩
 replace hB:=hB.on hbel
 clear hbel
 have HA3:=Lib.hid ha3
 have HB3:=Lib.hid hb3
 clear ha3 hb3
 have a0:=cell_two0 hB.b0
 have a1:=cell_two1 hB.b0
 have la:=lt_of_block hB.b0
 go_wp2_with fail
 clear a0 a1 la
 refine (HC4.out _).mono ?_;rintro e w2 ⟨⟨R4,F4,rfl,ha4,hb4,-,-⟩,hbel⟩
 replace hB:=hB.on hbel
 clear hbel
 have HA4:=Lib.hid ha4
 have HB4:=Lib.hid hb4
 clear ha4 hb4
 clear HC1 HC2 HC3 HC4
 cases F1 with
 | false =>
  have HBad:=Lib.hid (HL.out.2 (fun g=>HB1.out rfl g.1))
  have a0:=cell_two0 hB.b0
  have a1:=cell_two1 hB.b0
  have la:=lt_of_block hB.b0
  go_wp2_with fail
  clear a0 a1 la
  refine (ref2_result_no _ _ _).mono ?_;rintro e w2 ⟨rfl,hbel⟩
  replace hB:=hB.on hbel
  clear hbel
  have c0:=cell_two0 hB.b1
  have c1:=cell_two1 hB.b1
  have f0:=free_two (i:=0) hB.b1
  have f1:=free_two (i:=1) hB.b1
  have l2:=lt_of_block hB.b1
  go_wp2_with fail
  exact bodyPost_ret (v:=.tuple #[.agg #[.int .i64 0,.int .i64 0],.int .i64 6]) (by simp [results,Tryz.results84,go_sem,c0,c1]) rfl ⟨ret_sp HBad.out,below_set2 hB.bel (by omega) _ _⟩
 | true =>
  obtain ⟨rfl,k1⟩:=HA1.out rfl
  have K1:=Lib.hid k1
  clear k1
  cases F2 with
  | false =>
   have HBad:=Lib.hid (HL.out.2 (fun g=>HB2.out rfl g.2.1))
   have a0:=cell_two0 hB.b0
   have a1:=cell_two1 hB.b0
   have la:=lt_of_block hB.b0
   go_wp2_with fail
   clear a0 a1 la
   refine (ref2_result_no _ _ _).mono ?_;rintro e w2 ⟨rfl,hbel⟩
   replace hB:=hB.on hbel
   clear hbel
   have c0:=cell_two0 hB.b1
   have c1:=cell_two1 hB.b1
   have f0:=free_two (i:=0) hB.b1
   have f1:=free_two (i:=1) hB.b1
   have l2:=lt_of_block hB.b1
   go_wp2_with fail
   exact bodyPost_ret (v:=.tuple #[.agg #[.int .i64 0,.int .i64 0],.int .i64 6]) (by simp [results,Tryz.results84,go_sem,c0,c1]) rfl ⟨ret_sp HBad.out,below_set2 hB.bel (by omega) _ _⟩
  | true =>
   obtain ⟨rfl,k2⟩:=HA2.out rfl
   have K2:=Lib.hid k2
   clear k2
   cases F3 with
   | false =>
    have HBad:=Lib.hid (HL.out.2 (fun g=>HB3.out rfl g.2.2.1))
    have a0:=cell_two0 hB.b0
    have a1:=cell_two1 hB.b0
    have la:=lt_of_block hB.b0
    go_wp2_with fail
    clear a0 a1 la
    refine (ref2_result_no _ _ _).mono ?_;rintro e w2 ⟨rfl,hbel⟩
    replace hB:=hB.on hbel
    clear hbel
    have c0:=cell_two0 hB.b1
    have c1:=cell_two1 hB.b1
    have f0:=free_two (i:=0) hB.b1
    have f1:=free_two (i:=1) hB.b1
    have l2:=lt_of_block hB.b1
    go_wp2_with fail
    exact bodyPost_ret (v:=.tuple #[.agg #[.int .i64 0,.int .i64 0],.int .i64 6]) (by simp [results,Tryz.results84,go_sem,c0,c1]) rfl ⟨ret_sp HBad.out,below_set2 hB.bel (by omega) _ _⟩
   | true =>
    obtain ⟨rfl,k3⟩:=HA3.out rfl
    have K3:=Lib.hid k3
    clear k3
    cases F4 with
    | false =>
     have HBad:=Lib.hid (HL.out.2 (fun g=>HB4.out rfl g.2.2.2))
     have a0:=cell_two0 hB.b0
     have a1:=cell_two1 hB.b0
     have la:=lt_of_block hB.b0
     go_wp2_with fail
     clear a0 a1 la
     refine (ref2_result_no _ _ _).mono ?_;rintro e w2 ⟨rfl,hbel⟩
     replace hB:=hB.on hbel
     clear hbel
     have c0:=cell_two0 hB.b1
     have c1:=cell_two1 hB.b1
     have f0:=free_two (i:=0) hB.b1
     have f1:=free_two (i:=1) hB.b1
     have l2:=lt_of_block hB.b1
     go_wp2_with fail
     exact bodyPost_ret (v:=.tuple #[.agg #[.int .i64 0,.int .i64 0],.int .i64 6]) (by simp [results,Tryz.results84,go_sem,c0,c1]) rfl ⟨ret_sp HBad.out,below_set2 hB.bel (by omega) _ _⟩
    | true =>
     obtain ⟨rfl,k4⟩:=HA4.out rfl
     have K4:=Lib.hid k4
     clear k4
     obtain ⟨hle,heq⟩:=HL.out.1 ⟨K1.out,K2.out,K3.out,K4.out⟩
     rw [HLo.out,HHi.out] at hle heq
     have HLE:=Lib.hid hle
     have HEQ:=Lib.hid heq
     clear hle heq HL HLo HHi HA1 HA2 HA3 HA4 HB1 HB2 HB3 HB4 K1 K2 K3 K4
     have a0:=cell_two0 hB.b0
     have a1:=cell_two1 hB.b0
     have la:=lt_of_block hB.b0
     go_wp2_with fail
     clear a0 a1 la
     refine (ref2_result (min (rwr false s.1 n) (rwr false s.2 n)) (max (rwr true s.1 n) (rwr true s.2 n)) HLE.out _).mono ?_;rintro e w2 ⟨rfl,hbel⟩
     replace hB:=hB.on hbel
     clear hbel
     have HF:=Lib.hid HEQ.out
     clear HEQ HLE
     generalize sT (min (rwr false s.1 n) (rwr false s.2 n)) (max (rwr true s.1 n) (rwr true s.2 n))=r at *
     have c0:=cell_two0 hB.b1
     have c1:=cell_two1 hB.b1
     have f0:=free_two (i:=0) hB.b1
     have f1:=free_two (i:=1) hB.b1
     have l2:=lt_of_block hB.b1
     go_wp2_with fail
     exact bodyPost_ret (v:=.tuple #[.agg #[.int .i64 r.1.1,.int .i64 r.1.2],.int .i64 r.2]) (by simp [results,Tryz.results84,go_sem,c0,c1]) rfl ⟨by rw [HF.out],below_set2 hB.bel (by omega) _ _⟩

set_option maxHeartbeats 8000000 in
theorem ref2_Pow_pos (s:Int×Int) (n:Nat) (h:okS s) (h1:1<=n) (hn:n<=16) (he:n % 2=0) (hl:¬s.1<0) (w:World) :
  Calls Tryz.prog 84 #[.agg #[.int .i64 s.1,.int .i64 s.2],.int .i64 (n:Int)] w fun e w'=>e=.returned (.tuple #[.agg #[.int .i64 (sPow s (n:Int)).1.1,.int .i64 (sPow s (n:Int)).1.2],.int .i64 (sPow s (n:Int)).2])/\Below w.heap.size w w':=by
 have hB:=Bx2.start w s (0,0)
 have H:=Lib.hid h
 have HL:=Lib.hid (pow_laws h h1 hn)
 have HLo:=Lib.hid (show pLo s n=(min (rwr false s.1 n) (rwr false s.2 n)) from if_neg (by omega))
 have HHi:=Lib.hid (show pHi s n=max (rwr true s.1 n) (rwr true s.2 n) from rfl)
 have HC1:=Lib.hid (fun W=>ref2_raised s.1 h.lo n h1 hn false W)
 have HC2:=Lib.hid (fun W=>ref2_raised s.2 h.hi n h1 hn false W)
 have HC3:=Lib.hid (fun W=>ref2_raised s.1 h.lo n h1 hn true W)
 have HC4:=Lib.hid (fun W=>ref2_raised s.2 h.hi n h1 hn true W)
 have d1:((n:Int) % 2==0)=true:=by simp;omega
 have d2:decide (s.1<0)=false:=decide_eq_false hl
 clear h
 go_enter Tryz.func84,Tryz.ntmps84
 go_wp2_with fail
 refine (ref2_Right_ok H.out _).mono ?_;rintro e w2 ⟨rfl,hbel⟩
 replace hB:=hB.on hbel
 clear hbel
 have a0:=cell_two0 hB.b0
 have a1:=cell_two1 hB.b0
 have la:=lt_of_block hB.b0
 go_wp2_with fail
 clear a0 a1 la
 refine (HC1.out _).mono ?_;rintro e w2 ⟨⟨R1,F1,rfl,ha1,hb1,-,-⟩,hbel⟩
 replace hB:=hB.on hbel
 clear hbel
 have HA1:=Lib.hid ha1
 have HB1:=Lib.hid hb1
 clear ha1 hb1
 have a0:=cell_two0 hB.b0
 have a1:=cell_two1 hB.b0
 have la:=lt_of_block hB.b0
 go_wp2_with fail
 clear a0 a1 la
 refine (HC2.out _).mono ?_;rintro e w2 ⟨⟨R2,F2,rfl,ha2,hb2,-,-⟩,hbel⟩
 replace hB:=hB.on hbel
 clear hbel
 have HA2:=Lib.hid ha2
 have HB2:=Lib.hid hb2
 clear ha2 hb2
 have a0:=cell_two0 hB.b0
 have a1:=cell_two1 hB.b0
 have la:=lt_of_block hB.b0
 go_wp2_with fail
 clear a0 a1 la
 refine (HC3.out _).mono ?_;rintro e w2 ⟨⟨R3,F3,rfl,ha3,hb3,-,-⟩,hbel⟩
 replace hB:=hB.on hbel
 clear hbel
 have HA3:=Lib.hid ha3
 have HB3:=Lib.hid hb3
 clear ha3 hb3
 have a0:=cell_two0 hB.b0
 have a1:=cell_two1 hB.b0
 have la:=lt_of_block hB.b0
 go_wp2_with fail
 clear a0 a1 la
 refine (HC4.out _).mono ?_;rintro e w2 ⟨⟨R4,F4,rfl,ha4,hb4,-,-⟩,hbel⟩
 replace hB:=hB.on hbel
 clear hbel
 have HA4:=Lib.hid ha4
 have HB4:=Lib.hid hb4
 clear ha4 hb4
 clear HC1 HC2 HC3 HC4
 cases F1 with
 | false =>
  have HBad:=Lib.hid (HL.out.2 (fun g=>HB1.out rfl g.1))
  have a0:=cell_two0 hB.b0
  have a1:=cell_two1 hB.b0
  have la:=lt_of_block hB.b0
  go_wp2_with fail
  clear a0 a1 la
  refine (ref2_result_no _ _ _).mono ?_;rintro e w2 ⟨rfl,hbel⟩
  replace hB:=hB.on hbel
  clear hbel
  have c0:=cell_two0 hB.b1
  have c1:=cell_two1 hB.b1
  have f0:=free_two (i:=0) hB.b1
  have f1:=free_two (i:=1) hB.b1
  have l2:=lt_of_block hB.b1
  go_wp2_with fail
  exact bodyPost_ret (v:=.tuple #[.agg #[.int .i64 0,.int .i64 0],.int .i64 6]) (by simp [results,Tryz.results84,go_sem,c0,c1]) rfl ⟨ret_sp HBad.out,below_set2 hB.bel (by omega) _ _⟩
 | true =>
  obtain ⟨rfl,k1⟩:=HA1.out rfl
  have K1:=Lib.hid k1
  clear k1
  cases F2 with
  | false =>
   have HBad:=Lib.hid (HL.out.2 (fun g=>HB2.out rfl g.2.1))
   have a0:=cell_two0 hB.b0
   have a1:=cell_two1 hB.b0
   have la:=lt_of_block hB.b0
   go_wp2_with fail
   clear a0 a1 la
   refine (ref2_result_no _ _ _).mono ?_;rintro e w2 ⟨rfl,hbel⟩
   replace hB:=hB.on hbel
   clear hbel
   have c0:=cell_two0 hB.b1
   have c1:=cell_two1 hB.b1
   have f0:=free_two (i:=0) hB.b1
   have f1:=free_two (i:=1) hB.b1
   have l2:=lt_of_block hB.b1
   go_wp2_with fail
   exact bodyPost_ret (v:=.tuple #[.agg #[.int .i64 0,.int .i64 0],.int .i64 6]) (by simp [results,Tryz.results84,go_sem,c0,c1]) rfl ⟨ret_sp HBad.out,below_set2 hB.bel (by omega) _ _⟩
  | true =>
   obtain ⟨rfl,k2⟩:=HA2.out rfl
   have K2:=Lib.hid k2
   clear k2
   cases F3 with
   | false =>
    have HBad:=Lib.hid (HL.out.2 (fun g=>HB3.out rfl g.2.2.1))
    have a0:=cell_two0 hB.b0
    have a1:=cell_two1 hB.b0
    have la:=lt_of_block hB.b0
    go_wp2_with fail
    clear a0 a1 la
    refine (ref2_result_no _ _ _).mono ?_;rintro e w2 ⟨rfl,hbel⟩
    replace hB:=hB.on hbel
    clear hbel
    have c0:=cell_two0 hB.b1
    have c1:=cell_two1 hB.b1
    have f0:=free_two (i:=0) hB.b1
    have f1:=free_two (i:=1) hB.b1
    have l2:=lt_of_block hB.b1
    go_wp2_with fail
    exact bodyPost_ret (v:=.tuple #[.agg #[.int .i64 0,.int .i64 0],.int .i64 6]) (by simp [results,Tryz.results84,go_sem,c0,c1]) rfl ⟨ret_sp HBad.out,below_set2 hB.bel (by omega) _ _⟩
   | true =>
    obtain ⟨rfl,k3⟩:=HA3.out rfl
    have K3:=Lib.hid k3
    clear k3
    cases F4 with
    | false =>
     have HBad:=Lib.hid (HL.out.2 (fun g=>HB4.out rfl g.2.2.2))
     have a0:=cell_two0 hB.b0
     have a1:=cell_two1 hB.b0
     have la:=lt_of_block hB.b0
     go_wp2_with fail
     clear a0 a1 la
     refine (ref2_result_no _ _ _).mono ?_;rintro e w2 ⟨rfl,hbel⟩
     replace hB:=hB.on hbel
     clear hbel
     have c0:=cell_two0 hB.b1
     have c1:=cell_two1 hB.b1
     have f0:=free_two (i:=0) hB.b1
     have f1:=free_two (i:=1) hB.b1
     have l2:=lt_of_block hB.b1
     go_wp2_with fail
     exact bodyPost_ret (v:=.tuple #[.agg #[.int .i64 0,.int .i64 0],.int .i64 6]) (by simp [results,Tryz.results84,go_sem,c0,c1]) rfl ⟨ret_sp HBad.out,below_set2 hB.bel (by omega) _ _⟩
    | true =>
     obtain ⟨rfl,k4⟩:=HA4.out rfl
     have K4:=Lib.hid k4
     clear k4
     obtain ⟨hle,heq⟩:=HL.out.1 ⟨K1.out,K2.out,K3.out,K4.out⟩
     rw [HLo.out,HHi.out] at hle heq
     have HLE:=Lib.hid hle
     have HEQ:=Lib.hid heq
     clear hle heq HL HLo HHi HA1 HA2 HA3 HA4 HB1 HB2 HB3 HB4 K1 K2 K3 K4
     have a0:=cell_two0 hB.b0
     have a1:=cell_two1 hB.b0
     have la:=lt_of_block hB.b0
     go_wp2_with fail
     clear a0 a1 la
     refine (ref2_result (min (rwr false s.1 n) (rwr false s.2 n)) (max (rwr true s.1 n) (rwr true s.2 n)) HLE.out _).mono ?_;rintro e w2 ⟨rfl,hbel⟩
     replace hB:=hB.on hbel
     clear hbel
     have HF:=Lib.hid HEQ.out
     clear HEQ HLE
     generalize sT (min (rwr false s.1 n) (rwr false s.2 n)) (max (rwr true s.1 n) (rwr true s.2 n))=r at *
     have c0:=cell_two0 hB.b1
     have c1:=cell_two1 hB.b1
     have f0:=free_two (i:=0) hB.b1
     have f1:=free_two (i:=1) hB.b1
     have l2:=lt_of_block hB.b1
     go_wp2_with fail
     exact bodyPost_ret (v:=.tuple #[.agg #[.int .i64 r.1.1,.int .i64 r.1.2],.int .i64 r.2]) (by simp [results,Tryz.results84,go_sem,c0,c1]) rfl ⟨by rw [HF.out],below_set2 hB.bel (by omega) _ _⟩

set_option maxHeartbeats 8000000 in
theorem ref2_Pow_neg (s:Int×Int) (n:Nat) (h:okS s) (h1:1<=n) (hn:n<=16) (he:n % 2=0) (hl:s.1<0) (hh:¬0<s.2) (w:World) :
  Calls Tryz.prog 84 #[.agg #[.int .i64 s.1,.int .i64 s.2],.int .i64 (n:Int)] w fun e w'=>e=.returned (.tuple #[.agg #[.int .i64 (sPow s (n:Int)).1.1,.int .i64 (sPow s (n:Int)).1.2],.int .i64 (sPow s (n:Int)).2])/\Below w.heap.size w w':=by
 have hB:=Bx2.start w s (0,0)
 have H:=Lib.hid h
 have HL:=Lib.hid (pow_laws h h1 hn)
 have HLo:=Lib.hid (show pLo s n=(min (rwr false s.1 n) (rwr false s.2 n)) from if_neg (by omega))
 have HHi:=Lib.hid (show pHi s n=max (rwr true s.1 n) (rwr true s.2 n) from rfl)
 have HC1:=Lib.hid (fun W=>ref2_raised s.1 h.lo n h1 hn false W)
 have HC2:=Lib.hid (fun W=>ref2_raised s.2 h.hi n h1 hn false W)
 have HC3:=Lib.hid (fun W=>ref2_raised s.1 h.lo n h1 hn true W)
 have HC4:=Lib.hid (fun W=>ref2_raised s.2 h.hi n h1 hn true W)
 have d1:((n:Int) % 2==0)=true:=by simp;omega
 have d2:decide (s.1<0)=true:=decide_eq_true hl
 have d3:decide (0<s.2)=false:=decide_eq_false hh
 clear h
 go_enter Tryz.func84,Tryz.ntmps84
 go_wp2_with fail
 refine (ref2_Right_ok H.out _).mono ?_;rintro e w2 ⟨rfl,hbel⟩
 replace hB:=hB.on hbel
 clear hbel
 have a0:=cell_two0 hB.b0
 have a1:=cell_two1 hB.b0
 have la:=lt_of_block hB.b0
 go_wp2_with fail
 clear a0 a1 la
 refine (HC1.out _).mono ?_;rintro e w2 ⟨⟨R1,F1,rfl,ha1,hb1,-,-⟩,hbel⟩
 replace hB:=hB.on hbel
 clear hbel
 have HA1:=Lib.hid ha1
 have HB1:=Lib.hid hb1
 clear ha1 hb1
 have a0:=cell_two0 hB.b0
 have a1:=cell_two1 hB.b0
 have la:=lt_of_block hB.b0
 go_wp2_with fail
 clear a0 a1 la
 refine (HC2.out _).mono ?_;rintro e w2 ⟨⟨R2,F2,rfl,ha2,hb2,-,-⟩,hbel⟩
 replace hB:=hB.on hbel
 clear hbel
 have HA2:=Lib.hid ha2
 have HB2:=Lib.hid hb2
 clear ha2 hb2
 have a0:=cell_two0 hB.b0
 have a1:=cell_two1 hB.b0
 have la:=lt_of_block hB.b0
 go_wp2_with fail
 clear a0 a1 la
 refine (HC3.out _).mono ?_;rintro e w2 ⟨⟨R3,F3,rfl,ha3,hb3,-,-⟩,hbel⟩
 replace hB:=hB.on hbel
 clear hbel
 have HA3:=Lib.hid ha3
 have HB3:=Lib.hid hb3
 clear ha3 hb3
 have a0:=cell_two0 hB.b0
 have a1:=cell_two1 hB.b0
 have la:=lt_of_block hB.b0
 go_wp2_with fail
 clear a0 a1 la
 refine (HC4.out _).mono ?_;rintro e w2 ⟨⟨R4,F4,rfl,ha4,hb4,-,-⟩,hbel⟩
 replace hB:=hB.on hbel
 clear hbel
 have HA4:=Lib.hid ha4
 have HB4:=Lib.hid hb4
 clear ha4 hb4
 clear HC1 HC2 HC3 HC4
 cases F1 with
 | false =>
  have HBad:=Lib.hid (HL.out.2 (fun g=>HB1.out rfl g.1))
  have a0:=cell_two0 hB.b0
  have a1:=cell_two1 hB.b0
  have la:=lt_of_block hB.b0
  go_wp2_with fail
  clear a0 a1 la
  refine (ref2_result_no _ _ _).mono ?_;rintro e w2 ⟨rfl,hbel⟩
  replace hB:=hB.on hbel
  clear hbel
  have c0:=cell_two0 hB.b1
  have c1:=cell_two1 hB.b1
  have f0:=free_two (i:=0) hB.b1
  have f1:=free_two (i:=1) hB.b1
  have l2:=lt_of_block hB.b1
  go_wp2_with fail
  exact bodyPost_ret (v:=.tuple #[.agg #[.int .i64 0,.int .i64 0],.int .i64 6]) (by simp [results,Tryz.results84,go_sem,c0,c1]) rfl ⟨ret_sp HBad.out,below_set2 hB.bel (by omega) _ _⟩
 | true =>
  obtain ⟨rfl,k1⟩:=HA1.out rfl
  have K1:=Lib.hid k1
  clear k1
  cases F2 with
  | false =>
   have HBad:=Lib.hid (HL.out.2 (fun g=>HB2.out rfl g.2.1))
   have a0:=cell_two0 hB.b0
   have a1:=cell_two1 hB.b0
   have la:=lt_of_block hB.b0
   go_wp2_with fail
   clear a0 a1 la
   refine (ref2_result_no _ _ _).mono ?_;rintro e w2 ⟨rfl,hbel⟩
   replace hB:=hB.on hbel
   clear hbel
   have c0:=cell_two0 hB.b1
   have c1:=cell_two1 hB.b1
   have f0:=free_two (i:=0) hB.b1
   have f1:=free_two (i:=1) hB.b1
   have l2:=lt_of_block hB.b1
   go_wp2_with fail
   exact bodyPost_ret (v:=.tuple #[.agg #[.int .i64 0,.int .i64 0],.int .i64 6]) (by simp [results,Tryz.results84,go_sem,c0,c1]) rfl ⟨ret_sp HBad.out,below_set2 hB.bel (by omega) _ _⟩
  | true =>
   obtain ⟨rfl,k2⟩:=HA2.out rfl
   have K2:=Lib.hid k2
   clear k2
   cases F3 with
   | false =>
    have HBad:=Lib.hid (HL.out.2 (fun g=>HB3.out rfl g.2.2.1))
    have a0:=cell_two0 hB.b0
    have a1:=cell_two1 hB.b0
    have la:=lt_of_block hB.b0
    go_wp2_with fail
    clear a0 a1 la
    refine (ref2_result_no _ _ _).mono ?_;rintro e w2 ⟨rfl,hbel⟩
    replace hB:=hB.on hbel
    clear hbel
    have c0:=cell_two0 hB.b1
    have c1:=cell_two1 hB.b1
    have f0:=free_two (i:=0) hB.b1
    have f1:=free_two (i:=1) hB.b1
    have l2:=lt_of_block hB.b1
    go_wp2_with fail
    exact bodyPost_ret (v:=.tuple #[.agg #[.int .i64 0,.int .i64 0],.int .i64 6]) (by simp [results,Tryz.results84,go_sem,c0,c1]) rfl ⟨ret_sp HBad.out,below_set2 hB.bel (by omega) _ _⟩
   | true =>
    obtain ⟨rfl,k3⟩:=HA3.out rfl
    have K3:=Lib.hid k3
    clear k3
    cases F4 with
    | false =>
     have HBad:=Lib.hid (HL.out.2 (fun g=>HB4.out rfl g.2.2.2))
     have a0:=cell_two0 hB.b0
     have a1:=cell_two1 hB.b0
     have la:=lt_of_block hB.b0
     go_wp2_with fail
     clear a0 a1 la
     refine (ref2_result_no _ _ _).mono ?_;rintro e w2 ⟨rfl,hbel⟩
     replace hB:=hB.on hbel
     clear hbel
     have c0:=cell_two0 hB.b1
     have c1:=cell_two1 hB.b1
     have f0:=free_two (i:=0) hB.b1
     have f1:=free_two (i:=1) hB.b1
     have l2:=lt_of_block hB.b1
     go_wp2_with fail
     exact bodyPost_ret (v:=.tuple #[.agg #[.int .i64 0,.int .i64 0],.int .i64 6]) (by simp [results,Tryz.results84,go_sem,c0,c1]) rfl ⟨ret_sp HBad.out,below_set2 hB.bel (by omega) _ _⟩
    | true =>
     obtain ⟨rfl,k4⟩:=HA4.out rfl
     have K4:=Lib.hid k4
     clear k4
     obtain ⟨hle,heq⟩:=HL.out.1 ⟨K1.out,K2.out,K3.out,K4.out⟩
     rw [HLo.out,HHi.out] at hle heq
     have HLE:=Lib.hid hle
     have HEQ:=Lib.hid heq
     clear hle heq HL HLo HHi HA1 HA2 HA3 HA4 HB1 HB2 HB3 HB4 K1 K2 K3 K4
     have a0:=cell_two0 hB.b0
     have a1:=cell_two1 hB.b0
     have la:=lt_of_block hB.b0
     go_wp2_with fail
     clear a0 a1 la
     refine (ref2_result (min (rwr false s.1 n) (rwr false s.2 n)) (max (rwr true s.1 n) (rwr true s.2 n)) HLE.out _).mono ?_;rintro e w2 ⟨rfl,hbel⟩
     replace hB:=hB.on hbel
     clear hbel
     have HF:=Lib.hid HEQ.out
     clear HEQ HLE
     generalize sT (min (rwr false s.1 n) (rwr false s.2 n)) (max (rwr true s.1 n) (rwr true s.2 n))=r at *
     have c0:=cell_two0 hB.b1
     have c1:=cell_two1 hB.b1
     have f0:=free_two (i:=0) hB.b1
     have f1:=free_two (i:=1) hB.b1
     have l2:=lt_of_block hB.b1
     go_wp2_with fail
     exact bodyPost_ret (v:=.tuple #[.agg #[.int .i64 r.1.1,.int .i64 r.1.2],.int .i64 r.2]) (by simp [results,Tryz.results84,go_sem,c0,c1]) rfl ⟨by rw [HF.out],below_set2 hB.bel (by omega) _ _⟩

set_option maxHeartbeats 8000000 in
theorem ref2_Pow_mid (s:Int×Int) (n:Nat) (h:okS s) (h1:1<=n) (hn:n<=16) (he:n % 2=0) (hl:s.1<0) (hh:0<s.2) (w:World) :
  Calls Tryz.prog 84 #[.agg #[.int .i64 s.1,.int .i64 s.2],.int .i64 (n:Int)] w fun e w'=>e=.returned (.tuple #[.agg #[.int .i64 (sPow s (n:Int)).1.1,.int .i64 (sPow s (n:Int)).1.2],.int .i64 (sPow s (n:Int)).2])/\Below w.heap.size w w':=by
 have hB:=Bx2.start w s (0,0)
 have H:=Lib.hid h
 have HL:=Lib.hid (pow_laws h h1 hn)
 have HLo:=Lib.hid (show pLo s n=0 from if_pos ⟨he,hl,hh⟩)
 have HHi:=Lib.hid (show pHi s n=max (rwr true s.1 n) (rwr true s.2 n) from rfl)
 have HC1:=Lib.hid (fun W=>ref2_raised s.1 h.lo n h1 hn false W)
 have HC2:=Lib.hid (fun W=>ref2_raised s.2 h.hi n h1 hn false W)
 have HC3:=Lib.hid (fun W=>ref2_raised s.1 h.lo n h1 hn true W)
 have HC4:=Lib.hid (fun W=>ref2_raised s.2 h.hi n h1 hn true W)
 have d1:((n:Int) % 2==0)=true:=by simp;omega
 have d2:decide (s.1<0)=true:=decide_eq_true hl
 have d3:decide (0<s.2)=true:=decide_eq_true hh
 clear h
 go_enter Tryz.func84,Tryz.ntmps84
 go_wp2_with fail
 refine (ref2_Right_ok H.out _).mono ?_;rintro e w2 ⟨rfl,hbel⟩
 replace hB:=hB.on hbel
 clear hbel
 have a0:=cell_two0 hB.b0
 have a1:=cell_two1 hB.b0
 have la:=lt_of_block hB.b0
 go_wp2_with fail
 clear a0 a1 la
 refine (HC1.out _).mono ?_;rintro e w2 ⟨⟨R1,F1,rfl,ha1,hb1,-,-⟩,hbel⟩
 replace hB:=hB.on hbel
 clear hbel
 have HA1:=Lib.hid ha1
 have HB1:=Lib.hid hb1
 clear ha1 hb1
 have a0:=cell_two0 hB.b0
 have a1:=cell_two1 hB.b0
 have la:=lt_of_block hB.b0
 go_wp2_with fail
 clear a0 a1 la
 refine (HC2.out _).mono ?_;rintro e w2 ⟨⟨R2,F2,rfl,ha2,hb2,-,-⟩,hbel⟩
 replace hB:=hB.on hbel
 clear hbel
 have HA2:=Lib.hid ha2
 have HB2:=Lib.hid hb2
 clear ha2 hb2
 have a0:=cell_two0 hB.b0
 have a1:=cell_two1 hB.b0
 have la:=lt_of_block hB.b0
 go_wp2_with fail
 clear a0 a1 la
 refine (HC3.out _).mono ?_;rintro e w2 ⟨⟨R3,F3,rfl,ha3,hb3,-,-⟩,hbel⟩
 replace hB:=hB.on hbel
 clear hbel
 have HA3:=Lib.hid ha3
 have HB3:=Lib.hid hb3
 clear ha3 hb3
 have a0:=cell_two0 hB.b0
 have a1:=cell_two1 hB.b0
 have la:=lt_of_block hB.b0
 go_wp2_with fail
 clear a0 a1 la
 refine (HC4.out _).mono ?_;rintro e w2 ⟨⟨R4,F4,rfl,ha4,hb4,-,-⟩,hbel⟩
 replace hB:=hB.on hbel
 clear hbel
 have HA4:=Lib.hid ha4
 have HB4:=Lib.hid hb4
 clear ha4 hb4
 clear HC1 HC2 HC3 HC4
 cases F1 with
 | false =>
  have HBad:=Lib.hid (HL.out.2 (fun g=>HB1.out rfl g.1))
  have a0:=cell_two0 hB.b0
  have a1:=cell_two1 hB.b0
  have la:=lt_of_block hB.b0
  go_wp2_with fail
  clear a0 a1 la
  refine (ref2_result_no _ _ _).mono ?_;rintro e w2 ⟨rfl,hbel⟩
  replace hB:=hB.on hbel
  clear hbel
  have c0:=cell_two0 hB.b1
  have c1:=cell_two1 hB.b1
  have f0:=free_two (i:=0) hB.b1
  have f1:=free_two (i:=1) hB.b1
  have l2:=lt_of_block hB.b1
  go_wp2_with fail
  exact bodyPost_ret (v:=.tuple #[.agg #[.int .i64 0,.int .i64 0],.int .i64 6]) (by simp [results,Tryz.results84,go_sem,c0,c1]) rfl ⟨ret_sp HBad.out,below_set2 hB.bel (by omega) _ _⟩
 | true =>
  obtain ⟨rfl,k1⟩:=HA1.out rfl
  have K1:=Lib.hid k1
  clear k1
  cases F2 with
  | false =>
   have HBad:=Lib.hid (HL.out.2 (fun g=>HB2.out rfl g.2.1))
   have a0:=cell_two0 hB.b0
   have a1:=cell_two1 hB.b0
   have la:=lt_of_block hB.b0
   go_wp2_with fail
   clear a0 a1 la
   refine (ref2_result_no _ _ _).mono ?_;rintro e w2 ⟨rfl,hbel⟩
   replace hB:=hB.on hbel
   clear hbel
   have c0:=cell_two0 hB.b1
   have c1:=cell_two1 hB.b1
   have f0:=free_two (i:=0) hB.b1
   have f1:=free_two (i:=1) hB.b1
   have l2:=lt_of_block hB.b1
   go_wp2_with fail
   exact bodyPost_ret (v:=.tuple #[.agg #[.int .i64 0,.int .i64 0],.int .i64 6]) (by simp [results,Tryz.results84,go_sem,c0,c1]) rfl ⟨ret_sp HBad.out,below_set2 hB.bel (by omega) _ _⟩
  | true =>
   obtain ⟨rfl,k2⟩:=HA2.out rfl
   have K2:=Lib.hid k2
   clear k2
   cases F3 with
   | false =>
    have HBad:=Lib.hid (HL.out.2 (fun g=>HB3.out rfl g.2.2.1))
    have a0:=cell_two0 hB.b0
    have a1:=cell_two1 hB.b0
    have la:=lt_of_block hB.b0
    go_wp2_with fail
    clear a0 a1 la
    refine (ref2_result_no _ _ _).mono ?_;rintro e w2 ⟨rfl,hbel⟩
    replace hB:=hB.on hbel
    clear hbel
    have c0:=cell_two0 hB.b1
    have c1:=cell_two1 hB.b1
    have f0:=free_two (i:=0) hB.b1
    have f1:=free_two (i:=1) hB.b1
    have l2:=lt_of_block hB.b1
    go_wp2_with fail
    exact bodyPost_ret (v:=.tuple #[.agg #[.int .i64 0,.int .i64 0],.int .i64 6]) (by simp [results,Tryz.results84,go_sem,c0,c1]) rfl ⟨ret_sp HBad.out,below_set2 hB.bel (by omega) _ _⟩
   | true =>
    obtain ⟨rfl,k3⟩:=HA3.out rfl
    have K3:=Lib.hid k3
    clear k3
    cases F4 with
    | false =>
     have HBad:=Lib.hid (HL.out.2 (fun g=>HB4.out rfl g.2.2.2))
     have a0:=cell_two0 hB.b0
     have a1:=cell_two1 hB.b0
     have la:=lt_of_block hB.b0
     go_wp2_with fail
     clear a0 a1 la
     refine (ref2_result_no _ _ _).mono ?_;rintro e w2 ⟨rfl,hbel⟩
     replace hB:=hB.on hbel
     clear hbel
     have c0:=cell_two0 hB.b1
     have c1:=cell_two1 hB.b1
     have f0:=free_two (i:=0) hB.b1
     have f1:=free_two (i:=1) hB.b1
     have l2:=lt_of_block hB.b1
     go_wp2_with fail
     exact bodyPost_ret (v:=.tuple #[.agg #[.int .i64 0,.int .i64 0],.int .i64 6]) (by simp [results,Tryz.results84,go_sem,c0,c1]) rfl ⟨ret_sp HBad.out,below_set2 hB.bel (by omega) _ _⟩
    | true =>
     obtain ⟨rfl,k4⟩:=HA4.out rfl
     have K4:=Lib.hid k4
     clear k4
     obtain ⟨hle,heq⟩:=HL.out.1 ⟨K1.out,K2.out,K3.out,K4.out⟩
     rw [HLo.out,HHi.out] at hle heq
     have HLE:=Lib.hid hle
     have HEQ:=Lib.hid heq
     clear hle heq HL HLo HHi HA1 HA2 HA3 HA4 HB1 HB2 HB3 HB4 K1 K2 K3 K4
     have a0:=cell_two0 hB.b0
     have a1:=cell_two1 hB.b0
     have la:=lt_of_block hB.b0
     go_wp2_with fail
     clear a0 a1 la
     refine (ref2_result 0 (max (rwr true s.1 n) (rwr true s.2 n)) HLE.out _).mono ?_;rintro e w2 ⟨rfl,hbel⟩
     replace hB:=hB.on hbel
     clear hbel
     have HF:=Lib.hid HEQ.out
     clear HEQ HLE
     generalize sT 0 (max (rwr true s.1 n) (rwr true s.2 n))=r at *
     have c0:=cell_two0 hB.b1
     have c1:=cell_two1 hB.b1
     have f0:=free_two (i:=0) hB.b1
     have f1:=free_two (i:=1) hB.b1
     have l2:=lt_of_block hB.b1
     go_wp2_with fail
     exact bodyPost_ret (v:=.tuple #[.agg #[.int .i64 r.1.1,.int .i64 r.1.2],.int .i64 r.2]) (by simp [results,Tryz.results84,go_sem,c0,c1]) rfl ⟨by rw [HF.out],below_set2 hB.bel (by omega) _ _⟩

theorem ref2_Pow (s:Int×Int) (n:Int) (w:World) :
  Calls Tryz.prog 84 #[.agg #[.int .i64 s.1,.int .i64 s.2],.int .i64 n] w fun e w'=>e=.returned (.tuple #[.agg #[.int .i64 (sPow s n).1.1,.int .i64 (sPow s n).1.2],.int .i64 (sPow s n).2])/\Below w.heap.size w w':=by
 by_cases h:okS s
 ·by_cases h1:n<0
  ·exact ref2_Pow_low s n h h1 w
  ·by_cases h2:16<n
   ·exact ref2_Pow_high s n h h2 w
   ·by_cases h3:n=0
    ·subst h3
     exact ref2_Pow_zero s h w
    ·obtain ⟨k,rfl⟩:=Int.eq_ofNat_of_zero_le (show 0<=n by omega)
     by_cases e:k % 2=0
     ·by_cases hl:s.1<0
      ·by_cases hh:0<s.2
       ·exact ref2_Pow_mid s k h (by omega) (by omega) e hl hh w
       ·exact ref2_Pow_neg s k h (by omega) (by omega) e hl hh w
      ·exact ref2_Pow_pos s k h (by omega) (by omega) e hl w
     ·exact ref2_Pow_odd s k h (by omega) (by omega) (by omega) w
 ·exact ref2_Pow_bad s n h w

end Go.Proofs.YthhkcfpljgdnhaaGreat
