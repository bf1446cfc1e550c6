/- Contracts of the reference of layer 1: Right, Check, told, Add, Sub, Neg, size, put, over, Div, quotient, DivDown, DivUp. -/
import Derived.Test.YthhkcfpljgdnhaaGreatFixI
import Derived.Test.YthhkcfpljgdnhaaGreatPl
import Derived.Test.YthhkcfpljgdnhaaGreatSpanX
import Derived.Deep.QuietTactic
import Derived.BigQuiet
set_option maxRecDepth 100000
namespace Go.Proofs.YthhkcfpljgdnhaaGreat
open Go.RowKit Mnc

theorem ref1_Right (a:Int) (w:World) :
  Calls Tryz.prog 105 #[.int .i64 a] w fun e w'=>e=.returned (.bool (decide (ok a)))/\w=w':=by
 by_cases h1:-4503599627370496<=a
 ·by_cases h2:a<=4503599627370496
  ·rw [decide_eq_true (show ok a by unfold ok;omega)]
   go_enter Tryz.func105,Tryz.ntmps105
   go_wp2
   go_ret
   exact ⟨rfl,rfl⟩
  ·rw [decide_eq_false (show ¬ok a by unfold ok;omega)]
   go_enter Tryz.func105,Tryz.ntmps105
   go_wp2
   go_ret
   exact ⟨rfl,rfl⟩
 ·rw [decide_eq_false (show ¬ok a by unfold ok;omega)]
  go_enter Tryz.func105,Tryz.ntmps105
  go_wp2
  go_ret
  exact ⟨rfl,rfl⟩

theorem ref1_Right_ok {a:Int} (h:ok a) (w:World) :
  Calls Tryz.prog 105 #[.int .i64 a] w fun e w'=>e=.returned (.bool true)/\w=w':=by
 have:=ref1_Right a w
 rw [decide_eq_true h] at this
 exact this
theorem ref1_Right_bad {a:Int} (h:¬ok a) (w:World) :
  Calls Tryz.prog 105 #[.int .i64 a] w fun e w'=>e=.returned (.bool false)/\w=w':=by
 have:=ref1_Right a w
 rw [decide_eq_false h] at this
 exact this

theorem ref1_size (a:Int) (w:World) (h1:-9223372036854775808<=a) (h2:a<=9223372036854775807) :
  Calls Tryz.prog 119 #[.int .i64 a] w fun e w'=>e=.returned (.int .u64 (a.natAbs:Int))/\w=w':=by
 by_cases h:a<0
 ·go_enter Tryz.func119,Tryz.ntmps119
  go_wp2
  go_ret
  exact ⟨ret_int (by omega),rfl⟩
 ·go_enter Tryz.func119,Tryz.ntmps119
  go_wp2
  go_ret
  exact ⟨ret_int (by omega),rfl⟩

theorem ret_ib {k:IntKind} {a:Int} {b:Bool} {p:Int×Bool} (h:p=(a,b)):Ending.returned (.tuple #[.int k a,.bool b])=.returned (.tuple #[.int k p.1,.bool p.2]):=by rw [h]

theorem ref1_put (ng:Bool) (n:Nat) (rest up:Bool) (w:World) (hn:n<=9223372036854775807) :
  Calls Tryz.prog 120 #[.bool ng,.int .u64 n,.bool rest,.bool up] w fun e w'=>e=.returned (.tuple #[.int .i64 (putOf ng n rest up).1,.bool (putOf ng n rest up).2])/\w=w':=by
 by_cases h0:(rest && (up != ng))=true
 ·by_cases h:4503599627370496<n+1
  ·have hb:decide ((4503599627370496:Int)<(n:Int)+1)=true:=by simp;omega
   have HR:=Lib.hid (show putOf ng n rest up=(0,false) by unfold putOf;rw [if_pos h0,if_pos h])
   clear h
   cases rest<;>cases up<;>cases ng<;>first | (exfalso;revert h0;decide) | skip
   all_goals
    clear h0
    go_enter Tryz.func120,Tryz.ntmps120
    go_wp2
    go_ret2
    exact ⟨ret_ib HR.out,rfl⟩
  ·have hb:decide ((4503599627370496:Int)<(n:Int)+1)=false:=by simp;omega
   have HR:=Lib.hid (show putOf ng n rest up=(if ng then -((n:Int)+1) else ((n:Int)+1),true) by unfold putOf;rw [if_pos h0,if_neg h];push_cast;rfl)
   have hn2:n<=4503599627370495:=by omega
   clear h
   cases rest<;>cases up<;>cases ng<;>first | (exfalso;revert h0;decide) | skip
   all_goals
    clear h0
    go_enter Tryz.func120,Tryz.ntmps120
    go_wp2
    go_ret2
    exact ⟨ret_ib HR.out,rfl⟩
 ·by_cases h:4503599627370496<n
  ·have hb:decide ((4503599627370496:Int)<(n:Int))=true:=by simp;omega
   have HR:=Lib.hid (show putOf ng n rest up=(0,false) by unfold putOf;rw [if_neg h0,if_pos h])
   clear h
   cases rest<;>cases up<;>cases ng<;>first | (exfalso;revert h0;decide) | skip
   all_goals
    clear h0
    go_enter Tryz.func120,Tryz.ntmps120
    go_wp2
    go_ret2
    exact ⟨ret_ib HR.out,rfl⟩
  ·have hb:decide ((4503599627370496:Int)<(n:Int))=false:=by simp;omega
   have HR:=Lib.hid (show putOf ng n rest up=(if ng then -(n:Int) else (n:Int),true) by unfold putOf;rw [if_neg h0,if_neg h])
   clear h
   cases rest<;>cases up<;>cases ng<;>first | (exfalso;revert h0;decide) | skip
   all_goals
    clear h0
    go_enter Tryz.func120,Tryz.ntmps120
    go_wp2
    go_ret2
    exact ⟨ret_ib HR.out,rfl⟩

theorem bit_tmod (a j:Nat):((a:Int) / 2 ^ j).tmod 2=((a / 2 ^ j % 2:Nat):Int):=by
 have e:(a:Int) / 2 ^ j=((a / 2 ^ j:Nat):Int):=by push_cast;rfl
 rw [e,Int.tmod_eq_emod_of_nonneg (Int.natCast_nonneg _)]
 rfl

theorem sum_u64 (x y:Nat) (h:x+y<18446744073709551616):IntKind.u64.wrap ((x:Int)+(y:Int))=((x+y:Nat):Int):=by
 rw [M64.addN];exact M64.wrapN _ h

theorem ret_nbb {k:IntKind} {a:Int} {b c:Bool} {p:Nat×Bool×Bool} (h1:(p.1:Int)=a) (h2:p.2.1=b) (h3:p.2.2=c):Ending.returned (.tuple #[.int k a,.bool b,.bool c])=.returned (.tuple #[.int k p.1,.bool p.2.1,.bool p.2.2]):=by rw [h1,h2,h3]

set_option maxHeartbeats 2000000 in
theorem ref1_over (a n d:Nat) (ha:a<18446744073709551616) (hn:n<=9223372036854775808) (hd0:0<d) (hd:d<=4611686018427387904) (w:World) :
  Calls Tryz.prog 118 #[.int .u64 a,.int .u64 n,.int .u64 d] w fun e w'=>e=.returned (.tuple #[.int .u64 ((ovr a n d).1:Nat),.bool (ovr a n d).2.1,.bool (ovr a n d).2.2])/\Below w.heap.size w w':=by
 have HN:=Lib.hid hn
 have HD0:=Lib.hid hd0
 have HD:=Lib.hid hd
 obtain ⟨res,hres⟩:∃res,res=ovr a n d:=⟨_,rfl⟩
 rw [←hres]
 have HRES:=Lib.hid hres
 have HST:=Lib.hid (ovAt_start (n:=n) ha hd0)
 clear hres
 go_enter Tryz.func118,Tryz.ntmps118
 go_wp2_with fail
 go_loopw [9,10,11] (fun q r i wr=>∃k Q R:Nat,k<=64/\i=.int .i64 ((k:Int)-1)/\q=.int .u64 Q/\r=.int .u64 R/\Hid (OvAt a n d k Q R)/\Below w.heap.size w wr) (fun _ _ i _=>(intOf i+1).toNat)
 case atStart=>exact ⟨64,0,0,by omega,rfl,rfl,rfl,HST,Below.refl _ _⟩
 case round =>
  obtain ⟨k,Q,R,hk,rfl,rfl,rfl,HO,hbw⟩:=hrel
  have hQ:Q<=4503599627370496:=HO.out.2.2
  have hR:R<d:=HO.out.2.1
  rcases Nat.eq_zero_or_pos k with rfl | hk0
  ·have HE:=Lib.hid (ovr_near HO.out)
   go_wp2
   refine bodyPost_ret (v:=.tuple #[.int .u64 (Q:Int),.bool (decide (0<R)),.bool true]) (by simp [results,Tryz.results118,go_sem]) rfl ?_
   exact ⟨ret_nbb (by rw [HRES.out,HE.out]) (by rw [HRES.out,HE.out]) (by rw [HRES.out,HE.out]),hbw⟩
  ·obtain ⟨j,rfl⟩:∃j,k=j+1:=⟨k-1,by omega⟩
   rw [show (((j+1:Nat):Int)-1)=(j:Int) by omega]
   have h1:¬(d:Int)=0:=by omega
   have h2:¬(d:Int)<=0:=by omega
   have h3:decide ((d:Int)<=0)=false:=by simp;omega
   have h4:((d:Int)==0)=false:=by simp;omega
   by_cases hb:a / 2 ^ j % 2=1
   ·have hb1:(((a:Int) / 2 ^ j).tmod 2==1)=true:=by
     rw [bit_tmod,hb];rfl
    have HI0:=Lib.hid (ovIn_one HO.out HN.out hb)
    have hnd:n / d<=n:=Nat.div_le_self _ _
    have hnm:n % d<d:=Nat.mod_lt _ hd0
    have E1:=Lib.hid (show IntKind.u64.wrap (2*(Q:Int)+IntKind.u64.wrap ((n:Int) / (d:Int)))=((2*Q+n / d:Nat):Int) by
     rw [small_quo n d (by omega)];exact sum_u64 (2*Q) (n / d) (by omega))
    have E2:=Lib.hid (show IntKind.u64.wrap (2*(R:Int)+(n:Int) % (d:Int))=((2*R+n % d:Nat):Int) by
     rw [←Int.natCast_emod];exact sum_u64 (2*R) (n % d) (by omega))
    clear hnd hnm
    go_wp2_with fail
    go_quiet (fail)
    go_wp2_with fail
    obtain ⟨wo,hwo⟩:∃wo:World,wo=wr.drewN nq:=⟨_,rfl⟩
    rw [←hwo]
    have hbo:Below w.heap.size w wo:=by rw [hwo];exact below_drewN hbw _
    clear hwo
    go_loop [9,10] (fun q r=>∃q' r':Nat,q=.int .u64 q'/\r=.int .u64 r'/\Hid (OvIn a n d j q' r')) (fun _ r=>(intOf r).toNat)
    case atStart=>exact ⟨2*Q+n / d,2*R+n % d,int_congr E1.out,int_congr E2.out,HI0⟩
    case round =>
     obtain ⟨q',r',rfl,rfl,HI⟩:=hrel
     have hq':q'<=9223372036854775808+9007199254740992+2:=Nat.le_trans (Nat.le_add_right _ _) HI.out.2.2
     have hr':r'<3*d:=HI.out.2.1
     by_cases hc:d<=r'
     ·have HI2:=Lib.hid (ovIn_down HI.out hc HD0.out)
      have hsub:(r':Int)-(d:Int)=((r'-d:Nat):Int):=by omega
      have HSUB:=Lib.hid hsub
      clear hsub
      go_wp2
      go_round
      case rel=>exact ⟨q'+1,r'-d,by go_num,by rw [←HSUB.out],HI2⟩
      case measure=>have:=HD0.out;simp [intOf];omega
     ·by_cases hf:4503599627370496<q'
      ·have HF:=Lib.hid (ovr_far (ovIn_far HI.out HD0.out hf))
       have hf2:decide ((4503599627370496:Int)<(q':Int))=true:=by simp;omega
       clear hf
       go_wp2
       refine bodyPost_ret (v:=.tuple #[.int .u64 0,.bool false,.bool false]) (by simp [results,Tryz.results118,go_sem]) rfl ?_
       exact ⟨ret_nbb (by rw [HRES.out,HF.out];rfl) (by rw [HRES.out,HF.out]) (by rw [HRES.out,HF.out]),hbo⟩
      ·have HE:=Lib.hid (ovIn_end HI.out (by omega) (by omega))
       have hf2:decide ((4503599627370496:Int)<(q':Int))=false:=by simp;omega
       clear hf
       go_wp2
       go_roundw
       case rel=>exact ⟨j,q',r',by omega,rfl,rfl,rfl,HE,hbo⟩
       case measure=>simp [intOf]
   ·have hb1:(((a:Int) / 2 ^ j).tmod 2==1)=false:=by
     rw [bit_tmod,show a / 2 ^ j % 2=0 by omega];rfl
    have HI0:=Lib.hid (ovIn_zero HO.out (show a / 2 ^ j % 2=0 by omega))
    go_wp2_with fail
    obtain ⟨wo,hwo⟩:∃wo:World,wo=wr:=⟨_,rfl⟩
    rw [←hwo]
    have hbo:Below w.heap.size w wo:=by rw [hwo];exact hbw
    clear hwo
    go_loop [9,10] (fun q r=>∃q' r':Nat,q=.int .u64 q'/\r=.int .u64 r'/\Hid (OvIn a n d j q' r')) (fun _ r=>(intOf r).toNat)
    case atStart=>exact ⟨2*Q,2*R,by go_num,by go_num,HI0⟩
    case round =>
     obtain ⟨q',r',rfl,rfl,HI⟩:=hrel
     have hq':q'<=9223372036854775808+9007199254740992+2:=Nat.le_trans (Nat.le_add_right _ _) HI.out.2.2
     have hr':r'<3*d:=HI.out.2.1
     by_cases hc:d<=r'
     ·have HI2:=Lib.hid (ovIn_down HI.out hc HD0.out)
      have hsub:(r':Int)-(d:Int)=((r'-d:Nat):Int):=by omega
      have HSUB:=Lib.hid hsub
      clear hsub
      go_wp2
      go_round
      case rel=>exact ⟨q'+1,r'-d,by go_num,by rw [←HSUB.out],HI2⟩
      case measure=>have:=HD0.out;simp [intOf];omega
     ·by_cases hf:4503599627370496<q'
      ·have HF:=Lib.hid (ovr_far (ovIn_far HI.out HD0.out hf))
       have hf2:decide ((4503599627370496:Int)<(q':Int))=true:=by simp;omega
       clear hf
       go_wp2
       refine bodyPost_ret (v:=.tuple #[.int .u64 0,.bool false,.bool false]) (by simp [results,Tryz.results118,go_sem]) rfl ?_
       exact ⟨ret_nbb (by rw [HRES.out,HF.out];rfl) (by rw [HRES.out,HF.out]) (by rw [HRES.out,HF.out]),hbo⟩
      ·have HE:=Lib.hid (ovIn_end HI.out (by omega) (by omega))
       have hf2:decide ((4503599627370496:Int)<(q':Int))=false:=by simp;omega
       clear hf
       go_wp2
       go_roundw
       case rel=>exact ⟨j,q',r',by omega,rfl,rfl,rfl,HE,hbo⟩
       case measure=>simp [intOf]


theorem ovr_le (a n d:Nat):(ovr a n d).1<=4503599627370496:=by
 unfold ovr;split
 ·assumption
 ·omega

theorem ref1_over_one (n d:Nat) (hn:n<=9223372036854775808) (hd0:0<d) (hd:d<=4611686018427387904) (w:World) :
  Calls Tryz.prog 118 #[.int .u64 4294967296,.int .u64 n,.int .u64 d] w fun e w'=>e=.returned (.tuple #[.int .u64 ((ovr 4294967296 n d).1:Nat),.bool (ovr 4294967296 n d).2.1,.bool (ovr 4294967296 n d).2.2])/\Below w.heap.size w w':=by
 have h:=ref1_over 4294967296 n d (by omega) hn hd0 hd w
 rw [show ((4294967296:Nat):Int)=4294967296 from rfl] at h
 exact h

theorem putOvr_dv (up:Bool) (a b:Int) (hz:¬b=0):putOvr (decide (a<0) != decide (b<0)) up 4294967296 a.natAbs b.natAbs=fitB (dv up a b):=by
 rw [putOvr_rnd _ _ _ _ _ (by omega),Nat.mul_comm,dv_sign]
 rfl

set_option maxHeartbeats 1000000 in
theorem ref1_Div (a b:Int) (up:Bool) (ha:ok a) (hb:ok b) (hz:¬b=0) (w:World) :
  Calls Tryz.prog 100 #[.int .i64 a,.int .i64 b,.bool up] w fun e w'=>e=.returned (.tuple #[.int .i64 (fitB (dv up a b)).1,.bool (fitB (dv up a b)).2])/\Below w.heap.size w w':=by
 have HsA:=Lib.hid (fun W=>ref1_size a W (by have:=ha.1;omega) (by have:=ha.2;omega))
 have HsB:=Lib.hid (fun W=>ref1_size b W (by have:=hb.1;omega) (by have:=hb.2;omega))
 have HO:=Lib.hid (fun W=>ref1_over_one a.natAbs b.natAbs (by have:=ha.1;have:=ha.2;omega) (by omega) (by have:=hb.1;have:=hb.2;omega) W)
 have HV:=Lib.hid (putOvr_dv up a b hz)
 obtain ⟨x,hx⟩:∃x,x=a.natAbs:=⟨_,rfl⟩
 obtain ⟨y,hy⟩:∃y,y=b.natAbs:=⟨_,rfl⟩
 rw [←hx] at HsA HO HV
 rw [←hy] at HsB HO HV
 clear hx hy ha hb hz
 have HL:=Lib.hid (ovr_le 4294967296 x y)
 obtain ⟨res,hres⟩:∃res,res=ovr 4294967296 x y:=⟨_,rfl⟩
 rw [←hres] at HO HL
 have HRES:=Lib.hid hres
 clear hres
 obtain ⟨q,rest,fits⟩:=res
 have hq:q<=4503599627370496:=HL.out
 cases fits
 ·have HF:Hid (fitB (dv up a b)=(0,false)):=Lib.hid (by
   rw [←HV.out,putOvr,←HRES.out];rfl)
  go_enter Tryz.func100,Tryz.ntmps100
  go_wp2_with (first | (go_at_call_of 119 a;refine (HsA.out _).mono ?_;rintro e w' ⟨rfl,rfl⟩) | (go_at_call_of 119 b;refine (HsB.out _).mono ?_;rintro e w' ⟨rfl,rfl⟩) | (go_at_call 118;refine (HO.out _).mono ?_;rintro e w' ⟨rfl,hbel⟩))
  go_ret2
  exact ⟨ret_ib HF.out,hbel⟩
 ·have HF:Hid (fitB (dv up a b)=putOf (decide (a<0) != decide (b<0)) q rest up):=Lib.hid (by
   rw [←HV.out,putOvr,←HRES.out];rfl)
  go_enter Tryz.func100,Tryz.ntmps100
  go_wp2_with (first | (go_at_call_of 119 a;refine (HsA.out _).mono ?_;rintro e w' ⟨rfl,rfl⟩) | (go_at_call_of 119 b;refine (HsB.out _).mono ?_;rintro e w' ⟨rfl,rfl⟩) | (go_at_call 118;refine (HO.out _).mono ?_;rintro e w' ⟨rfl,hbel⟩) | (go_at_call 120;refine (ref1_put _ q _ _ _ (by omega)).mono ?_;rintro e w' ⟨rfl,rfl⟩))
  go_ret2
  exact ⟨by rw [HF.out];rfl,hbel⟩


theorem two_tmod (a j:Nat):((a:Int) / 2 ^ j).tmod 4=((a / 2 ^ j % 4:Nat):Int):=by
 have e:(a:Int) / 2 ^ j=((a / 2 ^ j:Nat):Int):=by push_cast;rfl
 rw [e,Int.tmod_eq_emod_of_nonneg (Int.natCast_nonneg _)]
 rfl

set_option maxHeartbeats 2000000 in
theorem ref1_Sqrt (a:Nat) (ha:a<=4503599627370496) (up:Bool) (w:World) :
  Calls Tryz.prog 90 #[.int .i64 a,.bool up] w fun e w'=>e=.returned (.int .i64 (rtOf up (a*4294967296):Nat))/\w=w':=by
 have HA:=Lib.hid ha
 obtain ⟨res,hres⟩:∃res,res=rtOf up (a*4294967296):=⟨_,rfl⟩
 rw [←hres]
 have HRES:=Lib.hid hres
 clear hres
 have h43:a*4294967296<4 ^ 43:=by
  have:(4:Nat) ^ 43=77371252455336267181195264:=by decide
  omega
 have HST:=Lib.hid (rtAt_start h43)
 clear h43
 go_enter Tryz.func90,Tryz.ntmps90
 go_wp2_with fail
 go_loop [5,6,7,8] (fun root rest i two=>∃k R S:Nat,k<=43/\i=.int .i64 ((k:Int)-1)/\root=.int .i64 R/\rest=.int .i64 S/\Hid (RtAt (a*4294967296) k R S)) (fun _ _ i _=>(intOf i+1).toNat)
 case atStart=>exact ⟨43,0,0,by omega,rfl,rfl,rfl,HST⟩
 case round =>
  obtain ⟨k,R,S,hk,rfl,rfl,rfl,HO⟩:=hrel
  obtain ⟨hR,hS⟩:=rtAt_bd HO.out (by have:=HA.out;omega)
  rcases Nat.eq_zero_or_pos k with rfl | hk0
  ·have HE:=Lib.hid (rtAt_end HO.out up)
   cases up
   ·go_wp2
    go_ret
    exact ⟨ret_int (by rw [HRES.out,HE.out,if_neg (by simp)]),rfl⟩
   ·by_cases hs:0<S
    ·go_wp2
     go_ret
     exact ⟨ret_int (by rw [HRES.out,HE.out,if_pos (by simp;exact hs)];omega),rfl⟩
    ·go_wp2
     go_ret
     exact ⟨ret_int (by rw [HRES.out,HE.out,if_neg (by simp;omega)]),rfl⟩
  ·obtain ⟨j,rfl⟩:∃j,k=j+1:=⟨k-1,by omega⟩
   rw [show (((j+1:Nat):Int)-1)=(j:Int) by omega]
   by_cases hj:16<=j
   ·have ht:=two_tmod a (2*j-32)
    have HT:Hid (a*4294967296 / 4 ^ j % 4=a / 2 ^ (2*j-32) % 4):=Lib.hid (by rw [two_hi a hj])
    have hT:a / 2 ^ (2*j-32) % 4<4:=Nat.mod_lt _ (by omega)
    generalize a / 2 ^ (2*j-32) % 4=T at *
    by_cases hc:4*R+1<=4*S+T
    ·have HN:=Lib.hid (rtAt_take HO.out HT.out hc)
     have HSUB:=Lib.hid (show (4*(S:Int)+(T:Int)-(4*(R:Int)+1))=((4*S+T-(4*R+1):Nat):Int) by omega)
     go_wp2
     go_round
     case rel=>exact ⟨j,2*R+1,4*S+T-(4*R+1),by omega,rfl,by go_num,int_congr HSUB.out,HN⟩
     case measure=>simp [intOf]
    ·have HN:=Lib.hid (rtAt_leave HO.out HT.out hc)
     go_wp2
     go_round
     case rel=>exact ⟨j,2*R,4*S+T,by omega,rfl,by go_num,by go_num,HN⟩
     case measure=>simp [intOf]
   ·have HT:Hid (a*4294967296 / 4 ^ j % 4=0):=Lib.hid (two_lo a (by omega))
    by_cases hc:4*R+1<=4*S
    ·have HN:=Lib.hid (rtAt_take HO.out HT.out (by omega))
     have HSUB:=Lib.hid (show (4*(S:Int)-(4*(R:Int)+1))=((4*S-(4*R+1):Nat):Int) by omega)
     go_wp2
     go_round
     case rel=>exact ⟨j,2*R+1,4*S-(4*R+1),by omega,rfl,by go_num,int_congr HSUB.out,HN⟩
     case measure=>simp [intOf]
    ·have HN:=Lib.hid (rtAt_leave HO.out HT.out (by omega))
     go_wp2
     go_round
     case rel=>exact ⟨j,2*R,4*S,by omega,rfl,by go_num,by go_num,HN⟩
     case measure=>simp [intOf]

end Go.Proofs.YthhkcfpljgdnhaaGreat

/- Contracts of the reference of layer 1: Mul, Scale, scaled, ScaleDown, ScaleUp. -/
namespace Mnc
open Go
theorem mul_parts (x y:Nat):x*y / 4294967296=x / 67108864*(y / 67108864)*1048576+(x / 67108864*(y % 67108864)+x % 67108864*(y / 67108864)) / 64+((x / 67108864*(y % 67108864)+x % 67108864*(y / 67108864)) % 64*67108864+x % 67108864*(y % 67108864)) / 4294967296 /\
  x*y % 4294967296=((x / 67108864*(y % 67108864)+x % 67108864*(y / 67108864)) % 64*67108864+x % 67108864*(y % 67108864)) % 4294967296:=by
 rw [parts_mul x y]
 exact parts_div
theorem natAbs_sign (a b:Int):(if (decide (a<0) != decide (b<0))=true then -((a.natAbs*b.natAbs:Nat):Int) else ((a.natAbs*b.natAbs:Nat):Int))=a*b:=sign_mul a b
end Mnc
namespace Go.Proofs.YthhkcfpljgdnhaaGreat
open Go.RowKit Mnc

theorem ref1_putI (ng:Bool) (N:Int) (rest up:Bool) (w:World) (h0:0<=N) (hn:N<=9223372036854775807) :
  Calls Tryz.prog 120 #[.bool ng,.int .u64 N,.bool rest,.bool up] w fun e w'=>e=.returned (.tuple #[.int .i64 (putOf ng N.toNat rest up).1,.bool (putOf ng N.toNat rest up).2])/\w=w':=by
 obtain ⟨n,rfl⟩:=Int.eq_ofNat_of_zero_le h0
 exact ref1_put ng n rest up w (by omega)

set_option maxHeartbeats 2000000 in
theorem ref1_Mul (a b:Int) (up:Bool) (ha:ok a) (hb:ok b) (w:World) :
  Calls Tryz.prog 106 #[.int .i64 a,.int .i64 b,.bool up] w fun e w'=>e=.returned (.tuple #[.int .i64 (fitB (rnd up (a*b) 4294967296)).1,.bool (fitB (rnd up (a*b) 4294967296)).2])/\w=w':=by
 have HsA:=Lib.hid (fun W=>ref1_size a W (by have:=ha.1;omega) (by have:=ha.2;omega))
 have HsB:=Lib.hid (fun W=>ref1_size b W (by have:=hb.1;omega) (by have:=hb.2;omega))
 have hP:=put_rnd (decide (a<0) != decide (b<0)) up (a.natAbs*b.natAbs) 4294967296 (by decide)
 have hF:4503599627370496<a.natAbs*b.natAbs / 4294967296->fitB (rnd up (a*b) 4294967296)=(0,false):=fun h=>by
  have:=rnd_far (decide (a<0) != decide (b<0)) up (a.natAbs*b.natAbs) 4294967296 (by decide) h
  rw [natAbs_sign] at this
  exact fitB_bad this
 rw [natAbs_sign] at hP
 obtain ⟨e1,e2⟩:=mul_parts a.natAbs b.natAbs
 have hx:a.natAbs<=4503599627370496:=by have:=ha.1;have:=ha.2;omega
 have hy:b.natAbs<=4503599627370496:=by have:=hb.1;have:=hb.2;omega
 obtain ⟨x,hX⟩:∃x,x=a.natAbs:=⟨_,rfl⟩
 obtain ⟨y,hY⟩:∃y,y=b.natAbs:=⟨_,rfl⟩
 rw [←hX] at HsA hP hF e1 e2 hx
 rw [←hY] at HsB hP hF e1 e2 hy
 clear hX hY ha hb
 obtain ⟨xh,hxh⟩:∃xh,x / 67108864=xh:=⟨_,rfl⟩
 obtain ⟨xl,hxl⟩:∃xl,x % 67108864=xl:=⟨_,rfl⟩
 obtain ⟨yh,hyh⟩:∃yh,y / 67108864=yh:=⟨_,rfl⟩
 obtain ⟨yl,hyl⟩:∃yl,y % 67108864=yl:=⟨_,rfl⟩
 rw [hxh,hxl,hyh,hyl] at e1 e2
 have bxh:xh<=67108864:=by omega
 have bxl:xl<=67108864:=by omega
 have byh:yh<=67108864:=by omega
 have byl:yl<=67108864:=by omega
 obtain ⟨p,hp⟩:∃p,xh*yh=p:=⟨_,rfl⟩
 obtain ⟨q,hq⟩:∃q,xh*yl=q:=⟨_,rfl⟩
 obtain ⟨r,hr⟩:∃r,xl*yh=r:=⟨_,rfl⟩
 obtain ⟨s,hs⟩:∃s,xl*yl=s:=⟨_,rfl⟩
 have bp:p<=4503599627370496:=by have:=Nat.mul_le_mul bxh byh;omega
 have bq:q<=4503599627370496:=by have:=Nat.mul_le_mul bxh byl;omega
 have br:r<=4503599627370496:=by have:=Nat.mul_le_mul bxl byh;omega
 have bs:s<=4503599627370496:=by have:=Nat.mul_le_mul bxl byl;omega
 rw [hp,hq,hr,hs] at e1
 rw [hq,hr,hs] at e2
 have hxh':(x:Int) / 67108864=(xh:Int):=by omega
 have hxl':(x:Int) % 67108864=(xl:Int):=by omega
 have hyh':(y:Int) / 67108864=(yh:Int):=by omega
 have hyl':(y:Int) % 67108864=(yl:Int):=by omega
 have hp':(xh:Int)*(yh:Int)=(p:Int):=by rw [←hp];push_cast;rfl
 have hq':(xh:Int)*(yl:Int)=(q:Int):=by rw [←hq];push_cast;rfl
 have hr':(xl:Int)*(yh:Int)=(r:Int):=by rw [←hr];push_cast;rfl
 have hs':(xl:Int)*(yl:Int)=(s:Int):=by rw [←hs];push_cast;rfl
 clear hxh hxl hyh hyl hp hq hr hs
 by_cases hh:p<8589934592
 ·have HV:Hid (fitB (rnd up (a*b) 4294967296)=putOf (decide (a<0) != decide (b<0)) (p*1048576+(q+r) / 64+((q+r) % 64*67108864+s) / 4294967296) (decide (0<(((q:Int)+(r:Int)) % 64*67108864+(s:Int)) % 4294967296)) up):=Lib.hid (by
   have hP':_=fitB (rnd up (a*b) 4294967296):=hP
   rw [←hP',e1,e2]
   congr 1
   apply decide_eq_decide.mpr
   omega)
  have hd:decide ((8589934592:Int)<=(p:Int))=false:=by simp;omega
  clear hP hF e1 e2
  go_enter Tryz.func106,Tryz.ntmps106
  go_wp2_with (first | (go_at_call_of 119 a;refine (HsA.out _).mono ?_;rintro e w' ⟨rfl,rfl⟩) | (go_at_call_of 119 b;refine (HsB.out _).mono ?_;rintro e w' ⟨rfl,rfl⟩) | (go_at_call 120;refine (ref1_putI _ _ _ _ _ (by omega) (by omega)).mono ?_;rintro e w' ⟨rfl,rfl⟩))
  go_ret2
  exact ⟨by rw [HV.out];rfl,rfl⟩
 ·have HV:Hid (fitB (rnd up (a*b) 4294967296)=(0,false)):=Lib.hid (hF (by rw [e1];omega))
  have hd:decide ((8589934592:Int)<=(p:Int))=true:=by simp;omega
  clear hP hF e1 e2
  go_enter Tryz.func106,Tryz.ntmps106
  go_wp2_with (first | (go_at_call_of 119 a;refine (HsA.out _).mono ?_;rintro e w' ⟨rfl,rfl⟩) | (go_at_call_of 119 b;refine (HsB.out _).mono ?_;rintro e w' ⟨rfl,rfl⟩))
  go_ret2
  exact ⟨ret_ib HV.out,rfl⟩


set_option maxHeartbeats 400000 in
theorem ref2_Right (s:Int×Int) (w:World) :
  Calls Tryz.prog 89 #[.agg #[.int .i64 s.1,.int .i64 s.2]] w fun e w'=>e=.returned (.bool (decide (okS s)))/\Below w.heap.size w w':=by
 obtain ⟨lo,hi⟩:=s
 by_cases h1:ok lo
 ·have H1:=Lib.hid h1
  by_cases h2:ok hi
  ·have H2:=Lib.hid h2
   by_cases h3:lo<=hi
   ·rw [show decide (okS (lo,hi))=true from decide_eq_true (by unfold ok at h1 h2;unfold okS;simp only;omega)]
    clear h1 h2
    go_enter Tryz.func89,Tryz.ntmps89
    go_wp2_with fail
    refine (ref1_Right_ok H1.out _).mono ?_;rintro e w2 ⟨rfl,rfl⟩
    go_wp2_with fail
    refine (ref1_Right_ok H2.out _).mono ?_;rintro e w2 ⟨rfl,rfl⟩
    go_wp2_with fail
    go_ret
    exact ⟨rfl,below_alloc (Below.refl _ _) _⟩
   ·rw [show decide (okS (lo,hi))=false from decide_eq_false (by unfold okS;simp only;omega)]
    have h4:decide (lo<=hi)=false:=by simp;omega
    clear h1 h2 h3
    go_enter Tryz.func89,Tryz.ntmps89
    go_wp2_with fail
    refine (ref1_Right_ok H1.out _).mono ?_;rintro e w2 ⟨rfl,rfl⟩
    go_wp2_with fail
    refine (ref1_Right_ok H2.out _).mono ?_;rintro e w2 ⟨rfl,rfl⟩
    go_wp2_with fail
    go_ret
    exact ⟨rfl,below_alloc (Below.refl _ _) _⟩
  ·have H2:=Lib.hid h2
   rw [show decide (okS (lo,hi))=false from decide_eq_false (fun g=>h2 g.hi)]
   clear h1 h2
   go_enter Tryz.func89,Tryz.ntmps89
   go_wp2_with fail
   refine (ref1_Right_ok H1.out _).mono ?_;rintro e w2 ⟨rfl,rfl⟩
   go_wp2_with fail
   refine (ref1_Right_bad H2.out _).mono ?_;rintro e w2 ⟨rfl,rfl⟩
   go_wp2_with fail
   go_ret
   exact ⟨rfl,below_alloc (Below.refl _ _) _⟩
 ·have H1:=Lib.hid h1
  rw [show decide (okS (lo,hi))=false from decide_eq_false (fun g=>h1 g.lo)]
  clear h1
  go_enter Tryz.func89,Tryz.ntmps89
  go_wp2_with fail
  refine (ref1_Right_bad H1.out _).mono ?_;rintro e w2 ⟨rfl,rfl⟩
  go_wp2_with fail
  go_ret
  exact ⟨rfl,below_alloc (Below.refl _ _) _⟩
theorem ref2_Right_ok {s:Int×Int} (h:okS s) (w:World) :
  Calls Tryz.prog 89 #[.agg #[.int .i64 s.1,.int .i64 s.2]] w fun e w'=>e=.returned (.bool true)/\Below w.heap.size w w':=by
 have:=ref2_Right s w
 rw [decide_eq_true h] at this
 exact this
theorem ref2_Right_bad {s:Int×Int} (h:¬okS s) (w:World) :
  Calls Tryz.prog 89 #[.agg #[.int .i64 s.1,.int .i64 s.2]] w fun e w'=>e=.returned (.bool false)/\Below w.heap.size w w':=by
 have:=ref2_Right s w
 rw [decide_eq_false h] at this
 exact this
theorem ref2_Right_mk {x y:Int} (h:okS (x,y)) (w:World) :
  Calls Tryz.prog 89 #[.agg #[.int .i64 x,.int .i64 y]] w fun e w'=>e=.returned (.bool true)/\Below w.heap.size w w':=ref2_Right_ok h w
theorem ref2_Right_no {x y:Int} (h:¬okS (x,y)) (w:World) :
  Calls Tryz.prog 89 #[.agg #[.int .i64 x,.int .i64 y]] w fun e w'=>e=.returned (.bool false)/\Below w.heap.size w w':=ref2_Right_bad h w

theorem ref2_Check (s:Int×Int) (w:World) :
  Calls Tryz.prog 92 #[.agg #[.int .i64 s.1,.int .i64 s.2]] w fun e w'=>e=.returned (.int .i64 (sChk s))/\Below w.heap.size w w':=by
 by_cases h:okS s
 ·have H:=Lib.hid h
  rw [sChk_ok h]
  clear h
  go_enter Tryz.func92,Tryz.ntmps92
  go_wp2_with fail
  refine (ref2_Right_ok H.out _).mono ?_;rintro e w2 ⟨rfl,hbel⟩
  have hb:=below_step (below_alloc (Below.refl _ _) _) hbel
  clear hbel
  go_wp2_with fail
  go_ret
  exact ⟨rfl,hb⟩
 ·have H:=Lib.hid h
  rw [sChk_bad h]
  clear h
  go_enter Tryz.func92,Tryz.ntmps92
  go_wp2_with fail
  refine (ref2_Right_bad H.out _).mono ?_;rintro e w2 ⟨rfl,hbel⟩
  have hb:=below_step (below_alloc (Below.refl _ _) _) hbel
  clear hbel
  go_wp2_with fail
  go_ret
  exact ⟨rfl,hb⟩

/-- Where two blocks of one interval stand. -/
theorem two_start (w:World) (a b c d:Int):Bx2 w ((w.alloc (.cells #[.int .i64 a,.int .i64 b] 31)).alloc (.cells #[.int .i64 c,.int .i64 d] 31)) (a,b) (c,d):=Bx2.start w (a,b) (c,d)

set_option maxHeartbeats 1000000 in
theorem ref2_result (lo hi:Int) (hle:lo<=hi) (w:World) :
  Calls Tryz.prog 99 #[.int .i64 lo,.int .i64 hi,.bool true] w fun e w'=>e=.returned (.tuple #[.agg #[.int .i64 (sT lo hi).1.1,.int .i64 (sT lo hi).1.2],.int .i64 (sT lo hi).2])/\Below w.heap.size w w':=by
 have hB:=two_start w 0 0 lo hi
 by_cases h:okS (lo,hi)
 ·have H:=Lib.hid h
  have HR:=Lib.hid (sT_ok h.1 h.2.2)
  clear h hle
  go_enter Tryz.func99,Tryz.ntmps99
  go_wp2_with fail
  refine (ref2_Right_mk H.out _).mono ?_;rintro e w2 ⟨rfl,hbel⟩
  have hB:=hB.on hbel
  clear hbel
  have c0:=cell_two0 hB.b0
  have c1:=cell_two1 hB.b0
  have d0:=cell_two0 hB.b1
  have d1:=cell_two1 hB.b1
  have f0:=free_two (i:=0) hB.b0
  have f1:=free_two (i:=1) hB.b0
  have l2:=lt_of_block hB.b0
  go_wp2_with fail
  exact bodyPost_ret (v:=.tuple #[.agg #[.int .i64 lo,.int .i64 hi],.int .i64 0]) (by simp [results,Tryz.results99,go_sem,c0,c1]) rfl ⟨ret_sp HR.out,below_set2 hB.bel (by omega) _ _⟩
 ·have H:=Lib.hid h
  have HR:=Lib.hid (sT_bad (lo:=lo) (hi:=hi) (fun g=>h ⟨g.1,hle,g.2⟩))
  clear h hle
  go_enter Tryz.func99,Tryz.ntmps99
  go_wp2_with fail
  refine (ref2_Right_no H.out _).mono ?_;rintro e w2 ⟨rfl,hbel⟩
  have hB:=hB.on hbel
  clear hbel
  have c0:=cell_two0 hB.b0
  have c1:=cell_two1 hB.b0
  have f0:=free_two (i:=0) hB.b0
  have f1:=free_two (i:=1) hB.b0
  have l2:=lt_of_block hB.b0
  go_wp2_with fail
  exact bodyPost_ret (v:=.tuple #[.agg #[.int .i64 0,.int .i64 0],.int .i64 6]) (by simp [results,Tryz.results99,go_sem,c0,c1]) rfl ⟨ret_sp HR.out,below_set2 hB.bel (by omega) _ _⟩
theorem ref2_result_no (lo hi:Int) (w:World) :
  Calls Tryz.prog 99 #[.int .i64 lo,.int .i64 hi,.bool false] w fun e w'=>e=.returned (.tuple #[.agg #[.int .i64 0,.int .i64 0],.int .i64 6])/\Below w.heap.size w w':=by
 go_enter Tryz.func99,Tryz.ntmps99
 go_wp2_with fail
 exact bodyPost_ret (v:=.tuple #[.agg #[.int .i64 0,.int .i64 0],.int .i64 6]) (by simp [results,Tryz.results99,go_sem]) rfl ⟨rfl,below_alloc (below_alloc (Below.refl _ _) _) _⟩

set_option maxHeartbeats 1000000 in
theorem ref2_Add (s t:Int×Int) (w:World) :
  Calls Tryz.prog 82 #[.agg #[.int .i64 s.1,.int .i64 s.2],.agg #[.int .i64 t.1,.int .i64 t.2]] w fun e w'=>e=.returned (.tuple #[.agg #[.int .i64 (sAdd s t).1.1,.int .i64 (sAdd s t).1.2],.int .i64 (sAdd s t).2])/\Below w.heap.size w w':=by
 have hB:=Bx3.start w s t
 by_cases hs:okS s
 ·by_cases ht:okS t
  ·have HS:=Lib.hid hs
   have HT:=Lib.hid ht
   have HR:=Lib.hid (show sAdd s t=sT (s.1+t.1) (s.2+t.2) from on2_ok hs ht)
   have hle:s.1+t.1<=s.2+t.2:=by unfold okS at hs ht;omega
   obtain ⟨s1,s2,s3⟩:=hs
   obtain ⟨t1,t2,t3⟩:=ht
   go_enter Tryz.func82,Tryz.ntmps82
   go_wp2_with fail
   refine (ref2_Right_ok HS.out _).mono ?_;rintro e w2 ⟨rfl,hbel⟩
   have hB:=hB.on hbel
   clear hbel
   have a0:=cell_two0 hB.b0
   have a1:=cell_two1 hB.b0
   have b0:=cell_two0 hB.b1
   have b1:=cell_two1 hB.b1
   go_wp2_with fail
   refine (ref2_Right_ok HT.out _).mono ?_;rintro e w3 ⟨rfl,hbel⟩
   have hB:=hB.on hbel
   clear hbel a0 a1 b0 b1
   have a0:=cell_two0 hB.b0
   have a1:=cell_two1 hB.b0
   have b0:=cell_two0 hB.b1
   have b1:=cell_two1 hB.b1
   go_wp2_with fail
   refine (ref2_result _ _ hle _).mono ?_;rintro e w4 ⟨rfl,hbel⟩
   rw [←HR.out]
   have hB:=hB.on hbel
   clear hbel a0 a1 b0 b1
   have c0:=cell_two0 hB.b2
   have c1:=cell_two1 hB.b2
   have f0:=free_two (i:=0) hB.b2
   have f1:=free_two (i:=1) hB.b2
   have l2:=lt_of_block hB.b2
   go_wp2_with fail
   exact bodyPost_ret (v:=.tuple #[.agg #[.int .i64 (sAdd s t).1.1,.int .i64 (sAdd s t).1.2],.int .i64 (sAdd s t).2]) (by simp [results,Tryz.results82,go_sem,c0,c1]) rfl ⟨rfl,below_set2 hB.bel (by omega) _ _⟩
  ·have HS:=Lib.hid hs
   have HT:=Lib.hid ht
   have HR:=Lib.hid (show sAdd s t=((0,0),20) from on2_bad (fun g=>ht g.2))
   clear hs ht
   go_enter Tryz.func82,Tryz.ntmps82
   go_wp2_with fail
   refine (ref2_Right_ok HS.out _).mono ?_;rintro e w2 ⟨rfl,hbel⟩
   have hB:=hB.on hbel
   clear hbel
   have a0:=cell_two0 hB.b0
   have a1:=cell_two1 hB.b0
   have b0:=cell_two0 hB.b1
   have b1:=cell_two1 hB.b1
   go_wp2_with fail
   refine (ref2_Right_bad HT.out _).mono ?_;rintro e w3 ⟨rfl,hbel⟩
   have hB:=hB.on hbel
   clear hbel a0 a1 b0 b1
   have c0:=cell_two0 hB.b2
   have c1:=cell_two1 hB.b2
   have f0:=free_two (i:=0) hB.b2
   have f1:=free_two (i:=1) hB.b2
   have l2:=lt_of_block hB.b2
   go_wp2_with fail
   exact bodyPost_ret (v:=.tuple #[.agg #[.int .i64 0,.int .i64 0],.int .i64 20]) (by simp [results,Tryz.results82,go_sem,c0,c1]) rfl ⟨ret_sp HR.out,below_set2 hB.bel (by omega) _ _⟩
 ·have HS:=Lib.hid hs
  have HR:=Lib.hid (show sAdd s t=((0,0),20) from on2_bad (fun g=>hs g.1))
  clear hs
  go_enter Tryz.func82,Tryz.ntmps82
  go_wp2_with fail
  refine (ref2_Right_bad HS.out _).mono ?_;rintro e w2 ⟨rfl,hbel⟩
  have hB:=hB.on hbel
  clear hbel
  have c0:=cell_two0 hB.b2
  have c1:=cell_two1 hB.b2
  have f0:=free_two (i:=0) hB.b2
  have f1:=free_two (i:=1) hB.b2
  have l2:=lt_of_block hB.b2
  go_wp2_with fail
  exact bodyPost_ret (v:=.tuple #[.agg #[.int .i64 0,.int .i64 0],.int .i64 20]) (by simp [results,Tryz.results82,go_sem,c0,c1]) rfl ⟨ret_sp HR.out,below_set2 hB.bel (by omega) _ _⟩

end Go.Proofs.YthhkcfpljgdnhaaGreat

/- Contracts of the reference of layer 2: four. -/
namespace Mnc
open Go
def mnK (a b c d:Int):Nat->Int
 | 2=>min a b
 | 3=>min (min a b) c
 | 4=>min (min (min a b) c) d
 | _=>a
def mxK (a b c d:Int):Nat->Int
 | 2=>max a b
 | 3=>max (max a b) c
 | 4=>max (max (max a b) c) d
 | _=>a
theorem mnK4 (a b c d:Int):min (min (min a b) c) d=min4 a b c d:=by unfold min4;omega
theorem mxK4 (a b c d:Int):max (max (max a b) c) d=max4 a b c d:=by unfold max4;omega
end Mnc
namespace Go.Proofs.YthhkcfpljgdnhaaGreat
open Go.RowKit Mnc

/-- Two arrays of four numbers, and the result's box. -/
structure F4 (w W:World) (a b c d p q r s:Int):Prop where
 bel:Below w.heap.size w W
 b0:W.heap[w.heap.size]?=some (.cells #[.int .i64 a,.int .i64 b,.int .i64 c,.int .i64 d] 123 (0,0))
 b1:W.heap[w.heap.size+1]?=some (.cells #[.int .i64 p,.int .i64 q,.int .i64 r,.int .i64 s] 123 (0,0))
 b2:W.heap[w.heap.size+1+1]?=some (.cells #[.int .i64 0,.int .i64 0] 31 (0,0))
theorem F4.on {w W W':World} {a b c d p q r s:Int} (h:F4 w W a b c d p q r s) (k:Below W.heap.size W W'):F4 w W' a b c d p q r s :=
 ⟨below_step h.bel k,(k.block _ (lt_of_block h.b0)).trans h.b0,(k.block _ (lt_of_block h.b1)).trans h.b1,(k.block _ (lt_of_block h.b2)).trans h.b2⟩
theorem F4.start (w:World) (a b c d p q r s:Int):F4 w (((w.alloc (.cells #[.int .i64 a,.int .i64 b,.int .i64 c,.int .i64 d] 123)).alloc (.cells #[.int .i64 p,.int .i64 q,.int .i64 r,.int .i64 s] 123)).alloc (.cells #[.int .i64 0,.int .i64 0] 31)) a b c d p q r s where
 bel:=below_alloc (below_alloc (below_alloc (Below.refl _ _) _) _) _
 b0:=heap_up _ (heap_up _ (heap_at _ rfl))
 b1:=heap_up _ (heap_at _ (by simp))
 b2:=heap_at _ (by simp)

theorem below_drewN {B:Nat} {a w:World} (h:Below B a w) (n:Nat):Below B a (w.drewN n):=⟨h.os,h.tape,h.output,h.size,h.block⟩

set_option maxHeartbeats 2000000 in
theorem ref2_four (a b c d p q r s:Int) (f:Bool) (hle:f=true->min4 a b c d<=max4 p q r s) (w:World) :
  Calls Tryz.prog 101 #[.agg #[.int .i64 a,.int .i64 b,.int .i64 c,.int .i64 d],.agg #[.int .i64 p,.int .i64 q,.int .i64 r,.int .i64 s],.bool f] w fun e w'=>e=.returned (.tuple #[.agg #[.int .i64 (if f then sT (min4 a b c d) (max4 p q r s) else ((0,0),6)).1.1,.int .i64 (if f then sT (min4 a b c d) (max4 p q r s) else ((0,0),6)).1.2],.int .i64 (if f then sT (min4 a b c d) (max4 p q r s) else ((0,0),6)).2])/\Below w.heap.size w w':=by
 have hB:=F4.start w a b c d p q r s
 have HLE:=Lib.hid hle
 obtain ⟨res,hres⟩:∃res,res=(if f then sT (min4 a b c d) (max4 p q r s) else ((0,0),6)):=⟨_,rfl⟩
 rw [←hres]
 have HRES:=Lib.hid hres
 clear hle hres
 go_enter Tryz.func101,Tryz.ntmps101
 go_wp2
 generalize (((w.alloc (.cells #[.int .i64 a,.int .i64 b,.int .i64 c,.int .i64 d] 123)).alloc (.cells #[.int .i64 p,.int .i64 q,.int .i64 r,.int .i64 s] 123)).alloc (.cells #[.int .i64 0,.int .i64 0] 31))=W0 at *
 obtain ⟨c0,c1,c2,c3⟩:=cell_four hB.b0
 obtain ⟨d0,d1,d2,d3⟩:=cell_four hB.b1
 go_quiet (fail)
 have HB:=Lib.hid hB
 clear hB c0 c1 c2 c3 d0 d1 d2 d3
 go_wp2
 go_loopw [8,9,10] (fun lo hi i wr=>∃k:Nat,1<=k/\k<=4/\i=.int .i64 k/\lo=.int .i64 (mnK a b c d k)/\hi=.int .i64 (mxK p q r s k)/\Hid (F4 w wr a b c d p q r s)) (fun _ _ i _=>4-(intOf i).toNat)
 case atStart=>exact ⟨1,by omega,by omega,rfl,rfl,rfl,Lib.hid (HB.out.on (below_drewN (Below.refl _ _) _))⟩
 case round =>
  obtain ⟨k,hk1,hk,rfl,rfl,rfl,HF⟩:=hrel
  obtain ⟨c0,c1,c2,c3⟩:=cell_four HF.out.b0
  obtain ⟨d0,d1,d2,d3⟩:=cell_four HF.out.b1
  rcases (by omega:k=1∨k=2∨k=3∨k=4) with rfl | rfl | rfl | rfl
  all_goals dsimp only [mnK,mxK]
  ·go_wp2
   go_quiet (fail)
   go_wp2
   go_roundw
   case rel=>exact ⟨2,by omega,by omega,rfl,int_congr (by first | rfl | (show _=min (min a b) c;omega) | (show _=min (min (min a b) c) d;omega)),int_congr (by first | rfl | (show _=max (max p q) r;omega) | (show _=max (max (max p q) r) s;omega)),Lib.hid (HF.out.on (below_drewN (Below.refl _ _) _))⟩
   case measure=>simp [intOf]
  ·go_wp2
   go_quiet (fail)
   go_wp2
   go_roundw
   case rel=>exact ⟨3,by omega,by omega,rfl,int_congr (by first | rfl | (show _=min (min a b) c;omega) | (show _=min (min (min a b) c) d;omega)),int_congr (by first | rfl | (show _=max (max p q) r;omega) | (show _=max (max (max p q) r) s;omega)),Lib.hid (HF.out.on (below_drewN (Below.refl _ _) _))⟩
   case measure=>simp [intOf]
  ·go_wp2
   go_quiet (fail)
   go_wp2
   go_roundw
   case rel=>exact ⟨4,by omega,by omega,rfl,int_congr (by first | rfl | (show _=min (min a b) c;omega) | (show _=min (min (min a b) c) d;omega)),int_congr (by first | rfl | (show _=max (max p q) r;omega) | (show _=max (max (max p q) r) s;omega)),Lib.hid (HF.out.on (below_drewN (Below.refl _ _) _))⟩
   case measure=>simp [intOf]
  ·rw [mnK4,mxK4]
   clear c0 c1 c2 c3 d0 d1 d2 d3
   have HB2:=Lib.hid (fun W hS=>(F4.on HF.out (W':=W) hS))
   generalize min4 a b c d=lo at *
   generalize max4 p q r s=hi at *
   cases f
   ·go_wp2_with fail
    refine (ref2_result_no _ _ _).mono ?_;rintro e w2 ⟨rfl,hbel⟩
    have hB:=HB2.out _ hbel
    clear hbel
    have c0:=cell_two0 hB.b2
    have c1:=cell_two1 hB.b2
    have f0:=free_two (i:=0) hB.b2
    have f1:=free_two (i:=1) hB.b2
    have l2:=lt_of_block hB.b2
    go_wp2_with fail
    exact bodyPost_ret (v:=.tuple #[.agg #[.int .i64 0,.int .i64 0],.int .i64 6]) (by simp [results,Tryz.results101,go_sem,c0,c1]) rfl ⟨ret_sp (by rw [HRES.out];rfl),below_set2 hB.bel (by omega) _ _⟩
   ·go_wp2_with fail
    refine (ref2_result _ _ (HLE.out (by trivial)) _).mono ?_;rintro e w2 ⟨rfl,hbel⟩
    have hB:=HB2.out _ hbel
    have HR:Hid (res=sT lo hi):=Lib.hid HRES.out
    rw [←HR.out]
    clear hbel
    have c0:=cell_two0 hB.b2
    have c1:=cell_two1 hB.b2
    have f0:=free_two (i:=0) hB.b2
    have f1:=free_two (i:=1) hB.b2
    have l2:=lt_of_block hB.b2
    go_wp2_with fail
    exact bodyPost_ret (v:=.tuple #[.agg #[.int .i64 res.1.1,.int .i64 res.1.2],.int .i64 res.2]) (by simp [results,Tryz.results101,go_sem,c0,c1]) rfl ⟨rfl,below_set2 hB.bel (by omega) _ _⟩
end Go.Proofs.YthhkcfpljgdnhaaGreat

/- Contracts of the drafts of intervals: Small, Span. -/
namespace Mnc
open Go
end Mnc
namespace Go.Proofs.YthhkcfpljgdnhaaGreat
open Go.RowKit Mnc

end Go.Proofs.YthhkcfpljgdnhaaGreat
