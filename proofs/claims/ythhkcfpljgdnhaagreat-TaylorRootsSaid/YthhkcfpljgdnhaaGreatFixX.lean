/- The school division with two digits (Knuth's algorithm D), in plain numbers. -/
import Derived.Test.YthhkcfpljgdnhaaGreatProg
import Derived.WalkKit
import Derived.WalkSpells
import Derived.WalkLawsBesides
import Derived.Lib.Hide
import Derived.Test.YthhkcfpljgdnhaaGreatPl
import Derived.Test.YthhkcfpljgdnhaaGreatFixC
import Derived.Lib.Mul64
import Derived.Laws.Bits64b
import Derived.Laws.MathBits
import Derived.Outline
import Derived.Deep.QuietTactic
import Derived.BigQuiet
import Derived.Deep.DeepCutAuto
import Derived.Deep.CutBlock
import Derived.BigGuardPart
import Derived.Deep.LoopGhost
namespace Mnc
/-- One step of the school division: `q` is at least the true digit, `r` what is left of the high part. -/
def Dig (u u1 y1 y0 q r:Nat):Prop:=q*y1+r=u/\(u*4294967296+u1) / (y1*4294967296+y0)<=q/\q<=4294967297

theorem dig_mul (q y1 y0:Nat):q*(y1*4294967296+y0)=q*y1*4294967296+q*y0:=by
 rw [Nat.mul_add,Nat.mul_assoc]

theorem dig_start {u u1 y1 y0:Nat} (h1:2147483648<=y1) (h0:y0<4294967296) (hu1:u1<4294967296) (hu:u<y1*4294967296+y0):Dig u u1 y1 y0 (u / y1) (u % y1):=by
 refine ⟨Nat.div_add_mod' u y1,?_,?_⟩
 ·have hy:0<y1:=by omega
  have e:u*4294967296+u1<(u / y1+1)*(y1*4294967296):=by
   have:=Nat.lt_div_mul_add (a:=u) hy
   rw [←Nat.mul_assoc,Nat.add_mul]
   have:u+1<=u / y1*y1+y1:=this
   have:=Nat.mul_le_mul_right 4294967296 this
   omega
  have:(u*4294967296+u1) / (y1*4294967296+y0)<u / y1+1:=by
   rw [Nat.div_lt_iff_lt_mul (by omega),Nat.mul_comm]
   rw [Nat.mul_comm,Nat.mul_add]
   omega
  omega
 ·have hy:0<y1:=by omega
  have:u / y1<4294967298:=by
   rw [Nat.div_lt_iff_lt_mul hy]
   omega
  omega

theorem dig_gt {u u1 y1 y0 q r:Nat} (_h1:2147483648<=y1) (hu1:u1<4294967296) (hu:u<y1*4294967296+y0) (h:Dig u u1 y1 y0 q r)
  (hc:4294967296<=q∨4294967296*r+u1<q*y0):1<=q/\(u*4294967296+u1) / (y1*4294967296+y0)<=q-1:=by
 obtain ⟨e,hq,_⟩:=h
 have hlt:(u*4294967296+u1) / (y1*4294967296+y0)<q:=by
  rcases hc with hc | hc
  ·refine Nat.lt_of_lt_of_le ?_ hc
   rw [Nat.div_lt_iff_lt_mul (by omega)]
   have:u+1<=y1*4294967296+y0:=hu
   have:=Nat.mul_le_mul_right 4294967296 this
   omega
  ·rw [Nat.div_lt_iff_lt_mul (by omega),dig_mul]
   have:(q*y1+r)*4294967296=u*4294967296:=by rw [e]
   rw [Nat.add_mul] at this
   omega
 generalize (u*4294967296+u1) / (y1*4294967296+y0)=t at *
 omega

theorem dig_down {u u1 y1 y0 q r:Nat} (h1:2147483648<=y1) (hu1:u1<4294967296) (hu:u<y1*4294967296+y0) (h:Dig u u1 y1 y0 q r)
  (hc:4294967296<=q∨4294967296*r+u1<q*y0):1<=q/\Dig u u1 y1 y0 (q-1) (r+y1):=by
 have ⟨hq1,hq2⟩:=dig_gt h1 hu1 hu h hc
 obtain ⟨e,hq,hb⟩:=h
 refine ⟨hq1,?_,hq2,by omega⟩
 obtain ⟨p,rfl⟩:∃p,q=p+1:=⟨q-1,by omega⟩
 rw [Nat.add_mul] at e
 simp only [Nat.add_sub_cancel]
 omega

theorem dig_le {u u1 y1 y0 q r:Nat} (h1:2147483648<=y1) (h:Dig u u1 y1 y0 q r) (hc:q*y0<=4294967296*r+u1):q=(u*4294967296+u1) / (y1*4294967296+y0):=by
 obtain ⟨e,hq,_⟩:=h
 refine Nat.le_antisymm ?_ hq
 rw [Nat.le_div_iff_mul_le (by omega),dig_mul]
 have:(q*y1+r)*4294967296=u*4294967296:=by rw [e]
 rw [Nat.add_mul] at this
 omega

/-- Out of the loop by its break. -/
theorem dig_break {u u1 y1 y0 q r:Nat} (h1:2147483648<=y1) (h0:y0<4294967296) (h:Dig u u1 y1 y0 q r) (hb:q<=4294967296) (hr:4294967296<=r):q=(u*4294967296+u1) / (y1*4294967296+y0):=by
 refine dig_le h1 h ?_
 have:=Nat.mul_le_mul hb (show y0<=4294967296 by omega)
 omega

theorem dig_rem {u u1 y1 y0 q:Nat} (hq:q=(u*4294967296+u1) / (y1*4294967296+y0)) (hy:0<y1) :
  u*4294967296+u1=q*(y1*4294967296+y0)+(u*4294967296+u1) % (y1*4294967296+y0)/\(u*4294967296+u1) % (y1*4294967296+y0)<y1*4294967296+y0:=by
 rw [hq]
 exact ⟨(Nat.div_add_mod' _ _).symm,Nat.mod_lt _ (by omega)⟩

/-- Two digits make the quotient. -/
theorem two_digits {u u1 u0 y q1 q0 r1:Nat} (hq1:q1=(u*4294967296+u1) / y) (hr:r1=(u*4294967296+u1) % y) (hq0:q0=(r1*4294967296+u0) / y) (hy:0<y) :
  q1*4294967296+q0=(u*18446744073709551616+u1*4294967296+u0) / y/\(r1*4294967296+u0) % y=(u*18446744073709551616+u1*4294967296+u0) % y:=by
 have e:u*18446744073709551616+u1*4294967296+u0=(r1*4294967296+u0)+y*(q1*4294967296):=by
  have h:=Nat.div_add_mod (u*4294967296+u1) y
  rw [←hq1,←hr] at h
  have e2:y*(q1*4294967296)=y*q1*4294967296:=(Nat.mul_assoc _ _ _).symm
  rw [e2]
  clear hq0 hr hq1 e2
  omega
 rw [e,Nat.add_mul_div_left _ _ hy,Nat.add_mul_mod_self_left,←hq0]
 exact ⟨Nat.add_comm _ _,rfl⟩

/-- A number of two words, moved to the left: the high word and the low word of what comes out. -/
theorem shift_split (hi lo s:Nat) (hs:s<=63) :
  (hi*18446744073709551616+lo)*2 ^ s=(hi*2 ^ s+lo / 2 ^ (64-s))*18446744073709551616+lo*2 ^ s % 18446744073709551616:=by
 have e:lo*2 ^ s / 18446744073709551616=lo / 2 ^ (64-s):=by
  have h:=Nat.mul_div_mul_right lo (2 ^ (64-s)) (Nat.two_pow_pos s)
  rw [←Nat.pow_add,show 64-s+s=64 by omega] at h
  exact h
 have h2:=Nat.div_add_mod' (lo*2 ^ s) 18446744073709551616
 rw [e] at h2
 have e3:hi*18446744073709551616*2 ^ s=hi*2 ^ s*18446744073709551616:=Nat.mul_right_comm _ _ _
 rw [Nat.add_mul,Nat.add_mul,e3,Nat.add_assoc,h2]

theorem shift_lt {hi lo s y:Nat} (hs:s<=63) (hl:lo<18446744073709551616) (h:hi<y):hi*2 ^ s+lo / 2 ^ (64-s)<y*2 ^ s:=by
 have e:=shift_split hi lo s hs
 have h1:hi*18446744073709551616+lo<y*18446744073709551616:=by omega
 have h2:=Nat.mul_lt_mul_of_pos_right h1 (Nat.two_pow_pos s)
 have e3:y*18446744073709551616*2 ^ s=y*2 ^ s*18446744073709551616:=Nat.mul_right_comm _ _ _
 rw [e,e3] at h2
 clear e e3 h1
 generalize hi*2 ^ s+lo / 2 ^ (64-s)=u at *
 generalize y*2 ^ s=z at *
 omega

theorem low_lt {lo s:Nat} (hs:s<=63) (hl:lo<18446744073709551616):lo / 2 ^ (64-s)<2 ^ s:=by
 rw [Nat.div_lt_iff_lt_mul (Nat.two_pow_pos _),←Nat.pow_add,show s+(64-s)=64 by omega]
 exact hl

/-- Back from the moved numbers to those that were asked for. -/
theorem div_back {hi lo s y Y u t u1 u0 Q1 R1 Q0:Nat} (hY:Y=y*2 ^ s) (hs:(hi*18446744073709551616+lo)*2 ^ s=u*18446744073709551616+t)
  (ht:u1*4294967296+u0=t) (hQ1:Q1=(u*4294967296+u1) / Y) (hR1:R1=(u*4294967296+u1) % Y) (hQ0:Q0=(R1*4294967296+u0) / Y) (hY0:0<Y) (hlt:hi<y) (hl:lo<18446744073709551616) :
  Q1*4294967296+Q0=(hi*18446744073709551616+lo) / y/\(R1*4294967296+u0) % Y=(hi*18446744073709551616+lo) % y*2 ^ s/\(hi*18446744073709551616+lo) / y<18446744073709551616:=by
 have hN:u*18446744073709551616+u1*4294967296+u0=(hi*18446744073709551616+lo)*2 ^ s:=by rw [hs,←ht,Nat.add_assoc]
 obtain ⟨a,b⟩:=two_digits (u0:=u0) hQ1 hR1 hQ0 hY0
 rw [hN,hY,Nat.mul_div_mul_right _ _ (Nat.two_pow_pos s)] at a
 rw [hN] at b
 refine ⟨a,?_,?_⟩
 ·rw [b,hY,Nat.mul_mod_mul_right]
 ·rw [Nat.div_lt_iff_lt_mul (by omega)];omega
end Mnc

/- Contracts of the small functions of package fix: Check, all, told, Add, Sub, Neg, size. -/
namespace Go.Proofs.YthhkcfpljgdnhaaGreat
open Go.RowKit Mnc

set_option maxHeartbeats 400000 in
theorem fix_Check (a:Int) (w:World) :
  Calls Tryz.prog 123 #[.int .i64 a] w fun e w'=>e=.returned (.int .i64 (chk a))/\w=w':=by
 by_cases h1:a< -4503599627370496
 ·go_enter Tryz.func123,Tryz.ntmps123
  go_wp2
  go_ret
  exact ⟨ret_int (by rw [chk_bad (by unfold ok;omega)]),rfl⟩
 ·by_cases h2:4503599627370496<a
  ·go_enter Tryz.func123,Tryz.ntmps123
   go_wp2
   go_ret
   exact ⟨ret_int (by rw [chk_bad (by unfold ok;omega)]),rfl⟩
  ·go_enter Tryz.func123,Tryz.ntmps123
   go_wp2
   go_ret
   exact ⟨ret_int (by rw [chk_ok (by unfold ok;omega)]),rfl⟩

set_option maxHeartbeats 400000 in
theorem fix_all2 (a b:Int) (blk:Nat) (w:World) (hc0:w.cell? ⟨blk,0,none⟩=some (.int .i64 a)) (hc1:w.cell? ⟨blk,1,none⟩=some (.int .i64 b)) :
  Calls Tryz.prog 112 #[.slice (some ⟨blk,0,none⟩) 2 2] w fun e w'=>e=.returned (.int .i64 (chk2 a b))/\w=w':=by
 go_enter Tryz.func112,Tryz.ntmps112
 go_wp2
 go_loop [8] (fun i=>∃k:Nat,k<=2/\i=.int .i64 k/\(1<=k->ok a)/\(2<=k->ok b)) (fun i=>2-(intOf i).toNat)
 case atStart=>exact ⟨0,by omega,rfl,by omega,by omega⟩
 case round =>
  obtain ⟨k,hk,rfl,ha,hb⟩:=hrel
  rcases (by omega:k=0∨k=1∨k=2) with rfl | rfl | rfl
  ·by_cases h:ok a
   ·have H:=Lib.hid h;clear h
    have Hc:=Lib.hid (chk_ok H.out)
    go_wp2_with (go_at_call 123;refine (fix_Check _ _).mono ?_;rintro e w' ⟨rfl,rfl⟩;rw [Hc.out])
    go_round
    case rel=>exact ⟨1,by omega,rfl,fun _=>H.out,by omega⟩
    case measure=>simp [intOf]
   ·have H:=Lib.hid h;clear h
    have Hc:=Lib.hid (chk_bad H.out)
    go_wp2_with (go_at_call 123;refine (fix_Check _ _).mono ?_;rintro e w' ⟨rfl,rfl⟩;rw [Hc.out])
    go_ret
    exact ⟨ret_int (chk2_l H.out).symm,rfl⟩
  ·by_cases h:ok b
   ·have H:=Lib.hid h;clear h
    have Hc:=Lib.hid (chk_ok H.out)
    go_wp2_with (go_at_call 123;refine (fix_Check _ _).mono ?_;rintro e w' ⟨rfl,rfl⟩;rw [Hc.out])
    go_round
    case rel=>exact ⟨2,by omega,rfl,fun _=>ha (by omega),fun _=>H.out⟩
    case measure=>simp [intOf]
   ·have H:=Lib.hid h;clear h
    have Hc:=Lib.hid (chk_bad H.out)
    go_wp2_with (go_at_call 123;refine (fix_Check _ _).mono ?_;rintro e w' ⟨rfl,rfl⟩;rw [Hc.out])
    go_ret
    exact ⟨ret_int (chk2_r H.out).symm,rfl⟩
  ·have Ha:=Lib.hid ha;have Hb:=Lib.hid hb;clear ha hb
   go_wp2
   go_ret
   exact ⟨ret_int (chk2_ok (Ha.out (by omega)) (Hb.out (by omega))).symm,rfl⟩

theorem fix_all2_new (a b:Int) (w:World) :
  Calls Tryz.prog 112 #[.slice (some ⟨w.heap.size,0,none⟩) 2 2] (w.alloc (.cells #[.int .i64 a,.int .i64 b] 3)) fun e w'=>e=.returned (.int .i64 (chk2 a b))/\w.alloc (.cells #[.int .i64 a,.int .i64 b] 3)=w' :=
 fix_all2 a b _ _ (by simp) (by simp)

/-- The size of a number: what is left without its sign. -/
theorem fix_size (a:Int) (w:World) (h1:-9223372036854775808<=a) (h2:a<=9223372036854775807) :
  Calls Tryz.prog 117 #[.int .i64 a] w fun e w'=>e=.returned (.int .u64 (a.natAbs:Int))/\w=w':=by
 by_cases h:a<0
 ·go_enter Tryz.func117,Tryz.ntmps117
  go_wp2
  go_ret
  exact ⟨ret_int (by omega),rfl⟩
 ·go_enter Tryz.func117,Tryz.ntmps117
  go_wp2
  go_ret
  exact ⟨ret_int (by omega),rfl⟩

namespace M64
theorem maskN (a:Nat) (ha:a<18446744073709551616):bits .and .u64 (a:Int) 4294967295=((a % 4294967296:Nat):Int):=by
 have h:=bits_and_u64_nat a 4294967295 ha (by omega)
 have e:a &&& 4294967295=a % 4294967296:=Nat.and_two_pow_sub_one_eq_mod a 32
 rw [e] at h
 exact h
theorem divN (a:Nat):(a:Int) / 4294967296=((a / 4294967296:Nat):Int):=by omega
theorem mulN (a b:Nat):(a:Int)*(b:Int)=((a*b:Nat):Int):=(Int.natCast_mul a b).symm
theorem addN (a b:Nat):(a:Int)+(b:Int)=((a+b:Nat):Int):=(Int.natCast_add a b).symm
theorem wrapN (a:Nat) (ha:a<18446744073709551616):IntKind.u64.wrap (a:Int)=(a:Int):=by rw [IntKind.wrap_u64];omega
theorem wrapM (a:Nat):IntKind.u64.wrap (a:Int)=((a % 18446744073709551616:Nat):Int):=by rw [IntKind.wrap_u64];omega
end M64

set_option maxHeartbeats 1000000 in
theorem bits_Mul64 (x y:Nat) (hx:x<18446744073709551616) (hy:y<18446744073709551616) (w:World) :
  Calls Tryz.prog 108 #[.int .u64 x,.int .u64 y] w fun e w'=>e=.returned (.tuple #[.int .u64 ((x*y / 18446744073709551616:Nat):Int),.int .u64 ((x*y % 18446744073709551616:Nat):Int)])/\w=w':=by
 obtain ⟨bd,bt,bw,hhi⟩:=Lib.mul64_hi x y hx hy
 have ba:=Lib.half_mul_le (a:=x / 4294967296) (b:=y / 4294967296) (by omega) (by omega)
 have bb:=Lib.half_mul_le (a:=x / 4294967296) (b:=y % 4294967296) (by omega) (by omega)
 have bc:=Lib.half_mul_le (a:=x % 4294967296) (b:=y / 4294967296) (by omega) (by omega)
 have ba':x / 4294967296*(y / 4294967296)<18446744073709551616:=by omega
 have bb':x / 4294967296*(y % 4294967296)<18446744073709551616:=by omega
 have bc':x % 4294967296*(y / 4294967296)<18446744073709551616:=by omega
 have bh1:x / 4294967296*(y / 4294967296)+(x / 4294967296*(y % 4294967296)+x % 4294967296*(y % 4294967296) / 4294967296) / 4294967296<18446744073709551616:=by omega
 have bh:x / 4294967296*(y / 4294967296)+(x / 4294967296*(y % 4294967296)+x % 4294967296*(y % 4294967296) / 4294967296) / 4294967296+((x / 4294967296*(y % 4294967296)+x % 4294967296*(y % 4294967296) / 4294967296) % 4294967296+x % 4294967296*(y / 4294967296)) / 4294967296<18446744073709551616:=by omega
 go_enter Tryz.func108,Tryz.ntmps108
 go_wp2
 simp only [M64.maskN x hx,M64.maskN y hy,M64.divN,M64.mulN,M64.addN,M64.wrapN _ bd,M64.wrapN _ bb',M64.wrapN _ bt,M64.maskN _ bt,M64.wrapN _ bc',M64.wrapN _ bw,M64.wrapN _ ba',M64.wrapN _ bh1,M64.wrapN _ bh,M64.wrapM (x*y)]
 rw [hhi]
 go_ret2
 exact ⟨rfl,rfl⟩

set_option maxHeartbeats 1000000 in
theorem bits_LeadingZeros64 (x:Int) (w:World) (h0:0<=x) (h1:x<=18446744073709551615) :
  Calls Tryz.prog 129 #[.int .u64 x] w fun e w'=>e=.returned (.int .i64 (64-(Lib.bitLen x.toNat:Int)))/\w=w':=by
 have l:=(bitLen_spec x.toNat (by omega)).2.2
 go_enter Tryz.func129,Tryz.ntmps129
 go_wp2_with (go_at_call 130;refine (bits_Len64 x _ h0 h1).mono ?_;rintro e w' ⟨rfl,rfl⟩)
 go_ret
 exact ⟨rfl,rfl⟩
set_option maxHeartbeats 1000000 in
theorem fix_product (x y:Nat) (hx:x<18446744073709551616) (hy:y<18446744073709551616) (w:World) :
  Calls Tryz.prog 116 #[.int .u64 x,.int .u64 y] w fun e w'=>e=.returned (.agg #[.int .u64 ((x*y / 18446744073709551616:Nat):Int),.int .u64 ((x*y % 18446744073709551616:Nat):Int)])/\Below w.heap.size w w':=by
 go_enter Tryz.func116,Tryz.ntmps116
 go_wp2_with (go_at_call 108;refine (bits_Mul64 _ _ hx hy _).mono ?_;rintro e w' ⟨rfl,rfl⟩)
 exact bodyPost_ret (v:=.agg #[.int .u64 ((x*y / 18446744073709551616:Nat):Int),.int .u64 ((x*y % 18446744073709551616:Nat):Int)]) (by simp [results,Tryz.results116,go_sem]) rfl ⟨rfl,(Below.refl _ _).alloc (Nat.le_refl _) _⟩

theorem int_congr {k:IntKind} {a b:Int} (h:a=b):Value.int k a=.int k b:=by rw [h]

theorem ret_two {k k':IntKind} {a b a' b':Int} (h:a=a') (h':b=b'):Ending.returned (.tuple #[.int k a,.int k' b])=.returned (.tuple #[.int k a',.int k' b']):=by rw [h,h']

theorem fin_a (Q1 Q0 n:Nat) (h:Q1*4294967296+Q0=n) (hn:n<18446744073709551616):IntKind.u64.wrap (IntKind.u64.wrap ((Q1:Int)*4294967296)+(Q0:Int))=(n:Int):=by
 simp only [IntKind.wrap_u64];omega
theorem fin_b (R1 u0 Q0 Y z:Nat) (h:Q0*Y+z=R1*4294967296+u0) (hz:z<18446744073709551616) :
  IntKind.u64.wrap (IntKind.u64.wrap (IntKind.u64.wrap ((R1:Int)*4294967296)+(u0:Int))-IntKind.u64.wrap ((Q0:Int)*(Y:Int)))=(z:Int):=by
 have hc:((Q0*Y:Nat):Int)=(Q0:Int)*(Y:Int):=Int.natCast_mul _ _
 rw [←hc]
 generalize Q0*Y=m at *
 simp only [IntKind.wrap_u64];omega
theorem fin_c (n s:Nat):((n*2 ^ s:Nat):Int) / 2 ^ s=(n:Int):=by
 push_cast
 rw [Int.mul_ediv_cancel _ (Int.ne_of_gt (Int.pow_pos (by omega)))]

theorem small_quo (lo y:Nat) (hl:lo<18446744073709551616):IntKind.u64.wrap ((lo:Int) / (y:Int))=((lo / y:Nat):Int):=by
 rw [←Int.natCast_ediv];exact M64.wrapN _ (Nat.lt_of_le_of_lt (Nat.div_le_self _ _) hl)

theorem or_shift (hi lo s:Nat) (hs:s<=63) (hl:lo<18446744073709551616) (hb:hi*2 ^ s<18446744073709551616) :
  bits .or .u64 (IntKind.u64.wrap ((hi:Int)*2 ^ s)) ((lo:Int) / 2 ^ (64-s))=((hi*2 ^ s+lo / 2 ^ (64-s):Nat):Int):=by
 have e1:IntKind.u64.wrap ((hi:Int)*2 ^ s)=((hi*2 ^ s:Nat):Int):=by
  rw [←M64.wrapN _ hb];push_cast;rfl
 have e2:(lo:Int) / 2 ^ (64-s)=((lo / 2 ^ (64-s):Nat):Int):=by push_cast;rfl
 have h3:lo / 2 ^ (64-s)<18446744073709551616:=Nat.lt_of_le_of_lt (Nat.div_le_self _ _) hl
 rw [e1,e2,bits_or_u64_nat _ _ hb h3]
 have h:=Nat.shiftLeft_add_eq_or_of_lt (low_lt hs hl) hi
 rw [Nat.shiftLeft_eq] at h
 rw [←h]

set_option maxHeartbeats 1000000 in
theorem bits_Div64_small (lo y:Nat) (hl:lo<18446744073709551616) (hy:y<18446744073709551616) (hlt:0<y) (w:World) :
  Calls Tryz.prog 126 #[.int .u64 0,.int .u64 lo,.int .u64 y] w fun e w'=>e=.returned (.tuple #[.int .u64 ((lo / y:Nat):Int),.int .u64 ((lo % y:Nat):Int)])/\∃n,w'=w.drewN n:=by
 have h0:((y:Int)==0)=false:=by simp;omega
 have h1:¬(y:Int)=0:=by omega
 have h2:¬(y:Int)<=0:=by omega
 have h3:decide ((y:Int)<=0)=false:=by simp;omega
 go_enter Tryz.func126,Tryz.ntmps126
 go_wp2
 go_quiet (fail)
 go_wp2
 go_ret2
 exact ⟨ret_two (small_quo lo y hl) (Int.natCast_emod lo y).symm,_,rfl⟩

theorem bits_LZ (y:Nat) (w:World) (h0:0<y) (h1:y<18446744073709551616) :
  Calls Tryz.prog 129 #[.int .u64 y] w fun e w'=>∃s:Nat,e=.returned (.int .i64 s)/\s<=63/\Hid (9223372036854775808<=y*2 ^ s/\y*2 ^ s<18446744073709551616)/\w=w':=by
 refine (bits_LeadingZeros64 y w (by omega) (by omega)).mono ?_
 rintro e w' ⟨rfl,rfl⟩
 rw [Int.toNat_natCast]
 obtain ⟨a,b,c⟩:=bitLen_spec y h1
 obtain ⟨b1,b2⟩:=b (by omega)
 refine ⟨64-Lib.bitLen y,ret_int (by omega),by omega,⟨?_,?_⟩,rfl⟩
 ·have:=Nat.mul_le_mul_right (2 ^ (64-Lib.bitLen y)) b2
  rw [←Nat.pow_add,show Lib.bitLen y-1+(64-Lib.bitLen y)=63 by omega] at this
  exact this
 ·have:=Nat.mul_lt_mul_of_pos_right a (Nat.two_pow_pos (64-Lib.bitLen y))
  rw [←Nat.pow_add,show Lib.bitLen y+(64-Lib.bitLen y)=64 by omega] at this
  exact this

set_option maxRecDepth 100000 in
set_option maxHeartbeats 1000000 in
theorem bits_Div64_great (hi lo y:Nat) (hl:lo<18446744073709551616) (hy:y<18446744073709551616) (hlt:hi<y) (hpos:0<hi) (w:World) :
  Calls Tryz.prog 126 #[.int .u64 hi,.int .u64 lo,.int .u64 y] w fun e w'=>e=.returned (.tuple #[.int .u64 (((hi*18446744073709551616+lo) / y:Nat):Int),.int .u64 (((hi*18446744073709551616+lo) % y:Nat):Int)])/\w=w':=by
 have h0:((y:Int)==0)=false:=by simp;omega
 have h2:¬y<=hi:=by omega
 have h4:((hi:Int)==0)=false:=by simp;omega
 go_enter Tryz.func126,Tryz.ntmps126
 go_upto_region 9 with (go_at_call 129;refine (bits_LZ _ _ (by omega) hy).mono ?_;rintro e w' ⟨s,rfl,hs,HS,rfl⟩)
 obtain ⟨Y,hYe⟩:∃Y,Y=y*2 ^ s:=⟨_,rfl⟩
 have hYb:=HS.out
 rw [←hYe] at hYb
 obtain ⟨hY1,hY2⟩:=hYb
 have e1:IntKind.u64.wrap ((y:Int)*2 ^ s)=(Y:Int):=by
  rw [←M64.wrapN Y hY2,hYe];push_cast;rfl
 rw [e1]
 have HY:=Lib.hid hYe
 clear hYe e1
 go_upto_region 11 with (fail)
 rw [M64.divN Y,M64.maskN Y hY2]
 obtain ⟨y1,hy1⟩:∃y1,y1=Y / 4294967296:=⟨_,rfl⟩
 obtain ⟨y0,hy0⟩:∃y0,y0=Y % 4294967296:=⟨_,rfl⟩
 rw [←hy1,←hy0]
 have hYd:y1*4294967296+y0=Y:=by omega
 have hy1a:2147483648<=y1:=by omega
 have hy1b:y1<4294967296:=by omega
 have hy0b:y0<4294967296:=by omega
 have HYd:=Lib.hid hYd
 clear hYd hy1 hy0
 go_upto_region 13 with (fail)
 have hult:=shift_lt hs hl hlt
 rw [←HY.out] at hult
 rw [or_shift hi lo s hs hl (Nat.lt_of_le_of_lt (Nat.le_add_right _ _) (Nat.lt_trans hult hY2))]
 have e2:IntKind.u64.wrap ((lo:Int)*2 ^ s)=((lo*2 ^ s % 18446744073709551616:Nat):Int):=by
  rw [←M64.wrapM];push_cast;rfl
 rw [e2]
 clear e2
 have hsplit:=Lib.hid (shift_split hi lo s hs)
 have ht:lo*2 ^ s % 18446744073709551616<18446744073709551616:=Nat.mod_lt _ (by omega)
 generalize hi*2 ^ s+lo / 2 ^ (64-s)=u at *
 generalize lo*2 ^ s % 18446744073709551616=t at *
 go_upto_region 15 with (fail)
 rw [M64.divN t,M64.maskN t ht]
 obtain ⟨u1,hu1⟩:∃u1,u1=t / 4294967296:=⟨_,rfl⟩
 obtain ⟨u0,hu0⟩:∃u0,u0=t % 4294967296:=⟨_,rfl⟩
 rw [←hu1,←hu0]
 have Ht:=Lib.hid (show u1*4294967296+u0=t by omega)
 have hu1b:u1<4294967296:=by omega
 have hu0b:u0<4294967296:=by omega
 clear hu1 hu0
 have hy1z:¬(y1:Int)=0:=by omega
 go_upto_region 16 with (fail)
 have hd0:=dig_start hy1a hy0b hu1b (by rw [HYd.out];exact hult)
 have e3:IntKind.u64.wrap ((u:Int) / (y1:Int))=((u / y1:Nat):Int):=by
  rw [←Int.natCast_ediv];exact M64.wrapN _ (Nat.lt_of_le_of_lt (Nat.div_le_self _ _) (by omega))
 rw [e3]
 clear e3
 have hr0:u % y1<y1:=Nat.mod_lt _ (by omega)
 generalize u / y1=q at *
 generalize u % y1=r at *
 go_upto_block 0 with (fail)
 have e4:IntKind.u64.wrap ((u:Int)-IntKind.u64.wrap ((q:Int)*(y1:Int)))=(r:Int):=by
  have:=hd0.1
  rw [←Int.natCast_mul,M64.wrapN _ (by omega),←M64.wrapN r (by omega)]
  congr 1;omega
 rw [e4]
 clear e4
 have HD:=Lib.hid hd0
 clear hd0
 have Hlt:=Lib.hid (show u<y1*4294967296+y0 by rw [HYd.out];exact hult)
 go_cut [15,16] (fun a b wx=>wx=w/\a=.int .u64 (((u*4294967296+u1) / (y1*4294967296+y0):Nat):Int))
 case first =>
  go_wp2_with fail
  go_loop [15,16] (fun a b=>∃q r:Nat,a=.int .u64 q/\b=.int .u64 r/\Hid (Dig u u1 y1 y0 q r)/\r<4294967296) (fun a _=>(intOf a).toNat)
  case atStart=>exact ⟨q,r,rfl,rfl,HD,by omega⟩
  case round =>
   clear HD hr0
   obtain ⟨q,r,rfl,rfl,HD,hr⟩:=hrel
   have hqb:q<=4294967297:=HD.out.2.2
   have hm0:=Nat.mul_le_mul hqb (show y0<=4294967295 by omega)
   obtain ⟨m,hm⟩:∃m,m=q*y0:=⟨_,rfl⟩
   obtain ⟨g,hg⟩:∃g,g=4294967296*r+u1:=⟨_,rfl⟩
   have em:IntKind.u64.wrap ((q:Int)*(y0:Int))=(m:Int):=by rw [hm,←Int.natCast_mul];exact M64.wrapN _ (by omega)
   have eg:IntKind.u64.wrap (IntKind.u64.wrap (4294967296*(r:Int))+(u1:Int))=(g:Int):=by
    rw [IntWalk.u64_in (4294967296*(r:Int)) (by omega),IntWalk.u64_in _ (by omega)];omega
   obtain ⟨r',hr'⟩:∃r',r'=r+y1:=⟨_,rfl⟩
   obtain ⟨q',hq'⟩:∃q',q'=q-1:=⟨_,rfl⟩
   have er:IntKind.u64.wrap ((r:Int)+(y1:Int))=(r':Int):=by rw [IntWalk.u64_in _ (by omega)];omega
   have er2:(r:Int)+(y1:Int)=(r':Int):=by omega
   have eq:1<=q->IntKind.u64.wrap ((q:Int)-1)=(q':Int):=fun h=>by rw [IntWalk.u64_in _ (by omega)];omega
   have Hr:=Lib.hid hr
   have Hm:=Lib.hid hm
   have Hg:=Lib.hid hg
   have Hr':=Lib.hid hr'
   have Hq':=Lib.hid hq'
   have Hqb:=Lib.hid hqb
   have EQ:=Lib.hid eq
   have ER:=Lib.hid er
   have ER2:=Lib.hid er2
   clear hm0 hm hg hr hr' hq' hqb eq er er2
   by_cases hc1:4294967296<=q
   ·have hd1:=dig_down hy1a hu1b Hlt.out HD.out (Or.inl hc1)
    have hb0:decide ((4294967296:Int)<=(q:Int))=true:=by simp;omega
    clear hc1
    rw [←Hr'.out,←Hq'.out] at hd1
    have eq:=EQ.out hd1.1
    have HD1:=Lib.hid hd1
    clear hd1
    by_cases hr1:4294967296<=r'
    ·have hb1:decide ((4294967296:Int)<=(r':Int))=true:=by simp;omega
     have Hr1:=Lib.hid hr1
     clear hr1
     go_upto_region 20 with (fail)
     first | rw [ER.out] | rw [ER2.out]
     clear em eg eq
     go_wp2
     go_meet
     case rel=>exact ⟨rfl,int_congr (congrArg Int.ofNat (dig_break hy1a hy0b HD1.out.2 (by have:=Hq'.out;have:=Hqb.out;omega) Hr1.out))⟩
    ·have hb1:decide ((4294967296:Int)<=(r':Int))=false:=by simp;omega
     have Hr1:=Lib.hid hr1
     clear hr1
     go_upto_region 20 with (fail)
     first | rw [ER.out] | rw [ER2.out]
     clear em eg eq
     go_wp2
     go_round
     case rel=>exact ⟨q',r',rfl,rfl,HD1.out.2,by have:=Hr1.out;omega⟩
     case measure=>have:=Hq'.out;have:=HD1.out.1;simp [intOf];omega
   ·have hb0:decide ((4294967296:Int)<=(q:Int))=false:=by simp;omega
    clear hc1
    by_cases hc2:g<m
    ·have hd1:=dig_down hy1a hu1b Hlt.out HD.out (Or.inr (by rw [←Hm.out,←Hg.out];exact hc2))
     rw [←Hr'.out,←Hq'.out] at hd1
     have eq:=EQ.out hd1.1
     have HD1:=Lib.hid hd1
     clear hd1
     by_cases hr1:4294967296<=r'
     ·have hb1:decide ((4294967296:Int)<=(r':Int))=true:=by simp;omega
      have Hr1:=Lib.hid hr1
      clear hr1
      go_upto_region 20 with (fail)
      first | rw [ER.out] | rw [ER2.out]
      clear em eg eq
      go_wp2
      go_meet
      case rel=>exact ⟨rfl,int_congr (congrArg Int.ofNat (dig_break hy1a hy0b HD1.out.2 (by have:=Hq'.out;have:=Hqb.out;omega) Hr1.out))⟩
     ·have hb1:decide ((4294967296:Int)<=(r':Int))=false:=by simp;omega
      have Hr1:=Lib.hid hr1
      clear hr1
      go_upto_region 20 with (fail)
      first | rw [ER.out] | rw [ER2.out]
      clear em eg eq
      go_wp2
      go_round
      case rel=>exact ⟨q',r',rfl,rfl,HD1.out.2,by have:=Hr1.out;omega⟩
      case measure=>have:=Hq'.out;have:=HD1.out.1;simp [intOf];omega
    ·have HQ:=Lib.hid (dig_le hy1a HD.out (by rw [←Hm.out,←Hg.out];omega))
     go_wp2
     go_meet
     case rel=>exact ⟨rfl,int_congr (congrArg Int.ofNat HQ.out)⟩
 case rest =>
  clear HD hr0
  obtain ⟨rfl,rfl⟩:=hcut
  obtain ⟨hrm,hrl⟩:=dig_rem (u:=u) (u1:=u1) (y1:=y1) (y0:=y0) rfl (by omega)
  rw [HYd.out] at hrm hrl ⊢
  obtain ⟨Q1,hQ1⟩:∃Q1,Q1=(u*4294967296+u1) / Y:=⟨_,rfl⟩
  obtain ⟨R1,hR1⟩:∃R1,R1=(u*4294967296+u1) % Y:=⟨_,rfl⟩
  rw [←hQ1,←hR1] at hrm
  rw [←hR1] at hrl
  rw [←hQ1]
  have eu:IntKind.u64.wrap (IntKind.u64.wrap (IntKind.u64.wrap ((u:Int)*4294967296)+(u1:Int))-IntKind.u64.wrap ((Q1:Int)*(Y:Int)))=(R1:Int):=by
   have hc:((Q1*Y:Nat):Int)=(Q1:Int)*(Y:Int):=Int.natCast_mul _ _
   rw [←hc]
   simp only [IntKind.wrap_u64]
   omega
  have HQ1:=Lib.hid hQ1
  have HR1:=Lib.hid hR1
  have EU:=Lib.hid eu
  clear hQ1 hR1 eu hrm Hlt
  go_upto_region 22 with (fail)
  rw [EU.out]
  have Hlt:=Lib.hid (show R1<y1*4294967296+y0 by rw [HYd.out];exact hrl)
  clear EU
  have hd0:=dig_start hy1a hy0b hu0b Hlt.out
  go_upto_region 23 with (fail)
  have e3:IntKind.u64.wrap ((R1:Int) / (y1:Int))=((R1 / y1:Nat):Int):=by
   rw [←Int.natCast_ediv];exact M64.wrapN _ (Nat.lt_of_le_of_lt (Nat.div_le_self _ _) (by omega))
  rw [e3]
  clear e3
  have hr0:R1 % y1<y1:=Nat.mod_lt _ (by omega)
  generalize R1 / y1=q at *
  generalize R1 % y1=r at *
  go_upto_block 2 with (fail)
  have e4:IntKind.u64.wrap ((R1:Int)-IntKind.u64.wrap ((q:Int)*(y1:Int)))=(r:Int):=by
   have:=hd0.1
   rw [←Int.natCast_mul,M64.wrapN _ (by omega),←M64.wrapN r (by omega)]
   congr 1;omega
  rw [e4]
  clear e4
  have HD:=Lib.hid hd0
  clear hd0
  go_cut [18,16] (fun a b wx=>wx=wc/\a=.int .u64 (((R1*4294967296+u0) / (y1*4294967296+y0):Nat):Int))
  case first =>
   go_wp2_with fail
   go_loop [18,16] (fun a b=>∃q r:Nat,a=.int .u64 q/\b=.int .u64 r/\Hid (Dig R1 u0 y1 y0 q r)/\r<4294967296) (fun a _=>(intOf a).toNat)
   case atStart=>exact ⟨q,r,rfl,rfl,HD,by omega⟩
   case round =>
    clear HD hr0
    obtain ⟨q,r,rfl,rfl,HD,hr⟩:=hrel
    have hqb:q<=4294967297:=HD.out.2.2
    have hm0:=Nat.mul_le_mul hqb (show y0<=4294967295 by omega)
    obtain ⟨m,hm⟩:∃m,m=q*y0:=⟨_,rfl⟩
    obtain ⟨g,hg⟩:∃g,g=4294967296*r+u0:=⟨_,rfl⟩
    have em:IntKind.u64.wrap ((q:Int)*(y0:Int))=(m:Int):=by rw [hm,←Int.natCast_mul];exact M64.wrapN _ (by omega)
    have eg:IntKind.u64.wrap (IntKind.u64.wrap (4294967296*(r:Int))+(u0:Int))=(g:Int):=by
     rw [IntWalk.u64_in (4294967296*(r:Int)) (by omega),IntWalk.u64_in _ (by omega)];omega
    obtain ⟨r',hr'⟩:∃r',r'=r+y1:=⟨_,rfl⟩
    obtain ⟨q',hq'⟩:∃q',q'=q-1:=⟨_,rfl⟩
    have er:IntKind.u64.wrap ((r:Int)+(y1:Int))=(r':Int):=by rw [IntWalk.u64_in _ (by omega)];omega
    have er2:(r:Int)+(y1:Int)=(r':Int):=by omega
    have eq:1<=q->IntKind.u64.wrap ((q:Int)-1)=(q':Int):=fun h=>by rw [IntWalk.u64_in _ (by omega)];omega
    have Hr:=Lib.hid hr
    have Hm:=Lib.hid hm
    have Hg:=Lib.hid hg
    have Hr':=Lib.hid hr'
    have Hq':=Lib.hid hq'
    have Hqb:=Lib.hid hqb
    have EQ:=Lib.hid eq
    have ER:=Lib.hid er
    have ER2:=Lib.hid er2
    clear hm0 hm hg hr hr' hq' hqb eq er er2
    by_cases hc1:4294967296<=q
    ·have hd1:=dig_down hy1a hu0b Hlt.out HD.out (Or.inl hc1)
     have hb0:decide ((4294967296:Int)<=(q:Int))=true:=by simp;omega
     clear hc1
     rw [←Hr'.out,←Hq'.out] at hd1
     have eq:=EQ.out hd1.1
     have HD1:=Lib.hid hd1
     clear hd1
     by_cases hr1:4294967296<=r'
     ·have hb1:decide ((4294967296:Int)<=(r':Int))=true:=by simp;omega
      have Hr1:=Lib.hid hr1
      clear hr1
      go_upto_region 27 with (fail)
      first | rw [ER.out] | rw [ER2.out]
      clear em eg eq
      go_wp2
      go_meet
      case rel=>exact ⟨rfl,int_congr (congrArg Int.ofNat (dig_break hy1a hy0b HD1.out.2 (by have:=Hq'.out;have:=Hqb.out;omega) Hr1.out))⟩
     ·have hb1:decide ((4294967296:Int)<=(r':Int))=false:=by simp;omega
      have Hr1:=Lib.hid hr1
      clear hr1
      go_upto_region 27 with (fail)
      first | rw [ER.out] | rw [ER2.out]
      clear em eg eq
      go_wp2
      go_round
      case rel=>exact ⟨q',r',rfl,rfl,HD1.out.2,by have:=Hr1.out;omega⟩
      case measure=>have:=Hq'.out;have:=HD1.out.1;simp [intOf];omega
    ·have hb0:decide ((4294967296:Int)<=(q:Int))=false:=by simp;omega
     clear hc1
     by_cases hc2:g<m
     ·have hd1:=dig_down hy1a hu0b Hlt.out HD.out (Or.inr (by rw [←Hm.out,←Hg.out];exact hc2))
      rw [←Hr'.out,←Hq'.out] at hd1
      have eq:=EQ.out hd1.1
      have HD1:=Lib.hid hd1
      clear hd1
      by_cases hr1:4294967296<=r'
      ·have hb1:decide ((4294967296:Int)<=(r':Int))=true:=by simp;omega
       have Hr1:=Lib.hid hr1
       clear hr1
       go_upto_region 27 with (fail)
       first | rw [ER.out] | rw [ER2.out]
       clear em eg eq
       go_wp2
       go_meet
       case rel=>exact ⟨rfl,int_congr (congrArg Int.ofNat (dig_break hy1a hy0b HD1.out.2 (by have:=Hq'.out;have:=Hqb.out;omega) Hr1.out))⟩
      ·have hb1:decide ((4294967296:Int)<=(r':Int))=false:=by simp;omega
       have Hr1:=Lib.hid hr1
       clear hr1
       go_upto_region 27 with (fail)
       first | rw [ER.out] | rw [ER2.out]
       clear em eg eq
       go_wp2
       go_round
       case rel=>exact ⟨q',r',rfl,rfl,HD1.out.2,by have:=Hr1.out;omega⟩
       case measure=>have:=Hq'.out;have:=HD1.out.1;simp [intOf];omega
     ·have HQ:=Lib.hid (dig_le hy1a HD.out (by rw [←Hm.out,←Hg.out];omega))
      go_wp2
      go_meet
      case rel=>exact ⟨rfl,int_congr (congrArg Int.ofNat HQ.out)⟩
  case rest =>
   clear HD hr0
   obtain ⟨rfl,rfl⟩:=hcut
   rw [HYd.out]
   obtain ⟨Q0,hQ0⟩:∃Q0,Q0=(R1*4294967296+u0) / Y:=⟨_,rfl⟩
   rw [←hQ0]
   have HQ0:=Lib.hid hQ0
   clear hQ0
   have HN:=Lib.hid (div_back (s:=s) (HY.out) hsplit.out Ht.out HQ1.out HR1.out HQ0.out (by omega) hlt hl)
   have hR0:=Nat.mod_lt (R1*4294967296+u0) (show 0<Y by omega)
   have hQ0m:=Nat.div_add_mod' (R1*4294967296+u0) Y
   rw [←HQ0.out] at hQ0m
   have ea:=fin_a Q1 Q0 _ HN.out.1 HN.out.2.2
   have eb:=fin_b R1 u0 Q0 Y _ hQ0m (Nat.lt_trans hR0 hY2)
   rw [HN.out.2.1] at eb
   have ec:IntKind.u64.wrap (IntKind.u64.wrap (IntKind.u64.wrap ((R1:Int)*4294967296)+(u0:Int))-IntKind.u64.wrap ((Q0:Int)*(Y:Int))) / 2 ^ s=(((hi*18446744073709551616+lo) % y:Nat):Int):=by
    rw [eb,fin_c]
   have EA:=Lib.hid ea
   have EB:=Lib.hid ec
   clear ea eb ec hQ0m hR0
   go_wp2
   go_ret2
   exact ⟨ret_two EA.out EB.out,rfl⟩

theorem bits_Div64 (hi lo y:Nat) (hl:lo<18446744073709551616) (hy:y<18446744073709551616) (hlt:hi<y) (w:World) :
  Calls Tryz.prog 126 #[.int .u64 hi,.int .u64 lo,.int .u64 y] w fun e w'=>e=.returned (.tuple #[.int .u64 (((hi*18446744073709551616+lo) / y:Nat):Int),.int .u64 (((hi*18446744073709551616+lo) % y:Nat):Int)])/\Below w.heap.size w w':=by
 by_cases hpos:0<hi
 ·refine (bits_Div64_great hi lo y hl hy hlt hpos w).mono ?_
  rintro e w' ⟨rfl,rfl⟩
  exact ⟨rfl,Below.refl _ _⟩
 ·obtain rfl:hi=0:=by omega
  refine (bits_Div64_small lo y hl hy hlt w).mono ?_
  rintro e w' ⟨rfl,n,rfl⟩
  rw [Nat.zero_mul,Nat.zero_add]
  exact ⟨rfl,below_drewN (Below.refl _ _) n⟩

theorem ret_nb {k:IntKind} {a:Int} {b:Bool} {p:Nat×Bool} (h1:(p.1:Int)=a) (h2:p.2=b):Ending.returned (.tuple #[.int k a,.bool b])=.returned (.tuple #[.int k p.1,.bool p.2]):=by
 rw [h1,h2]

set_option maxRecDepth 100000 in
set_option maxHeartbeats 1000000 in
theorem fix_quotient (hi lo d:Nat) (away:Bool) (hl:lo<18446744073709551616) (hd:d<18446744073709551616) (w:World) :
  Calls Tryz.prog 115 #[.agg #[.int .u64 hi,.int .u64 lo],.int .u64 d,.bool away] w fun e w'=>e=.returned (.tuple #[.int .u64 ((quo (hi*18446744073709551616+lo) d away).1:Nat),.bool (quo (hi*18446744073709551616+lo) d away).2])/\Below w.heap.size w w':=by
 by_cases hc:d<=hi
 ·rw [quo_far hl hc away]
  have hb:(d:Int)<=(hi:Int):=by omega
  obtain ⟨D,hD⟩:∃D:Int,D=(d:Int):=⟨_,rfl⟩
  obtain ⟨HI,hHI⟩:∃D:Int,D=(hi:Int):=⟨_,rfl⟩
  rw [←hD,←hHI] at hb
  rw [←hD,←hHI]
  clear hc hl hd hD hHI
  have hb:decide (D<=HI)=true:=by simp;omega
  generalize (.int .u64 (lo:Int):Value)=LO
  go_enter Tryz.func115,Tryz.ntmps115
  go_wp2
  go_ret2
  exact ⟨rfl,(Below.refl _ _).alloc (Nat.le_refl _) _⟩
 ·have hb:decide ((d:Int)<=(hi:Int))=false:=by simp;omega
  have hlt:hi<d:=by omega
  clear hc
  obtain ⟨q,hq⟩:∃q,q=(hi*18446744073709551616+lo) / d:=⟨_,rfl⟩
  obtain ⟨r,hr⟩:∃r,r=(hi*18446744073709551616+lo) % d:=⟨_,rfl⟩
  have HQ:=Lib.hid (quo_near hl hlt away)
  rw [←hq,←hr] at HQ
  have hC:=Lib.hid (fun W=>bits_Div64 hi lo d hl hd hlt W)
  rw [←hq,←hr] at hC
  have hqb:q<18446744073709551616:=by rw [hq];exact Nat.div_lt_of_lt_mul (by omega)
  have hlt:=Lib.hid hlt
  clear hq hr
  cases away
  ·go_enter Tryz.func115,Tryz.ntmps115
   go_wp2_with (go_at_call 126;refine (hC.out _).mono ?_;rintro e w' ⟨rfl,hbel⟩)
   go_ret2
   exact ⟨ret_nb (by rw [HQ.out];rfl) (by rw [HQ.out];rfl),((Below.refl _ _).alloc (Nat.le_refl _) _).trans (hbel.mono (by simp))⟩
  ·by_cases hz:r=0
   ·subst hz
    go_enter Tryz.func115,Tryz.ntmps115
    go_wp2_with (go_at_call 126;refine (hC.out _).mono ?_;rintro e w' ⟨rfl,hbel⟩)
    go_ret2
    exact ⟨ret_nb (by rw [HQ.out];rfl) (by rw [HQ.out];rfl),((Below.refl _ _).alloc (Nat.le_refl _) _).trans (hbel.mono (by simp))⟩
   ·have hb2:decide ((0:Int)<(r:Int))=true:=by simp;omega
    have hz:=Lib.hid hz
    go_enter Tryz.func115,Tryz.ntmps115
    go_wp2_with (go_at_call 126;refine (hC.out _).mono ?_;rintro e w' ⟨rfl,hbel⟩)
    go_ret2
    exact ⟨ret_nb (by rw [HQ.out,if_pos (by simp [hz.out])];exact quo_wrap q) (by rw [HQ.out,if_pos (by simp [hz.out])]),((Below.refl _ _).alloc (Nat.le_refl _) _).trans (hbel.mono (by simp))⟩

end Go.Proofs.YthhkcfpljgdnhaaGreat
