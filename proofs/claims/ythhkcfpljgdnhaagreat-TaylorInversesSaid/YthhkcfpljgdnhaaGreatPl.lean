/- Plain arithmetic under the walks: fixed-point numbers, rounded quotients. No program here. -/
import Derived.RowKit
import Derived.Calls
import Derived.WalkKit
namespace Mnc
open Go

theorem ret_int {k:IntKind} {a b:Int} (h:a=b):Ending.returned (.int k a)=.returned (.int k b):=by rw [h]

theorem ret2 {k k':IntKind} {a b:Int} {p:Int×Int} (h:p=(a,b)):Ending.returned (.tuple #[.int k a,.int k' b])=.returned (.tuple #[.int k p.1,.int k' p.2]):=by rw [h]

/-- A fixed-point number. -/
def ok (a:Int):Prop:=-4503599627370496<=a/\a<=4503599627370496
instance (a:Int):Decidable (ok a):=by unfold ok;exact inferInstance

/-- What Check answers. -/
def chk (a:Int):Int:=if ok a then 0 else 2
theorem chk_ok {a:Int} (h:ok a):chk a=0:=if_pos h
theorem chk_bad {a:Int} (h:¬ok a):chk a=2:=if_neg h

def chk2 (a b:Int):Int:=if ok a/\ok b then 0 else 2
theorem chk2_ok {a b:Int} (ha:ok a) (hb:ok b):chk2 a b=0:=if_pos ⟨ha,hb⟩
theorem chk2_l {a b:Int} (ha:¬ok a):chk2 a b=2:=if_neg fun h=>ha h.1
theorem chk2_r {a b:Int} (hb:¬ok b):chk2 a b=2:=if_neg fun h=>hb h.2

/-- An exact result, if it is a fixed-point number. -/
def fit (a:Int):Int×Int:=if ok a then (a,0) else (0,6)
theorem fit_ok {a:Int} (h:ok a):fit a=(a,0):=if_pos h
theorem fit_bad {a:Int} (h:¬ok a):fit a=(0,6):=if_neg h

def add (a b:Int):Int×Int:=if ok a/\ok b then fit (a+b) else (0,2)
def sub (a b:Int):Int×Int:=if ok a/\ok b then fit (a-b) else (0,2)
def neg (a:Int):Int×Int:=if ok a then (-a,0) else (0,2)
theorem chk2_bad {a b:Int} (h:¬(ok a/\ok b)):chk2 a b=2:=if_neg h
end Mnc

/- Plain: the rounded quotient of 128 bits as the program computes it (with the wrap of q++), its sign, and mul, div, scale, sqrt, fromDec. No program here. -/
namespace Mnc
open Go

/-- The rounded quotient as the program has it; the last step may wrap to 0. -/
def quo (n d:Nat) (away:Bool):Nat×Bool:=if d<=n / 18446744073709551616 then (0,false) else if away=true/\n % d≠0 then ((n / d+1) % 18446744073709551616,true) else (n / d,true)

theorem quo_far {hi lo d:Nat} (hl:lo<18446744073709551616) (h:d<=hi) (away:Bool):quo (hi*18446744073709551616+lo) d away=(0,false):=by
 unfold quo
 rw [if_pos (by omega)]

theorem quo_near {hi lo d:Nat} (hl:lo<18446744073709551616) (h:hi<d) (away:Bool):quo (hi*18446744073709551616+lo) d away=if away=true/\(hi*18446744073709551616+lo) % d≠0 then (((hi*18446744073709551616+lo) / d+1) % 18446744073709551616,true) else ((hi*18446744073709551616+lo) / d,true):=by
 unfold quo
 rw [if_neg (by omega)]

theorem quo_wrap (q:Nat):(((q+1) % 18446744073709551616:Nat):Int)=IntKind.u64.wrap ((q:Int)+1):=by
 rw [IntKind.wrap_u64];simp

theorem quo_lt (n d:Nat) (away:Bool):(quo n d away).1<18446744073709551616:=by
 unfold quo
 split
 ·simp
 ·split
  ·exact Nat.mod_lt _ (by omega)
  ·show n / d<_
   rename_i h _
   apply Nat.div_lt_of_lt_mul
   omega

/-- The number of a size, with its sign. -/
def sgn (neg:Bool) (q:Nat×Bool):Int×Int:=if q.2=false∨4503599627370496<q.1 then (0,6) else (if neg then -(q.1:Int) else (q.1:Int),0)
theorem sgn_false (neg:Bool) (q:Nat):sgn neg (q,false)=(0,6):=if_pos (Or.inl rfl)
theorem sgn_far (neg:Bool) {q:Nat} {f:Bool} (h:4503599627370496<q):sgn neg (q,f)=(0,6):=if_pos (Or.inr h)
theorem sgn_near (neg:Bool) {q:Nat} (h:q<=4503599627370496):sgn neg (q,true)=(if neg then -(q:Int) else (q:Int),0):=if_neg (by simp;omega)

/-- A product, rounded, as the program has it. -/
def mul (up:Bool) (a b:Int):Int×Int:=if ok a/\ok b then sgn (decide (a<0) != decide (b<0)) (quo (a.natAbs*b.natAbs) 4294967296 (up != (decide (a<0) != decide (b<0)))) else (0,2)
theorem mul_ok (up:Bool) {a b:Int} (ha:ok a) (hb:ok b):mul up a b=sgn (decide (a<0) != decide (b<0)) (quo (a.natAbs*b.natAbs) 4294967296 (up != (decide (a<0) != decide (b<0)))):=if_pos ⟨ha,hb⟩
theorem mul_bad (up:Bool) {a b:Int} (h:¬(ok a/\ok b)):mul up a b=(0,2):=if_neg h

/-- A quotient, rounded. -/
def dvd (up:Bool) (a b:Int):Int×Int:=if ok a/\ok b then (if b=0 then (0,7) else sgn (decide (a<0) != decide (b<0)) (quo (a.natAbs*4294967296) b.natAbs (up != (decide (a<0) != decide (b<0))))) else (0,2)
theorem dvd_ok (up:Bool) {a b:Int} (ha:ok a) (hb:ok b) (hz:¬b=0):dvd up a b=sgn (decide (a<0) != decide (b<0)) (quo (a.natAbs*4294967296) b.natAbs (up != (decide (a<0) != decide (b<0)))):=by rw [dvd,if_pos ⟨ha,hb⟩,if_neg hz]
theorem dvd_zero (up:Bool) {a b:Int} (ha:ok a) (hb:ok b) (hz:b=0):dvd up a b=(0,7):=by rw [dvd,if_pos ⟨ha,hb⟩,if_pos hz]
theorem dvd_bad (up:Bool) {a b:Int} (h:¬(ok a/\ok b)):dvd up a b=(0,2):=if_neg h

/-- Scaled by a fraction. -/
def sclOk (a n d:Int):Prop:=ok a/\-4611686018427387904<=n/\n<=4611686018427387904/\1<=d/\d<=4611686018427387904
instance (a n d:Int):Decidable (sclOk a n d):=by unfold sclOk;exact inferInstance
end Mnc

/- Plain: integer square roots; the root as the program has it. No program here. -/
namespace Mnc
open Go

/-- The root of a number, rounded down. -/
def isq:Nat->Nat
 | 0=>0
 | n+1=>if (isq n+1)*(isq n+1)<=n+1 then isq n+1 else isq n

theorem isq_spec (n:Nat):isq n*isq n<=n/\n<(isq n+1)*(isq n+1):=by
 induction n with
 | zero=>simp [isq]
 | succ n ih =>
  unfold isq
  split
  ·rename_i h
   refine ⟨h,?_⟩
   have h2:(isq n+1+1)*(isq n+1+1)=(isq n+1)*(isq n+1)+2*(isq n+1)+1:=by
    generalize isq n+1=r
    rw [Nat.mul_add,Nat.add_mul]
    omega
   omega
  ·exact ⟨by omega,by omega⟩

theorem sq_lt {a b:Nat} (h:a*a<b*b):a<b:=by
 rcases Nat.lt_or_ge a b with g | g
 ·exact g
 ·have:=Nat.mul_le_mul g g
  omega

theorem isq_eq {n r:Nat} (h1:r*r<=n) (h2:n<(r+1)*(r+1)):isq n=r:=by
 obtain ⟨g1,g2⟩:=isq_spec n
 have a:=sq_lt (Nat.lt_of_le_of_lt g1 h2)
 have b:=sq_lt (Nat.lt_of_le_of_lt h1 g2)
 omega

/-- One round of the search for a root, bit by bit. -/
def SqAt (n k r:Nat):Prop:=r*r<=n/\n<(r+2 ^ (43-k))*(r+2 ^ (43-k))/\r % 2 ^ (43-k)=0/\r+2 ^ (43-k)<=2 ^ 43

theorem sqAt_start {n:Nat} (h:n<2 ^ 86):SqAt n 0 0:=⟨by simp,by simpa using h,by simp,by simp⟩

theorem sqAt_take {n k r:Nat} (hk:k<43) (h:SqAt n k r) (hle:(r+2 ^ (42-k))*(r+2 ^ (42-k))<=n):SqAt n (k+1) (r+2 ^ (42-k)):=by
 obtain ⟨h1,h2,h3,h4⟩:=h
 have e:43-k=(42-k)+1:=by omega
 have e2:43-(k+1)=42-k:=by omega
 rw [e,Nat.pow_succ] at h2 h3 h4
 refine ⟨hle,?_,?_,?_⟩
 ·rw [e2,Nat.add_assoc,show 2 ^ (42-k)+2 ^ (42-k)=2 ^ (42-k)*2 by omega]
  exact h2
 ·rw [e2,Nat.add_mod_right]
  have hm:=Nat.mod_mul_right_mod r (2 ^ (42-k)) 2
  rw [h3] at hm
  simpa using hm.symm
 ·rw [e2];omega

theorem sqAt_leave {n k r:Nat} (hk:k<43) (h:SqAt n k r) (hle:¬(r+2 ^ (42-k))*(r+2 ^ (42-k))<=n):SqAt n (k+1) r:=by
 obtain ⟨h1,h2,h3,h4⟩:=h
 have e:43-k=(42-k)+1:=by omega
 have e2:43-(k+1)=42-k:=by omega
 rw [e,Nat.pow_succ] at h3 h4
 refine ⟨h1,?_,?_,?_⟩
 ·rw [e2];omega
 ·rw [e2]
  have hm:=Nat.mod_mul_right_mod r (2 ^ (42-k)) 2
  rw [h3] at hm
  simpa using hm.symm
 ·rw [e2];omega

theorem sqAt_end {n r:Nat} (h:SqAt n 43 r):isq n=r:=isq_eq h.1 (by simpa using h.2.1)

theorem sqAt_lt {n k r:Nat} (hk:k<43) (h:SqAt n k r):r+2 ^ (42-k)<18446744073709551616:=by
 have h4:=h.2.2.2
 have e:43-k=(42-k)+1:=by omega
 rw [e,Nat.pow_succ] at h4
 have:(2:Nat) ^ 43=8796093022208:=by decide
 omega

/-- The bits of r and the next one do not meet. -/
theorem sqAt_or {n k r:Nat} (hk:k<43) (h:SqAt n k r):r ||| 2 ^ (42-k)=r+2 ^ (42-k):=by
 obtain ⟨_,_,h3,_⟩:=h
 have e:43-k=(42-k)+1:=by omega
 rw [e] at h3
 obtain ⟨q,hq⟩:=Nat.dvd_of_mod_eq_zero h3
 have:=Nat.two_pow_add_eq_or_of_lt (i:=42-k+1) (b:=2 ^ (42-k)) (Nat.pow_lt_pow_right (by omega) (by omega)) q
 rw [←hq] at this
 exact this.symm

/-- A root, rounded, as the program has it. -/
def rtOf (up:Bool) (n:Nat):Nat:=if up=true/\¬isq n*isq n=n then isq n+1 else isq n
def rt (up:Bool) (a:Int):Int×Int:=if ok a/\0<=a then (((rtOf up (a.toNat*4294967296):Nat):Int),0) else (0,2)
theorem rt_ok (up:Bool) {a:Int} (h:ok a) (h0:0<=a):rt up a=(((rtOf up (a.toNat*4294967296):Nat):Int),0):=if_pos ⟨h,h0⟩
theorem rt_bad (up:Bool) {a:Int} (h:¬(ok a/\0<=a)):rt up a=(0,2):=if_neg h

theorem isq_le {n r:Nat} (h:n<=r*r):isq n<=r:=by
 have:=(isq_spec n).1
 rcases Nat.lt_or_ge r (isq n) with g | g
 ·have:=Nat.mul_lt_mul'' g g
  omega
 ·exact g

theorem rtOf_le (up:Bool) {n r:Nat} (h:n<=r*r):rtOf up n<=r:=by
 unfold rtOf
 have h1:=isq_le h
 split
 ·rename_i g
  rcases Nat.lt_or_ge (isq n) r with k | k
  ·omega
  ·have e:isq n=r:=by omega
   have:=(isq_spec n).1
   rw [e] at this g
   exact absurd (by omega) g.2
 ·exact h1

end Mnc

/- Plain: what the rounded operations are, mirrored and canonical; the reference's long division and its root. No program here. -/
namespace Mnc
open Go

/-- Rounded to one side. -/
def rnd (up:Bool) (x d:Int):Int:=if up then -((-x) / d) else x / d

theorem cl_nat (n d:Nat) (hd:0<d):-((-(n:Int)) / (d:Int))=(((if n % d=0 then n / d else n / d+1):Nat):Int):=by
 have e:=Nat.div_add_mod n d
 have hr:=Nat.mod_lt n hd
 generalize n / d=q at *
 generalize n % d=r at *
 have hd':(d:Int)≠0:=by omega
 split
 ·rename_i hz
  subst hz
  have:(-(n:Int))=(d:Int)*(-(q:Int)):=by rw [←e];push_cast;rw [Int.mul_neg];omega
  rw [this,Int.mul_ediv_cancel_left _ hd']
  omega
 ·have:(-(n:Int))=((d:Int)-r)+(d:Int)*(-((q:Int)+1)):=by
   rw [←e];push_cast;rw [Int.mul_neg,Int.mul_add];omega
  rw [this,Int.add_mul_ediv_left _ _ hd',Int.ediv_eq_zero_of_lt (by omega) (by omega)]
  push_cast
  omega

theorem fl_nat (n d:Nat):(n:Int) / (d:Int)=((n / d:Nat):Int):=(Int.natCast_ediv n d).symm

/-- The size of a rounded number. -/
def rsz (away:Bool) (n d:Nat):Nat:=if away=true/\n % d≠0 then n / d+1 else n / d
theorem rsz_ge (away:Bool) (n d:Nat):n / d<=rsz away n d:=by unfold rsz;split<;>omega

theorem rnd_size (neg up:Bool) (n d:Nat) (hd:0<d):rnd up (if neg then -(n:Int) else (n:Int)) d=if neg then -((rsz (up != neg) n d:Nat):Int) else ((rsz (up != neg) n d:Nat):Int):=by
 have hc:=cl_nat n d hd
 have hf:=fl_nat n d
 unfold rnd rsz
 generalize n / d=q at *
 generalize n % d=r at *
 by_cases hr:r=0
 ·subst hr
  simp only [if_true] at hc
  cases neg<;>cases up<;>simp<;>omega
 ·rw [if_neg hr] at hc
  cases neg<;>cases up<;>simp [hr]<;>omega

theorem ok_sign (neg:Bool) (m:Nat):ok (if neg then -(m:Int) else (m:Int)) ↔ m<=4503599627370496:=by
 unfold ok
 cases neg<;>simp<;>omega

/-- A rounded quotient with its sign is the rounded number, where the last step does not wrap. -/
theorem sgn_quo (neg up:Bool) (n d:Nat) (hd:0<d) (hw:n / d≠18446744073709551615∨n % d=0) :
  sgn neg (quo n d (up != neg))=fit (rnd up (if neg then -(n:Int) else (n:Int)) d):=by
 have hq:d<=n / 18446744073709551616 ↔ 18446744073709551616<=n / d:=by
  rw [Nat.le_div_iff_mul_le (by omega),Nat.le_div_iff_mul_le hd,Nat.mul_comm]
 rw [rnd_size neg up n d hd]
 have hge:=rsz_ge (up != neg) n d
 by_cases h1:d<=n / 18446744073709551616
 ·have e:quo n d (up != neg)=(0,false):=if_pos h1
  rw [e,sgn_false,fit_bad]
  rw [ok_sign]
  have:=hq.mp h1
  omega
 ·have h2:n / d<18446744073709551616:=by omega
  have e:quo n d (up != neg)=(rsz (up != neg) n d,true):=by
   unfold quo rsz
   rw [if_neg h1]
   split
   ·rename_i h3
    have h4:n / d≠18446744073709551615:=by
     rcases hw with h | h
     ·exact h
     ·exact absurd h h3.2
    rw [Nat.mod_eq_of_lt (by omega)]
   ·rfl
  rw [e]
  generalize rsz (up != neg) n d=m at *
  by_cases h5:m<=4503599627370496
  ·rw [sgn_near neg h5,fit_ok ((ok_sign neg m).mpr h5)]
  ·rw [sgn_far neg (by omega),fit_bad (fun g=>h5 ((ok_sign neg m).mp g))]

theorem sign_mul (a b:Int):(if (decide (a<0) != decide (b<0))=true then -((a.natAbs*b.natAbs:Nat):Int) else ((a.natAbs*b.natAbs:Nat):Int))=a*b:=by
 rw [←Int.natAbs_mul]
 by_cases ha:a<0<;>by_cases hb:b<0
 ·have:=Int.mul_pos_of_neg_of_neg ha hb;simp [ha,hb];omega
 ·have:=Int.mul_nonpos_of_nonpos_of_nonneg (Int.le_of_lt ha) (Int.not_lt.mp hb);simp [ha,hb];omega
 ·have:=Int.mul_nonpos_of_nonneg_of_nonpos (Int.not_lt.mp ha) (Int.le_of_lt hb);simp [ha,hb];omega
 ·have:=Int.mul_nonneg (Int.not_lt.mp ha) (Int.not_lt.mp hb);simp [ha,hb];omega

theorem mul_fit (up:Bool) {a b:Int} (ha:ok a) (hb:ok b) (h:a.natAbs*b.natAbs<39614081257132168796771975168):mul up a b=fit (rnd up (a*b) 4294967296):=by
 rw [mul_ok up ha hb,sgn_quo _ _ _ _ (by omega) (Or.inl (by omega)),sign_mul]
 rfl
end Mnc

/- Plain: the reference's long division and its root, digit by digit; its product in parts. No program here. -/
namespace Mnc
open Go

/-- The long division of the reference, before bit i is taken. -/
def OvAt (a n d i q r:Nat):Prop:=q*d+r=a / 2 ^ i*n/\r<d/\q<=4503599627370496
/-- Inside the round of bit i. -/
def OvIn (a n d i q r:Nat):Prop:=q*d+r=a / 2 ^ i*n/\r<3*d/\q+r / d<=9223372036854775808+9007199254740992+2

theorem ovAt_start {a n d:Nat} (ha:a<18446744073709551616) (hd:0<d):OvAt a n d 64 0 0:=by
 refine ⟨?_,hd,by omega⟩
 rw [show a / 2 ^ 64=0 from Nat.div_eq_of_lt ha]
 simp

theorem half_step (a i:Nat):a / 2 ^ i=2*(a / 2 ^ (i+1))+a / 2 ^ i % 2:=by
 rw [Nat.pow_succ,←Nat.div_div_eq_div_mul]
 omega

theorem ovIn_zero {a n d i q r:Nat} (h:OvAt a n d (i+1) q r) (hb:a / 2 ^ i % 2=0):OvIn a n d i (2*q) (2*r):=by
 obtain ⟨h1,h2,h3⟩:=h
 have hr:2*r / d<3:=by rw [Nat.div_lt_iff_lt_mul (by omega)];omega
 refine ⟨?_,by omega,by omega⟩
 rw [half_step a i,hb,Nat.add_zero,Nat.mul_assoc,Nat.mul_assoc,←h1,Nat.mul_add]

theorem ovIn_one {a n d i q r:Nat} (h:OvAt a n d (i+1) q r) (hn:n<=9223372036854775808) (hb:a / 2 ^ i % 2=1):OvIn a n d i (2*q+n / d) (2*r+n % d):=by
 obtain ⟨h1,h2,h3⟩:=h
 have hm:=Nat.mod_lt n (show 0<d by omega)
 have hdl:=Nat.div_le_self n d
 have hr:(2*r+n % d) / d<3:=by rw [Nat.div_lt_iff_lt_mul (by omega)];omega
 refine ⟨?_,by omega,by omega⟩
 rw [half_step a i,hb,Nat.add_mul,Nat.add_mul,Nat.mul_assoc 2,Nat.mul_assoc 2,←h1,Nat.one_mul]
 have:=Nat.div_add_mod' n d
 rw [Nat.mul_add]
 omega

theorem ovIn_down {a n d i q r:Nat} (h:OvIn a n d i q r) (hr:d<=r) (hd:0<d):OvIn a n d i (q+1) (r-d):=by
 obtain ⟨h1,h2,h3⟩:=h
 have e:r / d=(r-d) / d+1:=by
  have:=Nat.add_div_right (r-d) hd
  rw [Nat.sub_add_cancel hr] at this
  exact this
 refine ⟨?_,by omega,by omega⟩
 rw [←h1,Nat.add_mul]
 omega

theorem ovIn_end {a n d i q r:Nat} (h:OvIn a n d i q r) (hr:r<d) (hq:q<=4503599627370496):OvAt a n d i q r:=⟨h.1,hr,hq⟩

theorem ovIn_far {a n d i q r:Nat} (h:OvIn a n d i q r) (hd:0<d) (hq:4503599627370496<q):4503599627370496<a*n / d:=by
 obtain ⟨h1,_,_⟩:=h
 have h2:a / 2 ^ i*n<=a*n:=Nat.mul_le_mul_right _ (Nat.div_le_self _ _)
 have h3:q<=a*n / d:=by rw [Nat.le_div_iff_mul_le hd];omega
 omega

theorem ovAt_end {a n d q r:Nat} (h:OvAt a n d 0 q r):a*n / d=q/\a*n % d=r:=by
 obtain ⟨h1,h2,_⟩:=h
 rw [Nat.pow_zero,Nat.div_one] at h1
 have hd:0<d:=by omega
 rw [←h1,Nat.mul_comm q d]
 constructor
 ·rw [Nat.mul_add_div hd,Nat.div_eq_of_lt h2];rfl
 ·rw [Nat.mul_add_mod,Nat.mod_eq_of_lt h2]

/-- What over answers. -/
def ovr (a n d:Nat):Nat×Bool×Bool:=if a*n / d<=4503599627370496 then (a*n / d,decide (0<a*n % d),true) else (0,false,false)
theorem ovr_far {a n d:Nat} (h:4503599627370496<a*n / d):ovr a n d=(0,false,false):=if_neg (by omega)
theorem ovr_near {a n d q r:Nat} (h:OvAt a n d 0 q r):ovr a n d=(q,decide (0<r),true):=by
 obtain ⟨h1,h2⟩:=ovAt_end h
 unfold ovr
 rw [h1,h2,if_pos h.2.2]

/-- What put answers. -/
def putOf (neg:Bool) (n:Nat) (rest up:Bool):Int×Bool :=
 if 4503599627370496<(if (rest && (up != neg))=true then n+1 else n) then (0,false)
 else (if neg then -(((if (rest && (up != neg))=true then n+1 else n):Nat):Int) else (((if (rest && (up != neg))=true then n+1 else n):Nat):Int),true)

/-- A number, if it is a fixed-point number. -/
def fitB (v:Int):Int×Bool:=if ok v then (v,true) else (0,false)
theorem fitB_ok {v:Int} (h:ok v):fitB v=(v,true):=if_pos h
theorem fitB_bad {v:Int} (h:¬ok v):fitB v=(0,false):=if_neg h

theorem put_rnd (neg up:Bool) (n d:Nat) (hd:0<d):putOf neg (n / d) (decide (0<n % d)) up=fitB (rnd up (if neg then -(n:Int) else (n:Int)) d):=by
 rw [rnd_size neg up n d hd]
 have e:(if (decide (0<n % d) && (up != neg))=true then n / d+1 else n / d)=rsz (up != neg) n d:=by
  unfold rsz
  have:((decide (0<n % d) && (up != neg))=true) ↔ ((up != neg)=true/\n % d≠0):=by
   rw [Bool.and_eq_true,decide_eq_true_iff]
   constructor
   ·rintro ⟨h1,h2⟩;exact ⟨h2,by omega⟩
   ·rintro ⟨h1,h2⟩;exact ⟨by omega,h1⟩
  simp only [this]
 unfold putOf
 rw [e]
 generalize rsz (up != neg) n d=m
 by_cases h:4503599627370496<m
 ·rw [if_pos h,fitB_bad (fun g=>by have:=(ok_sign neg m).mp g;omega)]
 ·rw [if_neg h,fitB_ok ((ok_sign neg m).mpr (by omega))]

theorem rnd_far (neg up:Bool) (n d:Nat) (hd:0<d) (h:4503599627370496<n / d):¬ok (rnd up (if neg then -(n:Int) else (n:Int)) d):=by
 rw [rnd_size neg up n d hd,ok_sign]
 have:=rsz_ge (up != neg) n d
 omega

/-- The reference's rounded quotient. -/
def putOvr (neg up:Bool) (a n d:Nat):Int×Bool:=if (ovr a n d).2.2=true then putOf neg (ovr a n d).1 (ovr a n d).2.1 up else (0,false)
theorem putOvr_far {a n d:Nat} (neg up:Bool) (h:ovr a n d=(0,false,false)):putOvr neg up a n d=(0,false):=by rw [putOvr,h];rfl
theorem putOvr_near {a n d q:Nat} {rest:Bool} (neg up:Bool) (h:ovr a n d=(q,rest,true)):putOvr neg up a n d=putOf neg q rest up:=by rw [putOvr,h];rfl

theorem putOvr_rnd (neg up:Bool) (a n d:Nat) (hd:0<d):putOvr neg up a n d=fitB (rnd up (if neg then -((a*n:Nat):Int) else ((a*n:Nat):Int)) d):=by
 by_cases h:a*n / d<=4503599627370496
 ·have e:ovr a n d=(a*n / d,decide (0<a*n % d),true):=if_pos h
  rw [putOvr_near _ _ e,put_rnd _ _ _ _ hd]
 ·rw [putOvr_far _ _ (ovr_far (by omega)),fitB_bad (rnd_far _ _ _ _ hd (by omega))]

/-- The root of the reference, before its bits i are taken. -/
def RtAt (N i root rest:Nat):Prop:=root*root+rest=N / 4 ^ i/\rest<=2*root

theorem rtAt_start {N:Nat} (h:N<4 ^ 43):RtAt N 43 0 0:=⟨by rw [Nat.div_eq_of_lt h],by omega⟩

theorem quarter_step (a i:Nat):a / 4 ^ i=4*(a / 4 ^ (i+1))+a / 4 ^ i % 4:=by
 rw [Nat.pow_succ,←Nat.div_div_eq_div_mul]
 omega

theorem rtAt_take {N i root rest two:Nat} (h:RtAt N (i+1) root rest) (ht:N / 4 ^ i % 4=two) (hc:4*root+1<=4*rest+two):RtAt N i (2*root+1) (4*rest+two-(4*root+1)):=by
 obtain ⟨h1,h2⟩:=h
 have:two<4:=by rw [←ht];exact Nat.mod_lt _ (by omega)
 refine ⟨?_,by omega⟩
 rw [quarter_step,ht,←h1]
 have e:(2*root+1)*(2*root+1)=4*(root*root)+4*root+1:=by
  rw [Nat.mul_add,Nat.add_mul,Nat.mul_mul_mul_comm];omega
 rw [e]
 omega

theorem rtAt_leave {N i root rest two:Nat} (h:RtAt N (i+1) root rest) (ht:N / 4 ^ i % 4=two) (hc:¬4*root+1<=4*rest+two):RtAt N i (2*root) (4*rest+two):=by
 obtain ⟨h1,h2⟩:=h
 refine ⟨?_,by omega⟩
 rw [quarter_step,ht,←h1]
 have e:(2*root)*(2*root)=4*(root*root):=by rw [Nat.mul_mul_mul_comm]
 rw [e]
 omega

theorem rtAt_end {N root rest:Nat} (h:RtAt N 0 root rest) (up:Bool):rtOf up N=if up=true/\0<rest then root+1 else root:=by
 obtain ⟨h1,h2⟩:=h
 rw [Nat.pow_zero,Nat.div_one] at h1
 have e:isq N=root:=isq_eq (by omega) (by rw [Nat.mul_add,Nat.add_mul];omega)
 unfold rtOf
 rw [e]
 have:(¬root*root=N) ↔ 0<rest:=by omega
 simp only [this]

theorem rtAt_bd {N i root rest:Nat} (h:RtAt N i root rest) (hN:N<=19342813113834066795298816):root<=4398046511104/\rest<=8796093022208:=by
 obtain ⟨h1,h2⟩:=h
 have h3:root*root<=4398046511104*4398046511104:=by
  have:=Nat.div_le_self N (4 ^ i)
  omega
 have:root<=4398046511104:=Nat.mul_self_le_mul_self_iff.mp h3
 omega

theorem two_hi (a:Nat) {i:Nat} (h:16<=i):a*4294967296 / 4 ^ i=a / 2 ^ (2*i-32):=by
 have e:(4:Nat) ^ i=4294967296*2 ^ (2*i-32):=by
  rw [show (4:Nat)=2 ^ 2 by rfl,←Nat.pow_mul,show (4294967296:Nat)=2 ^ 32 by rfl,←Nat.pow_add]
  congr 1
  omega
 rw [e,Nat.mul_comm a,Nat.mul_div_mul_left _ _ (by omega)]

theorem two_lo (a:Nat) {i:Nat} (h:i<16):a*4294967296 / 4 ^ i % 4=0:=by
 have e:4294967296=4 ^ i*(4 ^ (15-i)*4):=by
  rw [←Nat.pow_succ,←Nat.pow_add,show i+(15-i).succ=16 by omega]
 rw [e,Nat.mul_left_comm,Nat.mul_div_cancel_left _ (Nat.pow_pos (by omega)),←Nat.mul_assoc,Nat.mul_mod_left]

/-- The product in parts. -/
theorem parts_mul (x y:Nat):x*y=x / 67108864*(y / 67108864)*4503599627370496+(x / 67108864*(y % 67108864)+x % 67108864*(y / 67108864))*67108864+x % 67108864*(y % 67108864):=by
 have hx:=Nat.div_add_mod x 67108864
 have hy:=Nat.div_add_mod y 67108864
 generalize x / 67108864=a at *
 generalize x % 67108864=b at *
 generalize y / 67108864=c at *
 generalize y % 67108864=d at *
 rw [←hx,←hy,Nat.mul_add,Nat.add_mul,Nat.add_mul]
 have e1:67108864*a*(67108864*c)=a*c*4503599627370496:=by rw [Nat.mul_mul_mul_comm];omega
 have e2:b*(67108864*c)=b*c*67108864:=by rw [Nat.mul_left_comm];omega
 have e3:67108864*a*d=a*d*67108864:=by rw [Nat.mul_assoc];omega
 rw [e1,e2,e3,Nat.add_mul]
 omega

theorem parts_div {h m l:Nat}:(h*4503599627370496+m*67108864+l) / 4294967296=h*1048576+m / 64+(m % 64*67108864+l) / 4294967296/\(h*4503599627370496+m*67108864+l) % 4294967296=(m % 64*67108864+l) % 4294967296:=by
 omega
end Mnc

/- Plain: intervals; what the operations of package span answer. No program here. -/
namespace Mnc
open Go

/-- A valid interval. -/
def okS (s:Int×Int):Prop:=-4503599627370496<=s.1/\s.1<=s.2/\s.2<=4503599627370496
instance (s:Int×Int):Decidable (okS s):=by unfold okS;exact inferInstance
theorem okS.lo {s:Int×Int} (h:okS s):ok s.1:=by unfold okS at h;unfold ok;omega
theorem okS.hi {s:Int×Int} (h:okS s):ok s.2:=by unfold okS at h;unfold ok;omega

def sChk (s:Int×Int):Int:=if okS s then 0 else 20
theorem sChk_ok {s:Int×Int} (h:okS s):sChk s=0:=if_pos h
theorem sChk_bad {s:Int×Int} (h:¬okS s):sChk s=20:=if_neg h
def sChk2 (s t:Int×Int):Int:=if okS s/\okS t then 0 else 20
theorem sChk2_ok {s t:Int×Int} (h:okS s) (k:okS t):sChk2 s t=0:=if_pos ⟨h,k⟩
theorem sChk2_bad {s t:Int×Int} (h:¬(okS s/\okS t)):sChk2 s t=20:=if_neg h

/-- An interval of a result. -/
def sT (lo hi:Int):(Int×Int)×Int:=if -4503599627370496<=lo/\hi<=4503599627370496 then ((lo,hi),0) else ((0,0),6)
theorem sT_ok {lo hi:Int} (h:-4503599627370496<=lo) (k:hi<=4503599627370496):sT lo hi=((lo,hi),0):=if_pos ⟨h,k⟩
theorem sT_bad {lo hi:Int} (h:¬(-4503599627370496<=lo/\hi<=4503599627370496)):sT lo hi=((0,0),6):=if_neg h

/-- An operation on two intervals. -/
def on2 (f:Int×Int->Int×Int->(Int×Int)×Int) (a b:Int×Int):(Int×Int)×Int:=if okS a/\okS b then f a b else ((0,0),20)
theorem on2_ok {f:Int×Int->Int×Int->(Int×Int)×Int} {a b:Int×Int} (h:okS a) (k:okS b):on2 f a b=f a b:=if_pos ⟨h,k⟩
theorem on2_bad {f:Int×Int->Int×Int->(Int×Int)×Int} {a b:Int×Int} (h:¬(okS a/\okS b)):on2 f a b=((0,0),20):=if_neg h
def on1 (f:Int×Int->(Int×Int)×Int) (a:Int×Int):(Int×Int)×Int:=if okS a then f a else ((0,0),20)
theorem on1_ok {f:Int×Int->(Int×Int)×Int} {a:Int×Int} (h:okS a):on1 f a=f a:=if_pos h
theorem on1_bad {f:Int×Int->(Int×Int)×Int} {a:Int×Int} (h:¬okS a):on1 f a=((0,0),20):=if_neg h

def sAdd:Int×Int->Int×Int->(Int×Int)×Int:=on2 fun a b=>sT (a.1+b.1) (a.2+b.2)
def sAbs:Int×Int->(Int×Int)×Int:=on1 fun a=>((max (max a.1 (-a.2)) 0,max a.2 (-a.1)),0)
def sOf (lo hi:Int):(Int×Int)×Int:=if okS (lo,hi) then ((lo,hi),0) else ((0,0),20)
theorem sOf_ok {lo hi:Int} (h:okS (lo,hi)):sOf lo hi=((lo,hi),0):=if_pos h
theorem sOf_bad {lo hi:Int} (h:¬okS (lo,hi)):sOf lo hi=((0,0),20):=if_neg h
/-- Rounded to units of 1 / One. -/
def fl (x:Int):Int:=rnd false x 4294967296
def cl (x:Int):Int:=rnd true x 4294967296
theorem fl_def (x:Int):fl x=x / 4294967296:=rfl
theorem cl_def (x:Int):cl x=-((-x) / 4294967296):=rfl
def min4 (a b c d:Int):Int:=min (min a b) (min c d)
def max4 (a b c d:Int):Int:=max (max a b) (max c d)

def sMul:Int×Int->Int×Int->(Int×Int)×Int:=on2 fun a b =>
 sT (min4 (fl (a.1*b.1)) (fl (a.1*b.2)) (fl (a.2*b.1)) (fl (a.2*b.2))) (max4 (cl (a.1*b.1)) (cl (a.1*b.2)) (cl (a.2*b.1)) (cl (a.2*b.2)))

/-- A quotient, rounded; the divisor is not 0. -/
def dv (up:Bool) (x y:Int):Int:=rnd up (if y<0 then -(x*4294967296) else x*4294967296) (y.natAbs:Int)
def sDiv:Int×Int->Int×Int->(Int×Int)×Int:=on2 fun a b=>if b.1<=0/\0<=b.2 then ((0,0),7) else
 sT (min4 (dv false a.1 b.1) (dv false a.1 b.2) (dv false a.2 b.1) (dv false a.2 b.2)) (max4 (dv true a.1 b.1) (dv true a.1 b.2) (dv true a.2 b.1) (dv true a.2 b.2))

def sSqrt:Int×Int->(Int×Int)×Int:=on1 fun a=>if a.1<0 then ((0,0),2) else (((rt false a.1).1,(rt true a.2).1),0)

/-- The power of an interval, n from 1 on. -/
def pw (a:Int×Int) (n:Nat):(Int×Int)×Int:=sT (rnd false (a.1 ^ n) (4294967296 ^ (n-1))) (rnd true (a.2 ^ n) (4294967296 ^ (n-1)))
def sPow (a:Int×Int) (n:Int):(Int×Int)×Int :=
 if okS a then (if n<0∨16<n then ((0,0),2) else if n=0 then ((4294967296,4294967296),0) else if n % 2=0 then pw (sAbs a).1 n.toNat else pw a n.toNat) else ((0,0),20)
end Mnc

/- Plain: products and quotients at the corners; what between answers. No program here. -/
namespace Mnc
open Go

theorem fl_le_cl (x:Int):fl x<=cl x:=by
 rw [fl_def,cl_def];omega

theorem mul_pair_ok {a b:Int} (ha:ok a) (hb:ok b) (h1:ok (fl (a*b))) (h2:ok (cl (a*b))):mul false a b=(fl (a*b),0)/\mul true a b=(cl (a*b),0):=by
 by_cases h:a.natAbs*b.natAbs<39614081257132168796771975168
 ·rw [mul_fit _ ha hb h,mul_fit _ ha hb h]
  exact ⟨fit_ok h1,fit_ok h2⟩
 ·exfalso
  have e:=sign_mul a b
  have:=rnd_far (decide (a<0) != decide (b<0)) false (a.natAbs*b.natAbs) 4294967296 (by omega) (by omega)
  rw [e] at this
  exact this h1

theorem mul_pair_bad {a b:Int} (ha:ok a) (hb:ok b) (h:¬(ok (fl (a*b))/\ok (cl (a*b)))):¬((mul false a b).2=0/\(mul true a b).2=0):=by
 by_cases hn:a.natAbs*b.natAbs<39614081257132168796771975168
 ·rw [mul_fit _ ha hb hn,mul_fit _ ha hb hn]
  rintro ⟨g1,g2⟩
  apply h
  constructor
  ·by_cases k:ok (fl (a*b))
   ·exact k
   ·have e:fit (rnd false (a*b) 4294967296)=(0,6):=fit_bad k
    rw [e] at g1
    cases g1
  ·by_cases k:ok (cl (a*b))
   ·exact k
   ·have e:fit (rnd true (a*b) 4294967296)=(0,6):=fit_bad k
    rw [e] at g2
    cases g2
 ·rw [mul_ok _ ha hb,mul_ok _ ha hb]
  have key:∀s,sgn s (quo (a.natAbs*b.natAbs) 4294967296 false)=(0,6):=by
   intro s
   unfold quo
   split
   ·exact sgn_false _ _
   ·rw [if_neg (by simp)]
    exact sgn_far _ (by omega)
  cases hs:(decide (a<0) != decide (b<0))
  ·simp [key]
  ·simp [key]

theorem dv_sign (x y:Int):(if (decide (x<0) != decide (y<0))=true then -((x.natAbs*4294967296:Nat):Int) else ((x.natAbs*4294967296:Nat):Int))=if y<0 then -(x*4294967296) else x*4294967296:=by
 by_cases hx:x<0<;>by_cases hy:y<0<;>simp [hx,hy]<;>omega

theorem dvd_fit (up:Bool) {a b:Int} (ha:ok a) (hb:ok b) (hz:¬b=0):dvd up a b=fit (dv up a b):=by
 rw [dvd_ok up ha hb hz,sgn_quo _ _ _ _ (by omega) ?_,dv_sign]
 ·rfl
 ·by_cases hr:a.natAbs*4294967296 % b.natAbs=0
  ·exact Or.inr hr
  ·left
   intro hq
   have e:=Nat.div_add_mod (a.natAbs*4294967296) b.natAbs
   have hm:=Nat.mod_lt (a.natAbs*4294967296) (show 0<b.natAbs by omega)
   rw [hq] at e
   unfold ok at ha
   omega

/-- What between answers, of two operations with errors. -/
def btw (D U:Int->Int->Int×Int) (a b:Int×Int):(Int×Int)×Int :=
 if ((D a.1 b.1).2=0/\(U a.1 b.1).2=0)/\((D a.1 b.2).2=0/\(U a.1 b.2).2=0)/\((D a.2 b.1).2=0/\(U a.2 b.1).2=0)/\((D a.2 b.2).2=0/\(U a.2 b.2).2=0) then
  sT (min4 (D a.1 b.1).1 (D a.1 b.2).1 (D a.2 b.1).1 (D a.2 b.2).1) (max4 (U a.1 b.1).1 (U a.1 b.2).1 (U a.2 b.1).1 (U a.2 b.2).1)
 else ((0,0),6)

theorem btw_of {D U:Int->Int->Int×Int} {f g:Int->Int->Int} {a b:Int×Int}
  (hle:∀x y,f x y<=g x y)
  (hok:∀x y,(x=a.1∨x=a.2)->(y=b.1∨y=b.2)->ok (f x y)->ok (g x y)->D x y=(f x y,0)/\U x y=(g x y,0))
  (hbad:∀x y,(x=a.1∨x=a.2)->(y=b.1∨y=b.2)->¬(ok (f x y)/\ok (g x y))->¬((D x y).2=0/\(U x y).2=0)) :
  btw D U a b=sT (min4 (f a.1 b.1) (f a.1 b.2) (f a.2 b.1) (f a.2 b.2)) (max4 (g a.1 b.1) (g a.1 b.2) (g a.2 b.1) (g a.2 b.2)):=by
 unfold btw
 have k:∀x y,(x=a.1∨x=a.2)->(y=b.1∨y=b.2)->(((D x y).2=0/\(U x y).2=0) ↔ (ok (f x y)/\ok (g x y))):=by
  intro x y hx hy
  constructor
  ·intro h
   by_cases hh:ok (f x y)/\ok (g x y)
   ·exact hh
   ·exact absurd h (hbad x y hx hy hh)
  ·intro h
   obtain ⟨e1,e2⟩:=hok x y hx hy h.1 h.2
   rw [e1,e2]
   exact ⟨rfl,rfl⟩
 have l1:=hle a.1 b.1
 have l2:=hle a.1 b.2
 have l3:=hle a.2 b.1
 have l4:=hle a.2 b.2
 have k1:=k a.1 b.1 (.inl rfl) (.inl rfl)
 have k2:=k a.1 b.2 (.inl rfl) (.inr rfl)
 have k3:=k a.2 b.1 (.inr rfl) (.inl rfl)
 have k4:=k a.2 b.2 (.inr rfl) (.inr rfl)
 split
 ·rename_i h
  obtain ⟨h1,h2,h3,h4⟩:=h
  rw [k1] at h1
  rw [k2] at h2
  rw [k3] at h3
  rw [k4] at h4
  rw [(hok a.1 b.1 (.inl rfl) (.inl rfl) h1.1 h1.2).1,(hok a.1 b.1 (.inl rfl) (.inl rfl) h1.1 h1.2).2,(hok a.1 b.2 (.inl rfl) (.inr rfl) h2.1 h2.2).1,(hok a.1 b.2 (.inl rfl) (.inr rfl) h2.1 h2.2).2,(hok a.2 b.1 (.inr rfl) (.inl rfl) h3.1 h3.2).1,(hok a.2 b.1 (.inr rfl) (.inl rfl) h3.1 h3.2).2,(hok a.2 b.2 (.inr rfl) (.inr rfl) h4.1 h4.2).1,(hok a.2 b.2 (.inr rfl) (.inr rfl) h4.1 h4.2).2]
 ·rename_i h
  rw [sT_bad]
  rw [k1,k2,k3,k4] at h
  clear k k1 k2 k3 k4 hok hbad
  unfold ok at h
  unfold min4 max4
  omega

theorem btw_mul {a b:Int×Int} (ha:okS a) (hb:okS b):btw (mul false) (mul true) a b=sMul a b:=by
 have e:sMul a b=_:=on2_ok ha hb
 rw [e]
 refine btw_of (f:=fun x y=>fl (x*y)) (g:=fun x y=>cl (x*y)) (fun _ _=>fl_le_cl _) ?_ ?_
 ·intro x y hx hy h1 h2
  have hx':ok x:=by rcases hx with rfl | rfl<;>first | exact ha.lo | exact ha.hi
  have hy':ok y:=by rcases hy with rfl | rfl<;>first | exact hb.lo | exact hb.hi
  exact mul_pair_ok hx' hy' h1 h2
 ·intro x y hx hy h
  have hx':ok x:=by rcases hx with rfl | rfl<;>first | exact ha.lo | exact ha.hi
  have hy':ok y:=by rcases hy with rfl | rfl<;>first | exact hb.lo | exact hb.hi
  exact mul_pair_bad hx' hy' h

theorem rnd_le {x d:Int} (hd:0<d):rnd false x d<=rnd true x d:=by
 unfold rnd
 simp only [Bool.false_eq_true,if_false,if_true]
 have h1:=Int.mul_ediv_add_emod x d
 have h2:=Int.mul_ediv_add_emod (-x) d
 have h3:=Int.emod_nonneg x (show d≠0 by omega)
 have h4:=Int.emod_nonneg (-x) (show d≠0 by omega)
 have h5:d*(x / d+(-x) / d)<=0:=by rw [Int.mul_add];omega
 have h6:x / d+(-x) / d<=0:=by
  apply Int.not_lt.mp
  intro h
  have:=Int.mul_pos hd h
  omega
 omega

theorem btw_div {a b:Int×Int} (ha:okS a) (hb:okS b) (hz:¬(b.1<=0/\0<=b.2)):btw (dvd false) (dvd true) a b=sDiv a b:=by
 have e:sDiv a b=_:=on2_ok ha hb
 rw [e,if_neg hz]
 have hnz:∀y,(y=b.1∨y=b.2)->¬y=0:=by
  intro y hy
  unfold okS at hb
  omega
 have hle:∀x y,y=0∨dv false x y<=dv true x y:=by
  intro x y
  by_cases h:y=0
  ·exact .inl h
  ·exact .inr (rnd_le (by omega))
 refine btw_of (f:=fun x y=>if y=0 then 0 else dv false x y) (g:=fun x y=>if y=0 then 0 else dv true x y) ?_ ?_ ?_ |>.trans ?_
 ·intro x y
  rcases hle x y with h | h
  ·simp [h]
  ·show (if y=0 then 0 else dv false x y)<=(if y=0 then 0 else dv true x y)
   split<;>omega
 ·intro x y hx hy h1 h2
  have hx':ok x:=by rcases hx with rfl | rfl<;>first | exact ha.lo | exact ha.hi
  have hy':ok y:=by rcases hy with rfl | rfl<;>first | exact hb.lo | exact hb.hi
  simp only [if_neg (hnz y hy)] at h1 h2 ⊢
  rw [dvd_fit _ hx' hy' (hnz y hy),dvd_fit _ hx' hy' (hnz y hy)]
  exact ⟨fit_ok h1,fit_ok h2⟩
 ·intro x y hx hy h
  have hx':ok x:=by rcases hx with rfl | rfl<;>first | exact ha.lo | exact ha.hi
  have hy':ok y:=by rcases hy with rfl | rfl<;>first | exact hb.lo | exact hb.hi
  simp only [if_neg (hnz y hy)] at h
  rw [dvd_fit _ hx' hy' (hnz y hy),dvd_fit _ hx' hy' (hnz y hy)]
  rintro ⟨g1,g2⟩
  apply h
  constructor
  ·by_cases k:ok (dv false x y)
   ·exact k
   ·rw [fit_bad k] at g1
    cases g1
  ·by_cases k:ok (dv true x y)
   ·exact k
   ·rw [fit_bad k] at g2
    cases g2
 ·simp only [if_neg (hnz b.1 (.inl rfl)),if_neg (hnz b.2 (.inr rfl))]
end Mnc

/- Plain: intervals times a fraction. No program here. -/
namespace Mnc
open Go

end Mnc

/- Plain: polynomials with interval coefficients; what the operations of package poly answer. No program here. -/
namespace Mnc
open Go

end Mnc

/- Plain: the coefficients of the derivative; what Slope answers. No program here. -/
namespace Mnc
open Go
end Mnc

/- Plain: intervals within intervals. No program here. -/
namespace Mnc
open Go

/-- An interval within another one. -/
def sIn (s t:Int×Int):Prop:=t.1<=s.1/\s.2<=t.2
instance (s t:Int×Int):Decidable (sIn s t):=by unfold sIn;exact inferInstance
end Mnc

/- Plain: polynomials within polynomials; what Eval and Slope answer at 0, and with one coefficient 0 more. No program here. -/
namespace Mnc
open Go

theorem okS_zero:okS (0,0):=by unfold okS;omega
/-- A list of intervals within those of another list. -/
inductive AllIn:List (Int×Int)->List (Int×Int)->Prop
 | nil:AllIn [] []
 | cons {a b:Int×Int} {l m:List (Int×Int)} (ha:okS a) (hb:okS b) (h:sIn a b) (t:AllIn l m):AllIn (a::l) (b::m)

theorem AllIn.len {l' l:List (Int×Int)} (h:AllIn l' l):l'.length=l.length:=by
 induction h with
 | nil=>rfl
 | cons _ _ _ _ ih=>simp [ih]

end Mnc

/- Plain laws of the operations on intervals: orders of arguments, negatives, 1, squares; common parts, hulls, middles, signs. No program here. -/
namespace Mnc
open Go

theorem sAbs_val {a:Int×Int} (h:okS a):(sAbs a).1=(max (max a.1 (-a.2)) 0,max a.2 (-a.1)):=by
 have e:sAbs a=_:=on1_ok h
 rw [e]
/-- Powers of an interval within an interval. -/
theorem pow_nn {x:Int} (h:0<=x) (n:Nat):0<=x ^ n:=by
 induction n with
 | zero=>simp
 | succ n ih=>rw [Int.pow_succ];exact Int.mul_nonneg ih h
theorem pow_le_pos {x y:Int} (h0:0<=x) (h:x<=y) (n:Nat):x ^ n<=y ^ n:=by
 induction n with
 | zero=>simp
 | succ n ih =>
  rw [Int.pow_succ,Int.pow_succ]
  exact Int.mul_le_mul ih h h0 (pow_nn (by omega) n)
theorem pow_one' (x:Int):x ^ (2*0+1)=x:=by
 rw [show 2*0+1=0+1 from rfl,Int.pow_succ,Int.pow_zero,Int.one_mul]
theorem neg_pow_odd (x:Int) (k:Nat):(-x) ^ (2*k+1)=-(x ^ (2*k+1)):=by
 induction k with
 | zero=>rw [pow_one',pow_one']
 | succ k ih =>
  rw [show 2*(k+1)+1=(2*k+1)+1+1 by omega,Int.pow_succ (-x),Int.pow_succ (-x),ih,Int.pow_succ x (2*k+1+1),Int.pow_succ x (2*k+1)]
  simp only [Int.neg_mul,Int.mul_neg,Int.neg_neg]
theorem pow_le_odd {x y:Int} (h:x<=y) (k:Nat):x ^ (2*k+1)<=y ^ (2*k+1):=by
 by_cases hx:0<=x
 ·exact pow_le_pos hx h _
 ·by_cases hy:0<=y
  ·have h1:=pow_nn (x:=-x) (by omega) (2*k+1)
   rw [neg_pow_odd] at h1
   have h2:=pow_nn hy (2*k+1)
   omega
  ·have h1:=pow_le_pos (x:=-y) (y:=-x) (by omega) (by omega) (2*k+1)
   rw [neg_pow_odd,neg_pow_odd] at h1
   omega
theorem rnd_up_mono (up:Bool) {x y d:Int} (hd:0<d) (h:x<=y):rnd up x d<=rnd up y d:=by
 cases up
 ·exact Int.ediv_le_ediv hd h
 ·have:=Int.ediv_le_ediv (a:=-y) (b:=-x) hd (by omega)
  show -((-x) / d)<=-((-y) / d)
  omega
end Mnc

/- Plain: numbers to the base 2^64, and powers. No program here. -/
namespace Mnc
open Go

/-- The number of some digits. -/
def dval:List Nat->Nat
 | []=>0
 | d::r=>d+18446744073709551616*dval r
def dok (l:List Nat):Prop:=∀d∈l,d<18446744073709551616
theorem dval_append (a b:List Nat):dval (a++b)=dval a+18446744073709551616 ^ a.length*dval b:=by
 induction a with
 | nil=>simp [dval]
 | cons d r ih =>
  show d+18446744073709551616*dval (r++b)=d+18446744073709551616*dval r+18446744073709551616 ^ (r.length+1)*dval b
  rw [ih,Nat.pow_succ,Nat.mul_add,Nat.add_assoc]
  congr 2
  ac_rfl
theorem dval_lt (l:List Nat) (h:dok l):dval l<18446744073709551616 ^ l.length:=by
 induction l with
 | nil=>simp [dval]
 | cons d r ih =>
  have h1:=ih (fun x hx=>h x (by simp [hx]))
  have h2:=h d (by simp)
  show d+18446744073709551616*dval r<18446744073709551616 ^ (r.length+1)
  rw [Nat.pow_succ,Nat.mul_comm (_ ^ _)]
  have:=Nat.mul_le_mul_left 18446744073709551616 (show dval r+1<=18446744073709551616 ^ r.length from h1)
  omega

/-- One round of the product of a number with one digit. -/
structure TmAt (ds:List Nat) (n:Nat) (acc:List Nat) (c k:Nat):Prop where
 len:acc.length=k
 cb:c<18446744073709551616
 oks:dok acc
 eq:dval acc+18446744073709551616 ^ k*c=dval (ds.take k)*n
theorem tmAt_start (ds:List Nat) (n:Nat):TmAt ds n [] 0 0:=⟨rfl,by omega,fun d hd=>by simp at hd,by simp [dval]⟩
theorem tm_bd {x n c:Nat} (hx:x<18446744073709551616) (hn:n<18446744073709551616) (hc:c<18446744073709551616):(x*n+c) / 18446744073709551616<18446744073709551616:=by
 have h:=Nat.mul_le_mul (show x<=18446744073709551615 by omega) (show n<=18446744073709551615 by omega)
 rw [Nat.div_lt_iff_lt_mul (by omega)]
 omega
theorem tmAt_next {ds acc:List Nat} {n c k x:Nat} (h:TmAt ds n acc c k) (hx:ds[k]?=some x) (hxo:x<18446744073709551616) (hn:n<18446744073709551616):TmAt ds n (acc++[(x*n+c) % 18446744073709551616]) ((x*n+c) / 18446744073709551616) (k+1) where
 len:=by simp [h.len]
 cb:=tm_bd hxo hn h.cb
 oks:=fun d hd=>by
  rcases List.mem_append.1 hd with hd | hd
  ·exact h.oks d hd
  ·simp at hd
   subst hd
   exact Nat.mod_lt _ (by omega)
 eq:=by
  have hk:=(List.getElem?_eq_some_iff.1 hx).1
  have e:=h.eq
  have hd:=Nat.div_add_mod (x*n+c) 18446744073709551616
  rw [dval_append,List.take_add_one,hx,dval_append,h.len,Nat.pow_succ,Nat.add_mul,←e]
  simp only [Option.toList_some,List.length_take,Nat.min_eq_left (Nat.le_of_lt hk)]
  show dval acc+18446744073709551616 ^ k*((x*n+c) % 18446744073709551616+18446744073709551616*0)+18446744073709551616 ^ k*18446744073709551616*((x*n+c) / 18446744073709551616)=dval acc+18446744073709551616 ^ k*c+18446744073709551616 ^ k*(x+18446744073709551616*0)*n
  generalize 18446744073709551616 ^ k=P at *
  generalize (x*n+c) % 18446744073709551616=r at *
  generalize (x*n+c) / 18446744073709551616=q at *
  rw [Nat.mul_zero,Nat.add_zero,Nat.add_zero,Nat.add_assoc,Nat.add_assoc,Nat.mul_assoc P,Nat.mul_assoc P,←Nat.mul_add,←Nat.mul_add]
  congr 2
  omega
theorem tmAt_end {ds acc:List Nat} {n c k:Nat} (h:TmAt ds n acc c k) (hk:ds.length=k):dval (acc++[c])=dval ds*n/\dok (acc++[c]):=by
 constructor
 ·rw [dval_append,h.len]
  have e:=h.eq
  rw [List.take_of_length_le (by omega)] at e
  rw [←e]
  simp [dval]
 ·intro d hd
  rcases List.mem_append.1 hd with hd | hd
  ·exact h.oks d hd
  ·simp at hd
   subst hd
   exact h.cb

/-- The digit at a place. -/
def dat (l:List Nat) (i:Nat):Nat:=l.getD i 0
theorem dat_lt {l:List Nat} (h:dok l) (i:Nat):dat l i<18446744073709551616:=by
 unfold dat
 rw [List.getD_eq_getElem?_getD]
 cases hx:l[i]? with
 | none=>simp
 | some x=>exact h x (List.mem_of_getElem? hx)
theorem dval_drop (l:List Nat) (s:Nat):dval (l.drop s)=dat l s+18446744073709551616*dval (l.drop (s+1)):=by
 rcases Nat.lt_or_ge s l.length with h | h
 ·rw [List.drop_eq_getElem_cons h]
  show l[s]+_=_
  congr 1
  unfold dat
  rw [List.getD_eq_getElem?_getD,List.getElem?_eq_getElem h]
  rfl
 ·rw [List.drop_of_length_le h,List.drop_of_length_le (by omega)]
  unfold dat
  rw [List.getD_eq_getElem?_getD,List.getElem?_eq_none h]
  rfl
theorem dval_split (l:List Nat) (h:dok l) (s:Nat):dval l / 18446744073709551616 ^ s=dval (l.drop s)/\dval l % 18446744073709551616 ^ s=dval (l.take s):=by
 have e:dval l=dval (l.take s)+18446744073709551616 ^ s*dval (l.drop s):=by
  rcases Nat.le_total s l.length with hs | hs
  ·conv=>lhs;rw [←List.take_append_drop s l]
   rw [dval_append,List.length_take,Nat.min_eq_left hs]
  ·rw [List.take_of_length_le hs,List.drop_of_length_le hs]
   simp [dval]
 have hlt:dval (l.take s)<18446744073709551616 ^ s:=by
  have:=dval_lt (l.take s) (fun d hd=>h d (List.mem_of_mem_take hd))
  exact Nat.lt_of_lt_of_le this (Nat.pow_le_pow_right (by omega) (by simp;omega))
 rw [e]
 constructor
 ·rw [Nat.add_mul_div_left _ _ (Nat.pow_pos (by omega)),Nat.div_eq_of_lt hlt,Nat.zero_add]
 ·rw [Nat.add_mul_mod_self_left,Nat.mod_eq_of_lt hlt]

/-- Is something left below a place? -/
def dleft (l:List Nat) (s:Nat):Bool:=(l.take s).any (fun d=>decide (0<d))
theorem dleft_zero (l:List Nat) (s:Nat):dleft l s=decide (dval (l.take s)≠0):=by
 unfold dleft
 induction l.take s with
 | nil=>rfl
 | cons d r ih =>
  rw [List.any_cons,ih]
  show (decide (0<d) || decide (dval r≠0))=decide (d+18446744073709551616*dval r≠0)
  rw [Bool.eq_iff_iff]
  simp
  omega
theorem dleft_succ (l:List Nat) (s:Nat) (h:s<l.length):dleft l (s+1)=(dleft l s || decide (0<dat l s)):=by
 unfold dleft dat
 rw [List.take_add_one,List.getElem?_eq_getElem h,List.any_append,List.getD_eq_getElem?_getD,List.getElem?_eq_getElem h]
 simp
theorem dleft_past (l:List Nat) (s:Nat) (h:l.length<=s):dleft l (s+1)=(dleft l s || decide (0<dat l s)):=by
 unfold dleft dat
 rw [List.take_of_length_le h,List.take_of_length_le (by omega),List.getD_eq_getElem?_getD,List.getElem?_eq_none h]
 simp
theorem dleft_next (l:List Nat) (s:Nat):dleft l (s+1)=(dleft l s || decide (0<dat l s)):=by
 rcases Nat.lt_or_ge s l.length with h | h
 ·exact dleft_succ l s h
 ·exact dleft_past l s h
theorem dval_zero_iff (l:List Nat):dval l=0 ↔ ∀d∈l,d=0:=by
 induction l with
 | nil=>simp [dval]
 | cons d r ih =>
  show d+18446744073709551616*dval r=0 ↔ _
  simp only [List.mem_cons,forall_eq_or_imp]
  rw [←ih]
  omega

/-- What high answers, by a whole number of digits: the quotient, whether something is left; or nothing if it does not fit. -/
theorem high_0 (l:List Nat) (h:dok l) (s:Nat):dval l / 2 ^ (64*s)=dat l s+18446744073709551616*dval (l.drop (s+1))/\(dval l % 2 ^ (64*s)≠0 ↔ dleft l s=true):=by
 have e:(2:Nat) ^ (64*s)=18446744073709551616 ^ s:=by rw [Nat.pow_mul]
 obtain ⟨h1,h2⟩:=dval_split l h s
 rw [e,h1,h2,dleft_zero,←dval_drop]
 simp
theorem high_32 (l:List Nat) (h:dok l) (s:Nat):dval l / 2 ^ (64*s+32)=dat l s / 4294967296+4294967296*(dat l (s+1)+18446744073709551616*dval (l.drop (s+2)))/\(dval l % 2 ^ (64*s+32)≠0 ↔ (dleft l s || decide (0<dat l s % 4294967296))=true):=by
 have e:(2:Nat) ^ (64*s+32)=18446744073709551616 ^ s*4294967296:=by rw [Nat.pow_add,Nat.pow_mul]
 obtain ⟨h1,h2⟩:=dval_split l h s
 have d1:=dval_drop l s
 have d2:dval (l.drop (s+1))=dat l (s+1)+18446744073709551616*dval (l.drop (s+2)):=dval_drop l (s+1)
 rw [e,←Nat.div_div_eq_div_mul,h1,d1,d2]
 constructor
 ·omega
 ·rw [Nat.mod_mul,h1,h2,dleft_zero,d1,d2]
  have hp:0<18446744073709551616 ^ s:=Nat.pow_pos (by omega)
  simp only [Bool.or_eq_true,decide_eq_true_eq]
  have e2:(dat l s+18446744073709551616*(dat l (s+1)+18446744073709551616*dval (l.drop (s+2)))) % 4294967296=dat l s % 4294967296:=by omega
  rw [e2]
  generalize dat l s % 4294967296=r
  generalize dval (l.take s)=t
  generalize 18446744073709551616 ^ s=P at *
  constructor
  ·intro hh
   by_cases ht:t=0
   ·right
    apply Nat.pos_of_ne_zero
    rintro rfl
    simp [ht] at hh
   ·exact .inl ht
  ·rintro (hh | hh)
   ·omega
   ·have:=Nat.mul_le_mul_left P (show 1<=r from hh)
    omega

theorem pow_sign (v:Int) (n:Nat):v ^ n=if (decide (v<0) && decide (n % 2=1))=true then -((v.natAbs ^ n:Nat):Int) else ((v.natAbs ^ n:Nat):Int):=by
 induction n with
 | zero=>simp
 | succ n ih =>
  rw [Int.pow_succ,ih,Nat.pow_succ]
  by_cases hv:v<0
  ·have hm:v=-((v.natAbs:Nat):Int):=by omega
   by_cases hn:n % 2=1
   ·have hn2:¬(n+1) % 2=1:=by omega
    simp only [hv,hn,hn2,decide_true,decide_false,Bool.and_self,Bool.and_false,if_true,Bool.false_eq_true,if_false]
    push_cast
    conv=>lhs;rhs;rw [hm]
    rw [Int.neg_mul_neg]
   ·have hn2:(n+1) % 2=1:=by omega
    simp only [hv,hn,hn2,decide_true,decide_false,Bool.and_self,Bool.and_false,if_true,Bool.false_eq_true,if_false]
    push_cast
    conv=>lhs;rhs;rw [hm]
    rw [Int.mul_neg]
  ·have hm:((v.natAbs:Nat):Int)=v:=by omega
   simp only [hv,decide_false,Bool.false_and,Bool.false_eq_true,if_false]
   push_cast
   rw [hm]

/-- What power answers. -/
def pDen (n:Nat):Nat:=2 ^ (32*(n-1))
theorem pDen_pos (n:Nat):0<pDen n:=Nat.pow_pos (by omega)
theorem pDen_eq (n:Nat):((4294967296:Int) ^ (n-1))=((pDen n:Nat):Int):=by
 unfold pDen
 rw [Nat.pow_mul,show (2:Nat) ^ 32=4294967296 from rfl,Int.natCast_pow]
 rfl
def pwr (v:Int) (n:Nat):Int×Int×Int:=if v.natAbs ^ n / pDen n<=4503599627370496 then (rnd false (v ^ n) (pDen n),rnd true (v ^ n) (pDen n),0) else (0,0,6)
theorem pwr_ok {v:Int} {n:Nat} (h:v.natAbs ^ n / pDen n<=4503599627370496):pwr v n=(rnd false (v ^ n) (pDen n),rnd true (v ^ n) (pDen n),0):=if_pos h
theorem pwr_bad {v:Int} {n:Nat} (h:¬v.natAbs ^ n / pDen n<=4503599627370496):pwr v n=(0,0,6):=if_neg h
/-- The signs of the rounded powers. -/
theorem pwr_rnd (v:Int) (n:Nat) (up:Bool):rnd up (v ^ n) (pDen n)=if (decide (v<0) && decide (n % 2=1))=true then -((rsz (up != (decide (v<0) && decide (n % 2=1))) (v.natAbs ^ n) (pDen n):Nat):Int) else ((rsz (up != (decide (v<0) && decide (n % 2=1))) (v.natAbs ^ n) (pDen n):Nat):Int):=by
 rw [pow_sign]
 exact rnd_size _ up _ _ (pDen_pos n)

theorem rnd_mono (up:Bool) {x y d:Int} (hd:0<d) (h:x<=y):rnd up x d<=rnd up y d:=by
 have h1:=Int.ediv_le_ediv hd h
 have h2:=Int.ediv_le_ediv hd (show -y<=-x by omega)
 unfold rnd
 cases up<;>simp<;>omega
theorem ipow_mono {a b:Int} (n:Nat) (h:a<=b) (hs:n % 2=1∨0<=a):a ^ n<=b ^ n:=by
 have hp:∀x y:Nat,x<=y->((x ^ n:Nat):Int)<=((y ^ n:Nat):Int):=fun x y hxy=>Int.ofNat_le.2 (Nat.pow_le_pow_left hxy n)
 rw [pow_sign a,pow_sign b]
 have ha0:(0:Int)<=((a.natAbs ^ n:Nat):Int):=Int.natCast_nonneg _
 have hb0:(0:Int)<=((b.natAbs ^ n:Nat):Int):=Int.natCast_nonneg _
 have h1:=hp a.natAbs b.natAbs
 have h2:=hp b.natAbs a.natAbs
 rcases hs with hn | ha
 ·simp only [hn,decide_true,Bool.and_true]
  by_cases ha:a<0<;>by_cases hb:b<0<;>simp only [ha,hb,decide_true,decide_false,if_true,Bool.false_eq_true,if_false]<;>omega
 ·simp only [show ¬a<0 by omega,show ¬b<0 by omega,decide_false,Bool.false_and,Bool.false_eq_true,if_false]
  omega
theorem pw_eq (a:Int×Int) (n:Nat):pw a n=sT (rnd false (a.1 ^ n) (pDen n)) (rnd true (a.2 ^ n) (pDen n)):=by
 unfold pw
 rw [pDen_eq]
theorem pwr_far {v:Int} {n:Nat} (h:¬v.natAbs ^ n / pDen n<=4503599627370496) (up:Bool):rnd up (v ^ n) (pDen n)< -4503599627370496∨4503599627370496<rnd up (v ^ n) (pDen n):=by
 rw [pwr_rnd]
 have:=rsz_ge (up != (decide (v<0) && decide (n % 2=1))) (v.natAbs ^ n) (pDen n)
 split<;>omega
theorem pw_bad {a:Int×Int} {n:Nat} (h:a.1<=a.2) (hs:n % 2=1∨0<=a.1) (hb:¬(a.1.natAbs ^ n / pDen n<=4503599627370496/\a.2.natAbs ^ n / pDen n<=4503599627370496)):pw a n=((0,0),6):=by
 rw [pw_eq,sT_bad]
 have hd:(0:Int)<((pDen n:Nat):Int):=by have:=pDen_pos n;omega
 have hm:=ipow_mono n h hs
 have m1:=rnd_mono false hd hm
 have m2:=rnd_mono true hd hm
 have r1:=rnd_le (x:=a.1 ^ n) hd
 have r2:=rnd_le (x:=a.2 ^ n) hd
 rcases Classical.not_and_iff_not_or_not.1 hb with hb | hb
 ·have h1:=pwr_far hb false
  have h2:=pwr_far hb true
  have s1:=pwr_rnd a.1 n false
  have s2:=pwr_rnd a.1 n true
  split at s1<;>omega
 ·have h1:=pwr_far hb false
  have h2:=pwr_far hb true
  have s1:=pwr_rnd a.2 n false
  have s2:=pwr_rnd a.2 n true
  split at s1<;>omega
theorem pw_ok {a:Int×Int} {n:Nat} (h1:a.1.natAbs ^ n / pDen n<=4503599627370496) (h2:a.2.natAbs ^ n / pDen n<=4503599627370496):pw a n=sT (pwr a.1 n).1 (pwr a.2 n).2.1:=by
 rw [pw_eq,pwr_ok h1,pwr_ok h2]
end Mnc
