/- Plain: what the operations of package taylor compute: models of 21 coefficients and a remainder as lists of 22 intervals; a result and its error. No program here. -/
import Derived.Test.YthhkcfpljgdnhaaGreatPl
namespace Mnc
open Go

/-- A computation goes on where there is no error. -/
def thenE {α β:Type} (z:β) (x:α×Int) (f:α->β×Int):β×Int:=if x.2=0 then f x.1 else (z,x.2)
theorem thenE_ok {α β:Type} {z:β} {x:α×Int} {f:α->β×Int} (h:x.2=0):thenE z x f=f x.1:=if_pos h
theorem thenE_bad {α β:Type} {z:β} {x:α×Int} {f:α->β×Int} (h:¬x.2=0):thenE z x f=(z,x.2):=if_neg h
/-- The pairs of exponents, in the order of their places. -/
def tPairs:List (Nat×Nat):=(List.range 6).flatMap fun s=>(List.range (s+1)).map fun i=>(i,s-i)
def tPlace (i j:Nat):Nat:=(i+j)*(i+j+1) / 2+i
def tReach (i j:Nat):Int×Int:=if i+j=0 then (4294967296,4294967296) else if i % 2=0/\j % 2=0 then (0,4294967296) else (-4294967296,4294967296)
def tAt (a:List (Int×Int)) (p:Nat):Int×Int:=a.getD p (0,0)
/-- An operation on all parts of two models. -/
def tEach (f:Int×Int->Int×Int->(Int×Int)×Int):List (Int×Int)->List (Int×Int)->List (Int×Int)×Int
 | x::a,y::b=>thenE [] (f x y) fun r=>thenE [] (tEach f a b) fun t=>(r::t,0)
 | _,_=>([],0)
/-- The sweep of a model, from a place on. -/
def tSweepFrom (a:List (Int×Int)):List (Nat×Nat)->Nat->Int×Int->(Int×Int)×Int
 | [],_,t=>(t,0)
 | (i,j)::l,p,t=>thenE (0,0) (sMul (tAt a p) (tReach i j)) fun w=>thenE (0,0) (sAdd t w) fun t=>tSweepFrom a l (p+1) t
def tSweep (a:List (Int×Int)):(Int×Int)×Int:=tSweepFrom a tPairs 0 (0,0)
def tBound (a:List (Int×Int)):(Int×Int)×Int:=thenE (0,0) (tSweep a) fun s=>sAdd s (tAt a 21)
/-- One step of a product: the sums and, at place 21, the remainder. -/
def tStep (a b:List (Int×Int)) (i j k l p q:Nat) (S:List (Int×Int)):List (Int×Int)×Int :=
 thenE [] (sMul (tAt a p) (tAt b q)) fun w =>
  if 5<i+j+k+l then thenE [] (sMul w (tReach (i+k) (j+l))) fun r=>thenE [] (sAdd (tAt S 21) r) fun t=>(S.set 21 t,0)
  else thenE [] (sAdd (tAt S (tPlace (i+k) (j+l))) w) fun t=>(S.set (tPlace (i+k) (j+l)) t,0)
def tInner (a b:List (Int×Int)) (i j p:Nat):List (Nat×Nat)->Nat->List (Int×Int)->List (Int×Int)×Int
 | [],_,S=>(S,0)
 | (k,l)::r,q,S=>thenE [] (tStep a b i j k l p q S) fun S=>tInner a b i j p r (q+1) S
def tOuter (a b:List (Int×Int)):List (Nat×Nat)->Nat->List (Int×Int)->List (Int×Int)×Int
 | [],_,S=>(S,0)
 | (i,j)::r,p,S=>thenE [] (tInner a b i j p tPairs 0 S) fun S=>tOuter a b r (p+1) S
/-- The remainder grows by a product. -/
def tGrow (S:List (Int×Int)) (x y:Int×Int):List (Int×Int)×Int:=thenE [] (sMul x y) fun r=>thenE [] (sAdd (tAt S 21) r) fun t=>(S.set 21 t,0)
def tProduct (a b:List (Int×Int)):List (Int×Int)×Int :=
 thenE [] (tOuter a b tPairs 0 (List.replicate 22 (0,0))) fun S =>
  thenE [] (tSweep a) fun s=>thenE [] (tGrow S s (tAt b 21)) fun S =>
   thenE [] (tSweep b) fun s=>thenE [] (tGrow S (tAt a 21) s) fun S=>tGrow S (tAt a 21) (tAt b 21)
def tBy (f:Int×Int->Int×Int->(Int×Int)×Int) (a:List (Int×Int)) (s:Int×Int):List (Int×Int)×Int:=tEach (fun x _=>f x s) a a
/-- The series of a relative part; the numbers stand with the greatest power first. -/
def tSeries (h:List (Int×Int)):List Int->List (Int×Int)->List (Int×Int)×Int
 | [],m=>(m,0)
 | s::r,m=>thenE [] (tProduct h m) fun m=>thenE [] (sAdd (tAt m 0) (s,s)) fun c=>tSeries h r (m.set 0 c)
def tRelative (a:List (Int×Int)):((List (Int×Int))×(Int×Int)×(Int×Int))×Int :=
 thenE ([],(0,0),(0,0)) (tBy sDiv (a.set 0 (0,0)) (tAt a 0)) fun h=>thenE ([],(0,0),(0,0)) (tBound h) fun b =>
  thenE ([],(0,0),(0,0)) (sMul (0,4294967296) b) fun r=>thenE ([],(0,0),(0,0)) (sAdd (4294967296,4294967296) r) fun e=>((h,b,e),0)
def zeroM:List (Int×Int):=List.replicate 22 (0,0)
/-- The reciprocal of a valid model. -/
def tInverse (a:List (Int×Int)):List (Int×Int)×Int :=
 if (tAt a 0).1<=0/\0<=(tAt a 0).2 then ([],7) else
 thenE [] (tRelative a) fun r=>if r.2.2.1<=0 then ([],7) else
  thenE [] (tSeries r.1 [4294967296,-4294967296,4294967296,-4294967296,4294967296] (zeroM.set 0 (-4294967296,-4294967296))) fun m =>
   thenE [] (sPow r.2.1 6) fun six=>thenE [] (sPow r.2.2 7) fun sev=>thenE [] (sDiv six sev) fun d=>thenE [] (sAdd (tAt m 21) d) fun t=>tBy sDiv (m.set 21 t) (tAt a 0)
def tSqrt (a:List (Int×Int)):List (Int×Int)×Int :=
 if (tAt a 0).1<=0 then ([],7) else
 thenE [] (tRelative a) fun r=>if r.2.2.1<=0 then ([],7) else
  thenE [] (tSeries r.1 [-167772160,268435456,-536870912,2147483648,4294967296] (zeroM.set 0 (117440512,117440512))) fun m =>
   thenE [] (sPow r.2.2 5) fun f=>thenE [] (sSqrt r.2.2) fun q=>thenE [] (sMul f q) fun t=>thenE [] (sPow r.2.1 6) fun six=>thenE [] (sDiv six t) fun d =>
    thenE [] (sMul (-88080384,-88080384) d) fun g=>thenE [] (sAdd (tAt m 21) g) fun z=>thenE [] (sSqrt (tAt a 0)) fun c=>tBy sMul (m.set 21 z) c
/-- The model 1 + t/16 u of the examples. -/
def tLine (t:Int):List (Int×Int):=(zeroM.set 0 (4294967296,4294967296)).set 2 (t*268435456,t*268435456)
end Mnc

/- Plain: a product of two models, step by step. No program here. -/
namespace Mnc
open Go
theorem tAt_app21 {T:List (Int×Int)} {r:Int×Int} (h:T.length=21):tAt (T++[r]) 21=r:=by
 unfold tAt;simp [List.getD,h]
theorem tAt_app {T:List (Int×Int)} {r:Int×Int} {n:Nat} (h:T.length=21) (hn:n<21):tAt (T++[r]) n=tAt T n:=by
 unfold tAt;simp [List.getD,List.getElem?_append_left (show n<T.length by omega)]
theorem set_app21 {T:List (Int×Int)} {r g:Int×Int} (h:T.length=21):(T++[r]).set 21 g=T++[g]:=by
 rw [List.set_append_right _ _ (by omega),h];rfl
theorem set_app {T:List (Int×Int)} {r g:Int×Int} {n:Nat} (h:T.length=21) (hn:n<21):(T++[r]).set n g=T.set n g++[r]:=by
 rw [List.set_append_left _ _ (by omega)]
theorem tPlace_lt:∀u v:Fin 6,u.1+v.1<=5->tPlace u.1 v.1<21:=by decide
section
variable {a c T:List (Int×Int)} {t:Int×Int} {i j k m p q:Nat} {l:List (Nat×Nat)}
theorem tStep_x {S:List (Int×Int)} (hx:¬(sMul (tAt a p) (tAt c q)).2=0):(tStep a c i j k m p q S).2=(sMul (tAt a p) (tAt c q)).2:=by
 rw [tStep,thenE_bad hx]
theorem tStep_hi (hT:T.length=21) (h5:5<i+j+k+m) (hx:(sMul (tAt a p) (tAt c q)).2=0):tStep a c i j k m p q (T++[t]) =
  thenE [] (sMul (sMul (tAt a p) (tAt c q)).1 (tReach (i+k) (j+m))) fun r=>thenE [] (sAdd t r) fun g=>(T++[g],0):=by
 rw [tStep,thenE_ok hx]
 simp only [if_pos h5,tAt_app21 hT,set_app21 hT]
theorem tStep_lo (hT:T.length=21) (h5:¬5<i+j+k+m) (hx:(sMul (tAt a p) (tAt c q)).2=0):tStep a c i j k m p q (T++[t]) =
  thenE [] (sAdd (tAt T (tPlace (i+k) (j+m))) (sMul (tAt a p) (tAt c q)).1) fun g=>(T.set (tPlace (i+k) (j+m)) g++[t],0):=by
 have hn:=tPlace_lt ⟨i+k,by omega⟩ ⟨j+m,by omega⟩ (by dsimp only;omega)
 dsimp only at hn
 rw [tStep,thenE_ok hx]
 simp only [if_neg h5,tAt_app hT hn,set_app hT hn]
theorem tInner_ok {S S':List (Int×Int)} (h:tStep a c i j k m p q S=(S',0)):tInner a c i j p ((k,m)::l) q S=tInner a c i j p l (q+1) S':=by
 rw [tInner,h,thenE_ok rfl]
theorem tInner_bad {S:List (Int×Int)} (h:¬(tStep a c i j k m p q S).2=0):(tInner a c i j p ((k,m)::l) q S).2=(tStep a c i j k m p q S).2:=by
 rw [tInner,thenE_bad h]
theorem tOuter_ok {S S':List (Int×Int)} (h:tInner a c i j p tPairs 0 S=(S',0)):tOuter a c ((i,j)::l) p S=tOuter a c l (p+1) S':=by
 rw [tOuter,h,thenE_ok rfl]
theorem tOuter_bad {S:List (Int×Int)} (h:¬(tInner a c i j p tPairs 0 S).2=0):(tOuter a c ((i,j)::l) p S).2=(tInner a c i j p tPairs 0 S).2:=by
 rw [tOuter,thenE_bad h]
end
end Mnc
namespace Mnc
open Go
theorem thenE_assoc {α β γ:Type} {y:β} {z:γ} {x:α×Int} {f:α->β×Int} {g:β->γ×Int}:thenE z (thenE y x f) g=thenE z x fun v=>thenE z (f v) g:=by
 by_cases h:x.2=0
 ·rw [thenE_ok h,thenE_ok h]
 ·rw [thenE_bad h,thenE_bad h,thenE_bad (show ¬(y,x.2).2=0 from h)]
theorem thenE_pair {α β:Type} {z:β} {x:α} {f:α->β×Int}:thenE z (x,0) f=f x:=thenE_ok rfl
theorem tProduct_bad {a c:List (Int×Int)} (h:¬(tOuter a c tPairs 0 zeroM).2=0):(tProduct a c).2=(tOuter a c tPairs 0 zeroM).2:=by
 rw [tProduct,show List.replicate 22 (0,0)=zeroM from rfl,thenE_bad h]
theorem tProduct_of {a c T:List (Int×Int)} {r:Int×Int} (hT:T.length=21) (h:tOuter a c tPairs 0 zeroM=(T++[r],0)):tProduct a c =
  thenE [] (tSweep a) fun s=>thenE [] (sMul s (tAt c 21)) fun x=>thenE [] (sAdd r x) fun r1=>thenE [] (tSweep c) fun s=>thenE [] (sMul (tAt a 21) s) fun x=>thenE [] (sAdd r1 x) fun r2 =>
   thenE [] (sMul (tAt a 21) (tAt c 21)) fun x=>thenE [] (sAdd r2 x) fun r3=>(T++[r3],0):=by
 rw [tProduct,show List.replicate 22 (0,0)=zeroM from rfl,h,thenE_pair]
 simp only [tGrow,thenE_assoc,thenE_pair,tAt_app21 hT,set_app21 hT]
end Mnc

/- Plain: what the reference of layer 21 computes: its sums up to the first error, and that it is what the program computes. No program here. -/
namespace Mnc
open Go
/-- The reference keeps the first error. -/
def gt (e:Int) (x:(Int×Int)×Int):(Int×Int)×Int:=if e=0 then (if x.2=0 then x else ((0,0),x.2)) else ((0,0),e)
theorem gt_ok {x:(Int×Int)×Int} (h:x.2=0):gt 0 x=(x.1,0):=by
 unfold gt
 rw [if_pos rfl,if_pos h]
 exact Prod.ext rfl h
theorem gt_bad {x:(Int×Int)×Int} (h:¬x.2=0):gt 0 x=((0,0),x.2):=by
 unfold gt
 rw [if_pos rfl,if_neg h]
theorem gt_err {e:Int} (h:¬e=0) (x:(Int×Int)×Int):gt e x=((0,0),e):=if_neg h
/-- The error behind a computation. -/
def er (e:Int) (n:Int):Int:=if e=0 then n else e
/-- The sweep. -/
def rSweepFrom (a:List (Int×Int)):List (Nat×Nat)->Nat->(Int×Int)×Int->(Int×Int)×Int
 | [],_,s=>s
 | (i,j)::l,p,s=>rSweepFrom a l (p+1) (gt (gt s.2 (sMul (tAt a p) (tReach i j))).2 (sAdd s.1 (gt s.2 (sMul (tAt a p) (tReach i j))).1))
def rSweep (a:List (Int×Int)) (e:Int):(Int×Int)×Int:=rSweepFrom a tPairs 0 ((0,0),e)
theorem rSweepFrom_err (a:List (Int×Int)) {e:Int} (h:¬e=0):∀(l:List (Nat×Nat)) (p:Nat),rSweepFrom a l p ((0,0),e)=((0,0),e)
 | [],_=>rfl
 | (i,j)::l,p=>by rw [rSweepFrom,gt_err h,gt_err h,rSweepFrom_err a h l (p+1)]
theorem rSweepFrom_ok (a:List (Int×Int)):∀(l:List (Nat×Nat)) (p:Nat) (t:Int×Int),rSweepFrom a l p (t,0)=gt 0 (tSweepFrom a l p t)
 | [],_,t=>by rw [rSweepFrom,tSweepFrom,gt_ok rfl]
 | (i,j)::l,p,t=>by
  rw [rSweepFrom,tSweepFrom]
  by_cases h:(sMul (tAt a p) (tReach i j)).2=0
  ·rw [thenE_ok h,gt_ok h]
   by_cases k:(sAdd t (sMul (tAt a p) (tReach i j)).1).2=0
   ·rw [thenE_ok k,gt_ok k]
    exact rSweepFrom_ok a l (p+1) _
   ·rw [thenE_bad k,gt_bad k,rSweepFrom_err a k]
    exact (gt_bad (x:=((0,0),_)) k).symm
  ·rw [thenE_bad h,gt_bad h,gt_err h,rSweepFrom_err a h]
   exact (gt_bad (x:=((0,0),_)) h).symm
theorem rSweep_eq (a:List (Int×Int)) (e:Int):rSweep a e=gt e (tSweep a):=by
 unfold rSweep tSweep
 by_cases h:e=0
 ·subst h
  exact rSweepFrom_ok a tPairs 0 (0,0)
 ·rw [rSweepFrom_err a h,gt_err h]
def rBound (a:List (Int×Int)) (e:Int):(Int×Int)×Int:=gt (rSweep a e).2 (sAdd (rSweep a e).1 (tAt a 21))
theorem rBound_eq (a:List (Int×Int)) (e:Int):rBound a e=gt e (tBound a):=by
 unfold rBound tBound
 rw [rSweep_eq]
 by_cases h:e=0
 ·subst h
  by_cases k:(tSweep a).2=0
  ·rw [gt_ok k,thenE_ok k]
  ·rw [gt_bad k,thenE_bad k,gt_err k]
   exact (gt_bad (x:=((0,0),_)) k).symm
 ·rw [gt_err h,gt_err h,gt_err h]
/-- A model and an error. -/
abbrev RS:=List (Int×Int)×Int
/-- What a computation on a model's sums does, told by what the program does. -/
structure Rl (S:List (Int×Int)) (r:Int->RS) (t:List (Int×Int)×Int):Prop where
 err:∀e,¬e=0->(r e).2=e
 ok:t.2=0->r 0=(t.1,0)
 bad:¬t.2=0->(r 0).2=t.2
/-- A place of the sums grows. -/
def rPut (S:RS) (n:Nat) (x:Int×Int):RS:=(S.1.set n (gt S.2 (sAdd (tAt S.1 n) x)).1,(gt S.2 (sAdd (tAt S.1 n) x)).2)
def rStep (a b:List (Int×Int)) (i j k l p q:Nat) (S:RS):RS :=
 if 5<i+j+k+l then rPut (S.1,(gt (gt S.2 (sMul (tAt a p) (tAt b q))).2 (sMul (gt S.2 (sMul (tAt a p) (tAt b q))).1 (tReach (i+k) (j+l)))).2) 21 (gt (gt S.2 (sMul (tAt a p) (tAt b q))).2 (sMul (gt S.2 (sMul (tAt a p) (tAt b q))).1 (tReach (i+k) (j+l)))).1
 else rPut (S.1,(gt S.2 (sMul (tAt a p) (tAt b q))).2) (tPlace (i+k) (j+l)) (gt S.2 (sMul (tAt a p) (tAt b q))).1
def rInner (a b:List (Int×Int)) (i j p:Nat):List (Nat×Nat)->Nat->RS->RS
 | [],_,S=>S
 | (k,l)::r,q,S=>rInner a b i j p r (q+1) (rStep a b i j k l p q S)
def rOuter (a b:List (Int×Int)):List (Nat×Nat)->Nat->RS->RS
 | [],_,S=>S
 | (i,j)::r,p,S=>rOuter a b r (p+1) (rInner a b i j p tPairs 0 S)
def rGrow (S:RS) (x y:Int×Int):RS:=rPut (S.1,(gt S.2 (sMul x y)).2) 21 (gt S.2 (sMul x y)).1
theorem rPut_len (S:RS) (n:Nat) (x:Int×Int):(rPut S n x).1.length=S.1.length:=by unfold rPut;simp
theorem rStep_len (a b:List (Int×Int)) (i j k l p q:Nat) (S:RS):(rStep a b i j k l p q S).1.length=S.1.length:=by
 unfold rStep
 split<;>rw [rPut_len]
theorem rInner_len (a b:List (Int×Int)) (i j p:Nat):∀(l:List (Nat×Nat)) (q:Nat) (S:RS),(rInner a b i j p l q S).1.length=S.1.length
 | [],_,_=>rfl
 | (k,l)::r,q,S=>by rw [rInner,rInner_len a b i j p r,rStep_len]
theorem rOuter_len (a b:List (Int×Int)):∀(l:List (Nat×Nat)) (p:Nat) (S:RS),(rOuter a b l p S).1.length=S.1.length
 | [],_,_=>rfl
 | (i,j)::r,p,S=>by rw [rOuter,rOuter_len a b r,rInner_len]
theorem rGrow_len (S:RS) (x y:Int×Int):(rGrow S x y).1.length=S.1.length:=by unfold rGrow;rw [rPut_len]
theorem rPut_err {S:RS} (h:¬S.2=0) (n:Nat) (x:Int×Int):(rPut S n x).2=S.2:=by unfold rPut;rw [gt_err h]
theorem rPut_ok {S:List (Int×Int)} {n:Nat} {x:Int×Int}:Rl S (fun e=>rPut (S,e) n x) (thenE [] (sAdd (tAt S n) x) fun t=>(S.set n t,0)) where
 err:=fun e h=>rPut_err (S:=(S,e)) h n x
 ok:=fun h=>by
  unfold thenE at h ⊢
  split at h
  ·rename_i k
   unfold rPut
   rw [gt_ok k,if_pos k]
  ·exact absurd h ‹_›
 bad:=fun h=>by
  unfold thenE at h ⊢
  split at h
  ·exact absurd rfl h
  ·rename_i k
   unfold rPut
   rw [gt_bad k,if_neg k]
/-- A product first, and the sums with it. -/
theorem Rl.mul {S:List (Int×Int)} {x:(Int×Int)×Int} {r:(Int×Int)->Int->RS} {t:Int×Int->List (Int×Int)×Int} (h:∀w,Rl S (r w) (t w)):Rl S (fun e=>r (gt e x).1 (gt e x).2) (thenE [] x t) where
 err:=fun e k=>by simp only [gt_err k];exact (h _).err e k
 ok:=fun k=>by
  by_cases hx:x.2=0
  ·rw [thenE_ok hx] at k ⊢
   simp only [gt_ok hx]
   exact (h _).ok k
  ·rw [thenE_bad hx] at k
   exact absurd k hx
 bad:=fun k=>by
  by_cases hx:x.2=0
  ·rw [thenE_ok hx] at k ⊢
   simp only [gt_ok hx]
   exact (h _).bad k
  ·rw [thenE_bad hx]
   simp only [gt_bad hx]
   exact (h _).err _ hx
/-- One computation behind another. -/
theorem Rl.then {S:List (Int×Int)} {r:Int->RS} {t:List (Int×Int)×Int} {r2:RS->RS} {t2:List (Int×Int)->List (Int×Int)×Int} (h:Rl S r t) (h2:∀S,Rl S (fun e=>r2 (S,e)) (t2 S)):Rl S (fun e=>r2 (r e)) (thenE [] t t2) where
 err:=fun e k=>by
  have:=h.err e k
  have h3:=(h2 (r e).1).err (r e).2 (by rw [this];exact k)
  exact h3.trans this
 ok:=fun k=>by
  by_cases ht:t.2=0
  ·rw [thenE_ok ht] at k ⊢
   simp only [h.ok ht]
   exact (h2 _).ok k
  ·rw [thenE_bad ht] at k
   exact absurd k ht
 bad:=fun k=>by
  by_cases ht:t.2=0
  ·rw [thenE_ok ht] at k ⊢
   simp only [h.ok ht]
   exact (h2 _).bad k
  ·rw [thenE_bad ht]
   have:=h.bad ht
   have h3:=(h2 (r 0).1).err (r 0).2 (by rw [this];exact ht)
   exact h3.trans this
theorem Rl.id (S:List (Int×Int)):Rl S (fun e=>(S,e)) (S,0):=⟨fun _ _=>rfl,fun _=>rfl,fun h=>absurd rfl h⟩
theorem rStep_rl (a b:List (Int×Int)) (i j k l p q:Nat) (S:List (Int×Int)):Rl S (fun e=>rStep a b i j k l p q (S,e)) (tStep a b i j k l p q S):=by
 unfold rStep tStep
 by_cases h:5<i+j+k+l
 ·simp only [if_pos h]
  exact Rl.mul (r:=fun w e=>rPut (S,(gt e (sMul w (tReach (i+k) (j+l)))).2) 21 (gt e (sMul w (tReach (i+k) (j+l)))).1) fun w=>Rl.mul (r:=fun v e=>rPut (S,e) 21 v) fun _=>rPut_ok
 ·simp only [if_neg h]
  exact Rl.mul (r:=fun w e=>rPut (S,e) (tPlace (i+k) (j+l)) w) fun _=>rPut_ok
theorem rInner_rl (a b:List (Int×Int)) (i j p:Nat):∀(l:List (Nat×Nat)) (q:Nat) (S:List (Int×Int)),Rl S (fun e=>rInner a b i j p l q (S,e)) (tInner a b i j p l q S)
 | [],_,S=>Rl.id S
 | (k,l)::r,q,S=>(rStep_rl a b i j k l p q S).then (r2:=rInner a b i j p r (q+1)) fun S=>rInner_rl a b i j p r (q+1) S
theorem rOuter_rl (a b:List (Int×Int)):∀(l:List (Nat×Nat)) (p:Nat) (S:List (Int×Int)),Rl S (fun e=>rOuter a b l p (S,e)) (tOuter a b l p S)
 | [],_,S=>Rl.id S
 | (i,j)::r,p,S=>(rInner_rl a b i j p tPairs 0 S).then (r2:=rOuter a b r (p+1)) fun S=>rOuter_rl a b r (p+1) S
theorem rGrow_rl (S:List (Int×Int)) (x y:Int×Int):Rl S (fun e=>rGrow (S,e) x y) (tGrow S x y):=Rl.mul (r:=fun v e=>rPut (S,e) 21 v) fun _=>rPut_ok
/-- The products with the remainders. -/
def rRest (a b:List (Int×Int)) (S:RS):RS :=
 rGrow (rGrow ((rGrow (S.1,(rSweep a S.2).2) (rSweep a S.2).1 (tAt b 21)).1,(rSweep b (rGrow (S.1,(rSweep a S.2).2) (rSweep a S.2).1 (tAt b 21)).2).2) (tAt a 21) (rSweep b (rGrow (S.1,(rSweep a S.2).2) (rSweep a S.2).1 (tAt b 21)).2).1) (tAt a 21) (tAt b 21)
def rProduct (a b:List (Int×Int)) (e:Int):RS:=rRest a b (rOuter a b tPairs 0 (zeroM,e))
theorem rProduct_len (a b:List (Int×Int)) (e:Int):(rProduct a b e).1.length=22:=by
 unfold rProduct rRest
 rw [rGrow_len,rGrow_len,rGrow_len,rOuter_len]
 rfl
theorem rProduct_rl (a b:List (Int×Int)):Rl zeroM (rProduct a b) (tProduct a b):=by
 unfold tProduct
 refine (rOuter_rl a b tPairs 0 zeroM).then (r2:=rRest a b) fun S=>?_
 have h1:∀w,Rl S (fun e=>(fun (S:RS)=>rGrow (rGrow (S.1,(rSweep b S.2).2) (tAt a 21) (rSweep b S.2).1) (tAt a 21) (tAt b 21)) (rGrow (S,e) w (tAt b 21))) (thenE [] (tGrow S w (tAt b 21)) fun S=>thenE [] (tSweep b) fun s=>thenE [] (tGrow S (tAt a 21) s) fun S=>tGrow S (tAt a 21) (tAt b 21)):=fun w=>by
  refine (rGrow_rl S w (tAt b 21)).then (r2:=fun S=>rGrow (rGrow (S.1,(rSweep b S.2).2) (tAt a 21) (rSweep b S.2).1) (tAt a 21) (tAt b 21)) fun S=>?_
  have h2:=Rl.mul (S:=S) (x:=tSweep b) (r:=fun w e=>rGrow (rGrow (S,e) (tAt a 21) w) (tAt a 21) (tAt b 21)) (t:=fun s=>thenE [] (tGrow S (tAt a 21) s) fun S=>tGrow S (tAt a 21) (tAt b 21)) fun w=>(rGrow_rl S (tAt a 21) w).then (r2:=fun S=>rGrow S (tAt a 21) (tAt b 21)) fun S=>rGrow_rl S _ _
  simpa only [rSweep_eq] using h2
 have h3:=Rl.mul (S:=S) (x:=tSweep a) (r:=fun w e=>(fun (S:RS)=>rGrow (rGrow (S.1,(rSweep b S.2).2) (tAt a 21) (rSweep b S.2).1) (tAt a 21) (tAt b 21)) (rGrow (S,e) w (tAt b 21))) h1
 unfold rRest
 simpa only [rSweep_eq] using h3
/-- What is told in the end. -/
def rTold (r:RS):List (Int×Int)×Int:=if r.2=0 then r else (zeroM,r.2)
theorem rTold_eq {S:List (Int×Int)} {r:Int->RS} {t:List (Int×Int)×Int} (h:Rl S r t) (u:Unit×Int):rTold (r u.2)=((if (thenE [] u fun _=>t).2=0 then (thenE [] u fun _=>t).1 else zeroM),(thenE [] u fun _=>t).2):=by
 unfold rTold
 by_cases hu:u.2=0
 ·rw [thenE_ok hu,hu]
  by_cases k:t.2=0
  ·rw [h.ok k,if_pos rfl,if_pos k]
   exact Prod.ext rfl k.symm
  ·rw [if_neg (by rw [h.bad k];exact k),if_neg k,h.bad k]
 ·rw [thenE_bad hu,h.err _ hu,if_neg hu]
  simp only [if_neg hu]
end Mnc

/- Plain: what the reference of layer 21 computes for reciprocals and roots: its relative part, its series. No program here. -/
namespace Mnc
open Go
/-- An operation on the parts of a model from a place on. -/
def rPutF (f:Int×Int->Int×Int->(Int×Int)×Int) (a:List (Int×Int)) (s:Int×Int) (p:Nat) (S:RS):RS:=(S.1.set p (gt S.2 (f (tAt a p) s)).1,(gt S.2 (f (tAt a p) s)).2)
def rEachN (f:Int×Int->Int×Int->(Int×Int)×Int) (a:List (Int×Int)) (s:Int×Int):Nat->Nat->RS->RS
 | 0,_,S=>S
 | n+1,p,S=>rEachN f a s n (p+1) (rPutF f a s p S)
theorem rEachN_len (f:Int×Int->Int×Int->(Int×Int)×Int) (a:List (Int×Int)) (s:Int×Int):∀(n p:Nat) (S:RS),(rEachN f a s n p S).1.length=S.1.length
 | 0,_,_=>rfl
 | n+1,p,S=>by rw [rEachN,rEachN_len f a s n];simp [rPutF]
theorem drop_tAt {a:List (Int×Int)} {p:Nat} (h:p<a.length):a.drop p=tAt a p::a.drop (p+1):=by
 rw [List.drop_eq_getElem_cons h]
 congr 1
 simp [tAt,h]
theorem rEachN_rl (f:Int×Int->Int×Int->(Int×Int)×Int) (a:List (Int×Int)) (s:Int×Int):∀(n p:Nat) (S:List (Int×Int)),p+n=a.length->S.length=a.length ->
  Rl S (fun e=>rEachN f a s n p (S,e)) (thenE [] (tEach (fun x _=>f x s) (a.drop p) (a.drop p)) fun l=>(S.take p++l,0))
 | 0,p,S,h,k=>by
  rw [List.drop_eq_nil_of_le (by omega)]
  have e:(thenE [] (tEach (fun x _=>f x s) [] []) fun l=>(S.take p++l,0))=(S,0):=by
   show (S.take p++[],(0:Int))=(S,0)
   rw [List.append_nil,List.take_of_length_le (by omega)]
  rw [e]
  exact Rl.id S
 | n+1,p,S,h,k=>by
  have hp:p<a.length:=by omega
  rw [drop_tAt hp]
  have e:(thenE [] (tEach (fun x _=>f x s) (tAt a p::a.drop (p+1)) (tAt a p::a.drop (p+1))) fun l=>(S.take p++l,0)) =
    thenE [] (f (tAt a p) s) fun r=>thenE [] (tEach (fun x _=>f x s) (a.drop (p+1)) (a.drop (p+1))) fun l=>((S.set p r).take (p+1)++l,0):=by
   rw [tEach,thenE_assoc]
   congr 1
   funext r
   rw [thenE_assoc]
   congr 1
   funext l
   rw [thenE_pair,List.take_set,List.take_succ_eq_append_getElem (by omega),List.set_append_right _ _ (by simp;omega)]
   have:p-(S.take p).length=0:=by simp;omega
   rw [this]
   simp
  rw [e]
  exact Rl.mul (r:=fun w e=>rEachN f a s n (p+1) (S.set p w,e)) fun w=>by
   have h2:=rEachN_rl f a s n (p+1) (S.set p w) (by omega) (by simp [k])
   exact ⟨h2.err,h2.ok,h2.bad⟩
/-- The relative part, its bound and its E. -/
def rRel0 (a:List (Int×Int)) (e:Int):RS:=rEachN sDiv a (tAt a 0) 21 1 (a.set 0 (0,0),e)
/-- The relative part with its bound and its E, and the error. -/
def rRel (a:List (Int×Int)) (e:Int):(List (Int×Int)×(Int×Int)×(Int×Int))×Int :=
 (((rRel0 a e).1,(gt (rRel0 a e).2 (tBound (rRel0 a e).1)).1,(gt (gt (gt (rRel0 a e).2 (tBound (rRel0 a e).1)).2 (sMul (0,4294967296) (gt (rRel0 a e).2 (tBound (rRel0 a e).1)).1)).2 (sAdd (4294967296,4294967296) (gt (gt (rRel0 a e).2 (tBound (rRel0 a e).1)).2 (sMul (0,4294967296) (gt (rRel0 a e).2 (tBound (rRel0 a e).1)).1)).1)).1),
  (gt (gt (gt (rRel0 a e).2 (tBound (rRel0 a e).1)).2 (sMul (0,4294967296) (gt (rRel0 a e).2 (tBound (rRel0 a e).1)).1)).2 (sAdd (4294967296,4294967296) (gt (gt (rRel0 a e).2 (tBound (rRel0 a e).1)).2 (sMul (0,4294967296) (gt (rRel0 a e).2 (tBound (rRel0 a e).1)).1)).1)).2)
theorem sDiv_zero {c:Int×Int} (h:okS c) (hz:¬(c.1<=0/\0<=c.2)):sDiv (0,0) c=((0,0),0):=by
 have e:sDiv (0,0) c=_:=on2_ok okS_zero h
 have d:∀(up:Bool) (y:Int),dv up 0 y=0:=fun up y=>by
  unfold dv rnd
  cases up<;>split<;>simp
 rw [e,if_neg hz]
 simp only [d]
 rfl
theorem rRel0_rl {a:List (Int×Int)} (ha:a.length=22) (hc:okS (tAt a 0)) (hz:¬((tAt a 0).1<=0/\0<=(tAt a 0).2)):Rl (a.set 0 (0,0)) (rRel0 a) (tBy sDiv (a.set 0 (0,0)) (tAt a 0)):=by
 have h:=rEachN_rl sDiv a (tAt a 0) 21 1 (a.set 0 (0,0)) (by omega) (by simp)
 have e:tBy sDiv (a.set 0 (0,0)) (tAt a 0)=thenE [] (tEach (fun x _=>sDiv x (tAt a 0)) (a.drop 1) (a.drop 1)) fun l=>((a.set 0 (0,0)).take 1++l,0):=by
  match a,ha with
  | x::a,_ =>
   unfold tBy
   rw [List.set_cons_zero,tEach,sDiv_zero hc hz,thenE_pair]
   rfl
 rw [e]
 exact h
def rScaled (a:List (Int×Int)) (s:Int×Int) (e:Int):RS:=rEachN sMul a s 22 0 (zeroM,e)
theorem thenE_id {x:List (Int×Int)×Int} {S:List (Int×Int)} {r:Int->RS} (h:Rl S r (thenE [] x fun l=>(l,0))):Rl S r x:=by
 by_cases k:x.2=0
 ·rw [thenE_ok k] at h
  have e:(x.1,(0:Int))=x:=Prod.ext rfl k.symm
  rwa [e] at h
 ·rw [thenE_bad k] at h
  exact ⟨h.err,fun g=>absurd g k,fun _=>h.bad k⟩
theorem rScaled_rl {a:List (Int×Int)} (ha:a.length=22) (s:Int×Int):Rl zeroM (rScaled a s) (tBy sMul a s):=by
 have h:=rEachN_rl sMul a s 22 0 zeroM (by omega) (by rw [ha];rfl)
 exact thenE_id (x:=tBy sMul a s) h
theorem rDivAll_rl {m:List (Int×Int)} (hm:m.length=22) (s:Int×Int):Rl m (fun e=>rEachN sDiv m s 22 0 (m,e)) (tBy sDiv m s):=by
 have h:=rEachN_rl sDiv m s 22 0 m (by omega) rfl
 exact thenE_id (x:=tBy sDiv m s) h
/-- The series; the numbers stand with the greatest power first. -/
def rSeries (h:List (Int×Int)):List Int->RS->RS
 | [],m=>m
 | s::r,m=>rSeries h r ((rProduct h m.1 m.2).1.set 0 (gt (rProduct h m.1 m.2).2 (sAdd (tAt (rProduct h m.1 m.2).1 0) (s,s))).1,(gt (rProduct h m.1 m.2).2 (sAdd (tAt (rProduct h m.1 m.2).1 0) (s,s))).2)
theorem rSeries_len (h:List (Int×Int)):∀(l:List Int) (m:RS),m.1.length=22->(rSeries h l m).1.length=22
 | [],_,k=>k
 | s::r,m,_=>rSeries_len h r _ (by simp [rProduct_len])
theorem Rl.of {S S':List (Int×Int)} {r:Int->RS} {t:List (Int×Int)×Int} (h:Rl S r t):Rl S' r t:=⟨h.err,h.ok,h.bad⟩
theorem rSeries_rl (h:List (Int×Int)):∀(l:List Int) (m:List (Int×Int)),Rl m (fun e=>rSeries h l (m,e)) (tSeries h l m)
 | [],m=>Rl.id m
 | s::r,m=>by
  have h1:=(rProduct_rl h m).of (S':=m)
  refine h1.then (r2:=fun P=>rSeries h r (P.1.set 0 (gt P.2 (sAdd (tAt P.1 0) (s,s))).1,(gt P.2 (sAdd (tAt P.1 0) (s,s))).2)) (t2:=fun m=>thenE [] (sAdd (tAt m 0) (s,s)) fun c=>tSeries h r (m.set 0 c)) fun P=>?_
  exact Rl.mul (S:=P) (x:=sAdd (tAt P 0) (s,s)) (r:=fun w e=>rSeries h r (P.set 0 w,e)) (t:=fun c=>tSeries h r (P.set 0 c)) fun w=>(rSeries_rl h r (P.set 0 w)).of
end Mnc

/- Plain: the reference's reciprocal is the program's. -/
namespace Mnc
open Go
theorem rRel_err (a:List (Int×Int)) {e:Int} (h:¬e=0) (hr:∀e,¬e=0->(rRel0 a e).2=e):(rRel a e).2=e:=by
 unfold rRel
 simp only [hr e h,gt_err h]
theorem rRel_ok {a:List (Int×Int)} (hr:Rl (a.set 0 (0,0)) (rRel0 a) (tBy sDiv (a.set 0 (0,0)) (tAt a 0))) (h:(tRelative a).2=0):rRel a 0=((tRelative a).1,0):=by
 unfold tRelative at h ⊢
 unfold rRel
 by_cases h1:(tBy sDiv (a.set 0 (0,0)) (tAt a 0)).2=0
 ·rw [thenE_ok h1] at h ⊢
  simp only [hr.ok h1]
  by_cases h2:(tBound (tBy sDiv (a.set 0 (0,0)) (tAt a 0)).1).2=0
  ·rw [thenE_ok h2] at h ⊢
   simp only [gt_ok h2]
   by_cases h3:(sMul (0,4294967296) (tBound (tBy sDiv (a.set 0 (0,0)) (tAt a 0)).1).1).2=0
   ·rw [thenE_ok h3] at h ⊢
    simp only [gt_ok h3]
    by_cases h4:(sAdd (4294967296,4294967296) (sMul (0,4294967296) (tBound (tBy sDiv (a.set 0 (0,0)) (tAt a 0)).1).1).1).2=0
    ·rw [thenE_ok h4]
     simp only [gt_ok h4]
    ·rw [thenE_bad h4] at h
     exact absurd h h4
   ·rw [thenE_bad h3] at h
    exact absurd h h3
  ·rw [thenE_bad h2] at h
   exact absurd h h2
 ·rw [thenE_bad h1] at h
  exact absurd h h1
theorem rRel_bad {a:List (Int×Int)} (hr:Rl (a.set 0 (0,0)) (rRel0 a) (tBy sDiv (a.set 0 (0,0)) (tAt a 0))) (h:¬(tRelative a).2=0):(rRel a 0).2=(tRelative a).2:=by
 unfold tRelative at h ⊢
 unfold rRel
 by_cases h1:(tBy sDiv (a.set 0 (0,0)) (tAt a 0)).2=0
 ·rw [thenE_ok h1] at h ⊢
  simp only [hr.ok h1]
  by_cases h2:(tBound (tBy sDiv (a.set 0 (0,0)) (tAt a 0)).1).2=0
  ·rw [thenE_ok h2] at h ⊢
   simp only [gt_ok h2]
   by_cases h3:(sMul (0,4294967296) (tBound (tBy sDiv (a.set 0 (0,0)) (tAt a 0)).1).1).2=0
   ·rw [thenE_ok h3] at h ⊢
    simp only [gt_ok h3]
    by_cases h4:(sAdd (4294967296,4294967296) (sMul (0,4294967296) (tBound (tBy sDiv (a.set 0 (0,0)) (tAt a 0)).1).1).1).2=0
    ·rw [thenE_ok h4] at h
     exact absurd rfl h
    ·rw [thenE_bad h4]
     simp only [gt_bad h4]
   ·rw [thenE_bad h3]
    simp only [gt_bad h3,gt_err h3]
  ·rw [thenE_bad h2]
   simp only [gt_bad h2,gt_err h2]
 ·rw [thenE_bad h1]
  have:=hr.bad h1
  simp only [this,gt_err h1]
/-- What the reciprocal does behind its relative part. -/
def rInvR (c:Int×Int) (R:List (Int×Int)×(Int×Int)×(Int×Int)) (e:Int):RS :=
 (fun (M:RS)=>(fun (six:(Int×Int)×Int)=>(fun (sev:(Int×Int)×Int)=>(fun (d:(Int×Int)×Int)=>(fun (t:(Int×Int)×Int) =>
  rEachN sDiv (M.1.set 21 t.1) c 22 0 (M.1.set 21 t.1,t.2)) (gt d.2 (sAdd (tAt M.1 21) d.1))) (gt sev.2 (sDiv six.1 sev.1))) (gt six.2 (sPow R.2.2 7))) (gt M.2 (sPow R.2.1 6)))
  (rSeries R.1 [4294967296,-4294967296,4294967296,-4294967296,4294967296] (zeroM.set 0 (-4294967296,-4294967296),e))
theorem rEachN_err (f:Int×Int->Int×Int->(Int×Int)×Int) (a:List (Int×Int)) (s:Int×Int) {e:Int} (h:¬e=0):∀(n p:Nat) (S:List (Int×Int)),(rEachN f a s n p (S,e)).2=e
 | 0,_,_=>rfl
 | n+1,p,S=>by
  rw [rEachN,rPutF]
  simp only [gt_err h]
  exact rEachN_err f a s h n (p+1) _
theorem rRel_err2 (a:List (Int×Int)) {e:Int} (h:¬e=0):(rRel a e).2=e:=rRel_err a h fun _ h=>rEachN_err sDiv a (tAt a 0) h 21 1 _
/-- One computation behind another; a property of what the first answers is handed on. -/
theorem Rl.thenP {S:List (Int×Int)} {r:Int->RS} {t:List (Int×Int)×Int} {r2:RS->RS} {t2:List (Int×Int)->List (Int×Int)×Int} (p:List (Int×Int)->Prop) (hp:∀e,p (r e).1) (h:Rl S r t) (h2:∀S,p S->Rl S (fun e=>r2 (S,e)) (t2 S)):Rl S (fun e=>r2 (r e)) (thenE [] t t2) where
 err:=fun e k=>by
  have:=h.err e k
  have h3:=(h2 (r e).1 (hp e)).err (r e).2 (by rw [this];exact k)
  exact h3.trans this
 ok:=fun k=>by
  by_cases ht:t.2=0
  ·rw [thenE_ok ht] at k ⊢
   have hq:=hp 0
   rw [h.ok ht] at hq
   simp only [h.ok ht]
   exact (h2 _ hq).ok k
  ·rw [thenE_bad ht] at k
   exact absurd k ht
 bad:=fun k=>by
  by_cases ht:t.2=0
  ·rw [thenE_ok ht] at k ⊢
   have hq:=hp 0
   rw [h.ok ht] at hq
   simp only [h.ok ht]
   exact (h2 _ hq).bad k
  ·rw [thenE_bad ht]
   have:=h.bad ht
   have h3:=(h2 (r 0).1 (hp 0)).err (r 0).2 (by rw [this];exact ht)
   exact h3.trans this
theorem rInvR_rl (c:Int×Int) (R:List (Int×Int)×(Int×Int)×(Int×Int)):Rl (zeroM.set 0 (-4294967296,-4294967296)) (rInvR c R)
  (thenE [] (tSeries R.1 [4294967296,-4294967296,4294967296,-4294967296,4294967296] (zeroM.set 0 (-4294967296,-4294967296))) fun m =>
   thenE [] (sPow R.2.1 6) fun six=>thenE [] (sPow R.2.2 7) fun sev=>thenE [] (sDiv six sev) fun d=>thenE [] (sAdd (tAt m 21) d) fun t=>tBy sDiv (m.set 21 t) c):=by
 refine Rl.thenP (fun m=>m.length=22) (fun e=>rSeries_len _ _ _ rfl) (rSeries_rl R.1 _ _) (r2:=fun M=>(fun (six:(Int×Int)×Int)=>(fun (sev:(Int×Int)×Int)=>(fun (d:(Int×Int)×Int)=>(fun (t:(Int×Int)×Int) =>
  rEachN sDiv (M.1.set 21 t.1) c 22 0 (M.1.set 21 t.1,t.2)) (gt d.2 (sAdd (tAt M.1 21) d.1))) (gt sev.2 (sDiv six.1 sev.1))) (gt six.2 (sPow R.2.2 7))) (gt M.2 (sPow R.2.1 6))) fun m hm=>?_
 refine Rl.mul (r:=fun six e=>(fun (sev:(Int×Int)×Int)=>(fun (d:(Int×Int)×Int)=>(fun (t:(Int×Int)×Int) =>
  rEachN sDiv (m.set 21 t.1) c 22 0 (m.set 21 t.1,t.2)) (gt d.2 (sAdd (tAt m 21) d.1))) (gt sev.2 (sDiv six sev.1))) (gt e (sPow R.2.2 7))) fun six=>?_
 refine Rl.mul (r:=fun sev e=>(fun (d:(Int×Int)×Int)=>(fun (t:(Int×Int)×Int) =>
  rEachN sDiv (m.set 21 t.1) c 22 0 (m.set 21 t.1,t.2)) (gt d.2 (sAdd (tAt m 21) d.1))) (gt e (sDiv six sev))) fun sev=>?_
 refine Rl.mul (r:=fun d e=>(fun (t:(Int×Int)×Int) =>
  rEachN sDiv (m.set 21 t.1) c 22 0 (m.set 21 t.1,t.2)) (gt e (sAdd (tAt m 21) d))) fun d=>?_
 exact Rl.mul (r:=fun t e=>rEachN sDiv (m.set 21 t) c 22 0 (m.set 21 t,e)) fun t=>(rDivAll_rl (by rw [List.length_set];exact hm) c).of
theorem rTold_0 {S:List (Int×Int)} {r:Int->RS} {t:List (Int×Int)×Int} (h:Rl S r t):rTold (r 0)=(if t.2=0 then t.1 else zeroM,t.2):=rTold_eq h ((),0)
theorem rTold_er {r:RS} (h:¬r.2=0):rTold r=(zeroM,r.2):=if_neg h
def rInverse (a:List (Int×Int)) (e:Int):List (Int×Int)×Int :=
 if e=0/\(tAt a 0).1<=0/\0<=(tAt a 0).2 then (zeroM,7) else if (rRel a e).2=0/\(rRel a e).1.2.2.1<=0 then (zeroM,7) else rTold (rInvR (tAt a 0) (rRel a e).1 (rRel a e).2)
theorem rInverse_er (a:List (Int×Int)) {e:Int} (h:¬e=0):rInverse a e=(zeroM,e):=by
 unfold rInverse
 rw [if_neg fun k=>h k.1,rRel_err2 a h,if_neg fun k=>h k.1]
 have:=(rInvR_rl (tAt a 0) (rRel a e).1).err e h
 rw [rTold_er (by rw [this];exact h),this]
theorem rInverse_0 {a:List (Int×Int)} (ha:a.length=22) (hv:∀s∈a,okS s):rInverse a 0=(if (tInverse a).2=0 then (tInverse a).1 else zeroM,(tInverse a).2):=by
 have hc:okS (tAt a 0):=by
  match a,ha with
  | x::a,_=>exact hv x (List.Mem.head _)
 unfold rInverse tInverse
 by_cases hz:(tAt a 0).1<=0/\0<=(tAt a 0).2
 ·rw [if_pos ⟨rfl,hz⟩,if_pos hz]
  rfl
 ·rw [if_neg fun k=>hz k.2,if_neg hz]
  have hr:=rRel0_rl ha hc hz
  by_cases h1:(tRelative a).2=0
  ·rw [rRel_ok hr h1,thenE_ok h1]
   dsimp only
   by_cases h2:(tRelative a).1.2.2.1<=0
   ·rw [if_pos ⟨rfl,h2⟩,if_pos h2]
    rfl
   ·rw [if_neg fun k=>h2 k.2,if_neg h2]
    exact rTold_0 (rInvR_rl (tAt a 0) (tRelative a).1)
  ·have hb:=rRel_bad hr h1
   rw [thenE_bad h1,if_neg fun k=>h1 (hb.symm.trans k.1)]
   have hk:¬(rRel a 0).2=0:=by rw [hb];exact h1
   have:=(rInvR_rl (tAt a 0) (rRel a 0).1).err _ hk
   rw [rTold_er (by rw [this];exact hk),this,hb]
   simp only [if_neg h1]
/-- What the root does behind its relative part. -/
def rSqR (c:Int×Int) (R:List (Int×Int)×(Int×Int)×(Int×Int)) (e:Int):RS :=
 (fun (M:RS)=>(fun (f:(Int×Int)×Int)=>(fun (q:(Int×Int)×Int)=>(fun (t:(Int×Int)×Int)=>(fun (six:(Int×Int)×Int)=>(fun (d:(Int×Int)×Int)=>(fun (g:(Int×Int)×Int)=>(fun (z:(Int×Int)×Int)=>(fun (k:(Int×Int)×Int) =>
  rScaled (M.1.set 21 z.1) k.1 k.2) (gt z.2 (sSqrt c))) (gt g.2 (sAdd (tAt M.1 21) g.1))) (gt d.2 (sMul (-88080384,-88080384) d.1))) (gt six.2 (sDiv six.1 t.1))) (gt t.2 (sPow R.2.1 6))) (gt q.2 (sMul f.1 q.1))) (gt f.2 (sSqrt R.2.2))) (gt M.2 (sPow R.2.2 5)))
  (rSeries R.1 [-167772160,268435456,-536870912,2147483648,4294967296] (zeroM.set 0 (117440512,117440512),e))
theorem rSqR_rl (c:Int×Int) (R:List (Int×Int)×(Int×Int)×(Int×Int)):Rl (zeroM.set 0 (117440512,117440512)) (rSqR c R)
  (thenE [] (tSeries R.1 [-167772160,268435456,-536870912,2147483648,4294967296] (zeroM.set 0 (117440512,117440512))) fun m =>
   thenE [] (sPow R.2.2 5) fun f=>thenE [] (sSqrt R.2.2) fun q=>thenE [] (sMul f q) fun t=>thenE [] (sPow R.2.1 6) fun six=>thenE [] (sDiv six t) fun d =>
    thenE [] (sMul (-88080384,-88080384) d) fun g=>thenE [] (sAdd (tAt m 21) g) fun z=>thenE [] (sSqrt c) fun c=>tBy sMul (m.set 21 z) c):=by
 refine Rl.thenP (fun m=>m.length=22) (fun e=>rSeries_len _ _ _ rfl) (rSeries_rl R.1 _ _) (r2:=fun M=>(fun (f:(Int×Int)×Int)=>(fun (q:(Int×Int)×Int)=>(fun (t:(Int×Int)×Int)=>(fun (six:(Int×Int)×Int)=>(fun (d:(Int×Int)×Int)=>(fun (g:(Int×Int)×Int)=>(fun (z:(Int×Int)×Int)=>(fun (k:(Int×Int)×Int) =>
  rScaled (M.1.set 21 z.1) k.1 k.2) (gt z.2 (sSqrt c))) (gt g.2 (sAdd (tAt M.1 21) g.1))) (gt d.2 (sMul (-88080384,-88080384) d.1))) (gt six.2 (sDiv six.1 t.1))) (gt t.2 (sPow R.2.1 6))) (gt q.2 (sMul f.1 q.1))) (gt f.2 (sSqrt R.2.2))) (gt M.2 (sPow R.2.2 5))) fun m hm=>?_
 refine Rl.mul (r:=fun f e=>(fun (q:(Int×Int)×Int)=>(fun (t:(Int×Int)×Int)=>(fun (six:(Int×Int)×Int)=>(fun (d:(Int×Int)×Int)=>(fun (g:(Int×Int)×Int)=>(fun (z:(Int×Int)×Int)=>(fun (k:(Int×Int)×Int) =>
  rScaled (m.set 21 z.1) k.1 k.2) (gt z.2 (sSqrt c))) (gt g.2 (sAdd (tAt m 21) g.1))) (gt d.2 (sMul (-88080384,-88080384) d.1))) (gt six.2 (sDiv six.1 t.1))) (gt t.2 (sPow R.2.1 6))) (gt q.2 (sMul f q.1))) (gt e (sSqrt R.2.2))) fun f=>?_
 refine Rl.mul (r:=fun q e=>(fun (t:(Int×Int)×Int)=>(fun (six:(Int×Int)×Int)=>(fun (d:(Int×Int)×Int)=>(fun (g:(Int×Int)×Int)=>(fun (z:(Int×Int)×Int)=>(fun (k:(Int×Int)×Int) =>
  rScaled (m.set 21 z.1) k.1 k.2) (gt z.2 (sSqrt c))) (gt g.2 (sAdd (tAt m 21) g.1))) (gt d.2 (sMul (-88080384,-88080384) d.1))) (gt six.2 (sDiv six.1 t.1))) (gt t.2 (sPow R.2.1 6))) (gt e (sMul f q))) fun q=>?_
 refine Rl.mul (r:=fun t e=>(fun (six:(Int×Int)×Int)=>(fun (d:(Int×Int)×Int)=>(fun (g:(Int×Int)×Int)=>(fun (z:(Int×Int)×Int)=>(fun (k:(Int×Int)×Int) =>
  rScaled (m.set 21 z.1) k.1 k.2) (gt z.2 (sSqrt c))) (gt g.2 (sAdd (tAt m 21) g.1))) (gt d.2 (sMul (-88080384,-88080384) d.1))) (gt six.2 (sDiv six.1 t))) (gt e (sPow R.2.1 6))) fun t=>?_
 refine Rl.mul (r:=fun six e=>(fun (d:(Int×Int)×Int)=>(fun (g:(Int×Int)×Int)=>(fun (z:(Int×Int)×Int)=>(fun (k:(Int×Int)×Int) =>
  rScaled (m.set 21 z.1) k.1 k.2) (gt z.2 (sSqrt c))) (gt g.2 (sAdd (tAt m 21) g.1))) (gt d.2 (sMul (-88080384,-88080384) d.1))) (gt e (sDiv six t))) fun six=>?_
 refine Rl.mul (r:=fun d e=>(fun (g:(Int×Int)×Int)=>(fun (z:(Int×Int)×Int)=>(fun (k:(Int×Int)×Int) =>
  rScaled (m.set 21 z.1) k.1 k.2) (gt z.2 (sSqrt c))) (gt g.2 (sAdd (tAt m 21) g.1))) (gt e (sMul (-88080384,-88080384) d))) fun d=>?_
 refine Rl.mul (r:=fun g e=>(fun (z:(Int×Int)×Int)=>(fun (k:(Int×Int)×Int) =>
  rScaled (m.set 21 z.1) k.1 k.2) (gt z.2 (sSqrt c))) (gt e (sAdd (tAt m 21) g))) fun g=>?_
 refine Rl.mul (r:=fun z e=>(fun (k:(Int×Int)×Int)=>rScaled (m.set 21 z) k.1 k.2) (gt e (sSqrt c))) fun z=>?_
 exact Rl.mul (r:=fun k e=>rScaled (m.set 21 z) k e) fun k=>(rScaled_rl (by rw [List.length_set];exact hm) k).of
def rSqrt (a:List (Int×Int)) (e:Int):List (Int×Int)×Int :=
 if e=0/\(tAt a 0).1<=0 then (zeroM,7) else if ¬(rRel a e).2=0 then (zeroM,(rRel a e).2) else if (rRel a e).1.2.2.1<=0 then (zeroM,7) else rTold (rSqR (tAt a 0) (rRel a e).1 (rRel a e).2)
theorem rSqrt_er (a:List (Int×Int)) {e:Int} (h:¬e=0):rSqrt a e=(zeroM,e):=by
 unfold rSqrt
 rw [if_neg fun k=>h k.1,rRel_err2 a h,if_pos h]
theorem rSqrt_0 {a:List (Int×Int)} (ha:a.length=22) (hv:∀s∈a,okS s):rSqrt a 0=(if (tSqrt a).2=0 then (tSqrt a).1 else zeroM,(tSqrt a).2):=by
 have hc:okS (tAt a 0):=by
  match a,ha with
  | x::a,_=>exact hv x (List.Mem.head _)
 unfold rSqrt tSqrt
 by_cases hz:(tAt a 0).1<=0
 ·rw [if_pos ⟨rfl,hz⟩,if_pos hz]
  rfl
 ·rw [if_neg fun k=>hz k.2,if_neg hz]
  have hr:=rRel0_rl ha hc fun k=>hz k.1
  by_cases h1:(tRelative a).2=0
  ·rw [rRel_ok hr h1,thenE_ok h1,if_neg fun k=>k rfl]
   dsimp only
   by_cases h2:(tRelative a).1.2.2.1<=0
   ·rw [if_pos h2,if_pos h2]
    rfl
   ·rw [if_neg h2,if_neg h2]
    exact rTold_0 (rSqR_rl (tAt a 0) (tRelative a).1)
  ·have hb:=rRel_bad hr h1
   rw [thenE_bad h1,hb,if_pos h1]
   simp only [if_neg h1]
end Mnc
