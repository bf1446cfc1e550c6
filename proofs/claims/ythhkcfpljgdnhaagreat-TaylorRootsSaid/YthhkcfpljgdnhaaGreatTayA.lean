/- Package taylor: the pairs of exponents, ranged over: whatever its rounds do. -/
import Derived.RangeFuncSeq
import Derived.LoopIn
import Derived.OwnWalkIn
import Derived.RangeFuncBox
import Derived.Deep.RegionLaw
import Derived.Deep.RegionLawGrows
import Derived.RangeFuncNested
import Derived.Test.YthhkcfpljgdnhaaGreatFixX
import Derived.Test.YthhkcfpljgdnhaaGreatRegX
import Derived.Test.YthhkcfpljgdnhaaGreatTayPl
namespace Go.Proofs.YthhkcfpljgdnhaaGreat
open Go.RowKit Mnc
attribute [local go_sem] Oper.semAt_some

/-- The pairs, one after the other: J s i W is what holds ahead of the pair (i, s - i). -/
theorem tay_pairs (n l:Nat) (J:Nat->Nat->World->Prop) (D:World->Prop) (Pn:List PanicEntry->World->Prop)
  (hy:∀s i W,i<=s->s<=5->J s i W->YieldAt Fence.wide (n-1) Tryz.prog l #[.int .i64 i,.int .i64 ((s-i:Nat):Int)] W fun e W'=>(e=.returned (.bool true)/\J s (i+1) W')∨(e=.returned (.bool false)/\D W')∨∃c,e=.panicked c/\Pn c W')
  (hn:∀s W,s<=5->J s (s+1) W->J (s+1) 0 W) (W:World) (h0:J 0 0 W) :
  CallsIn Fence.wide n Tryz.prog 59 #[.func (.yield l) #[] #[]] W fun e W'=>((∃v,e=.returned v)/\(J 6 0 W'∨D W'))∨∃c,e=.panicked c/\Pn c W':=by
 have HY:=lh hy
 have HN:=lh hn
 clear hy hn
 refine callsIn_of_wp Tryz.func59 rfl trivial ?_ rfl
 simp only [Tryz.ntmps59,List.size_toArray,List.length_cons,List.length_nil,Nat.reduceAdd,Nat.reduceSub,Array.replicate_succ,Array.replicate_zero,List.push_toArray,List.append_toArray,List.nil_append,List.cons_append]
 gi_wp2
 gi_loopw [4] (fun x wr=>∃s:Nat,s<=6/\x=.int .i64 s/\Hid (J s 0 wr)) (fun x _=>6-(intOf x).toNat)
 case atStart=>exact ⟨0,by omega,rfl,lh h0⟩
 case round =>
  clear h0
  obtain ⟨s,hs,rfl,HJ⟩:=hrel
  rcases Nat.lt_or_ge s 6 with hs' | hs'
  ·have hd:decide ((s:Int)<6)=true:=by simp;omega
   gi_wp2
   gi_loopw [3,9] (fun _ x wx=>∃i:Nat,i<=s+1/\x=.int .i64 i/\Hid (J s i wx)) (fun _ x _=>s+1-(intOf x).toNat)
   case atStart=>exact ⟨0,by omega,rfl,HJ⟩
   case round =>
    clear HJ
    obtain ⟨i,hi,rfl,HJ⟩:=hrel
    rcases Nat.lt_or_ge i (s+1) with hi' | hi'
    ·obtain ⟨fn,tmps,assign,body,hy,hR⟩:=HY.out s i _ (by omega) (by omega) HJ.out
     rw [show ((s-i:Nat):Int)=(s:Int)-i by omega] at hy
     gi_wp2
     refine ⟨fun h=>(by cases h),hR.mono ?_⟩
     rintro e W3 (⟨rfl,hJ⟩ | ⟨rfl,hD⟩ | ⟨c,rfl,hP⟩)
     ·have HJ3:=lh hJ
      clear hJ hy hR
      gi_wp2
      go_roundw
      case rel=>first | exact ⟨i+1,by omega,by go_num,HJ3⟩ | ((repeat apply Exists.intro);exact ⟨⟨i+1,by omega,by go_num,HJ3⟩,rfl⟩)
      case measure=>simp [intOf];omega
     ·have HD:=lh hD
      clear hD hy hR
      gi_wp2
      refine bodyPost_ret (results_none rfl _ _ _) rfl ?_
      exact .inl ⟨⟨_,rfl⟩,.inr HD.out⟩
     ·have HPN:=lh hP
      clear hP hy hR
      gi_wp2
      exact ⟨rfl,.inr ⟨_,rfl,HPN.out⟩⟩
    ·obtain rfl:i=s+1:=by omega
     have HJ3:=lh (HN.out s _ (by omega) HJ.out)
     gi_wp2
     go_roundw
     case rel=>first | exact ⟨s+1,by omega,by go_num,HJ3⟩ | ((repeat apply Exists.intro);exact ⟨⟨s+1,by omega,by go_num,HJ3⟩,rfl⟩)
     case measure=>simp [intOf];omega
  ·obtain rfl:s=6:=by omega
   gi_wp2
   go_end0
   exact .inl ⟨⟨_,rfl⟩,.inl HJ.out⟩
end Go.Proofs.YthhkcfpljgdnhaaGreat
